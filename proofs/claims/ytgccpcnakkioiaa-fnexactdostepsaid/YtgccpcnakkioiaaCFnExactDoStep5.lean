/- A part of the proof that the statement FnExactDoStepSaid holds, under no condition of its own: The program's DoStep and the reference's return the same, and what is returned is held by nobody else: over lists of numbers alone. -/
import Derived.Test.YtgccpcnakkioiaaCFnExactDoStep1
import Derived.Test.YtgccpcnakkioiaaCFnExactDoStep3
import Derived.Test.YtgccpcnakkioiaaCFnExactDoStep4
import Derived.Deep.Slices
import Derived.Deep.Fields
import Derived.ChangeSame
import Derived.ProofKit
import Derived.OpenShut
import Derived.ShutString
import Derived.ChangeOld
import Derived.SizedLaws
import GoSem.Claim
import Derived.Test.YtgccpcnakkioiaaCFnExactDoStep2
namespace Go.Proofs.Ytgccpcnakkioiaa.Q
open Go.RowKit Go.Proofs.YtgccpcnakkioiaaW.PrintWords Go.Proofs.YtgccpcnakkioiaaW.PrintLast Go.Proofs.YtgccpcnakkioiaaW.PrintMore
attribute [local go_sem] max2_int min2_int max_two min_two max_three min_three max_four min_four
set_option linter.unusedVariables false
set_option linter.unusedSimpArgs false
def laws_toStep.f (k : Nat) (a0_0 : Int) (a0_1 : Int) (a0_2 : Int) (a0_3 : Int) (a0_4 : Int) (l0_5 : List Int) : Option (Int × Int × Int × Int × Int × List Int) := (laws_toBox.f a0_1 a0_2 a0_3 a0_4).bind fun bt34004 => ((laws_toIntS.f k l0_5).bind fun t34008 => (some (a0_0, bt34004.1, bt34004.2.1, bt34004.2.2.1, bt34004.2.2.2, t34008)))
theorem laws_toStep.mono : ∀ a0 a1 a2 a3 a4 a5 k, LeO (laws_toStep.f k a0 a1 a2 a3 a4 a5) (laws_toStep.f (k + 1) a0 a1 a2 a3 a4 a5) := by
  intro a0 a1 a2 a3 a4 a5 k
  unfold laws_toStep.f
  repeat' first | (with_reducible exact laws_toIntS.mono _ _) | (with_reducible exact LeO.refl _) | (with_reducible refine LeO.bind ?_ (fun _ => ?_))
set_option maxHeartbeats 8000000 in
set_option maxRecDepth 100000 in
theorem laws_toStep.calls (k : Nat) (a0_0 : Int) (a0_1 : Int) (a0_2 : Int) (a0_3 : Int) (a0_4 : Int) (A0_5 : Option Addr) (c0_5 : Nat) (l0_5 : List Int) (r1 : Int) (r2 : Int) (r3 : Int) (r4 : Int) (r5 : Int) (r6 : List Int) (w : World) (hr0_5 : Kd.C (Kd.int .i64) w A0_5 l0_5.length l0_5) (hc0_5 : l0_5.length ≤ c0_5) (h : laws_toStep.f k a0_0 a0_1 a0_2 a0_3 a0_4 l0_5 = some (r1, r2, r3, r4, r5, r6)) :
    Calls Try.prog 33 #[.agg #[.int .i64 a0_0, .int .i64 a0_1, .int .i64 a0_2, .int .i64 a0_3, .int .i64 a0_4, .slice A0_5 l0_5.length c0_5]] w fun e w' => ∃ v5_ : Value, e = .returned (.agg #[.int .i64 r1, .int .i64 r2, .int .i64 r3, .int .i64 r4, .int .i64 r5, v5_]) ∧ Kd.R (Kd.int .i64) 3 w' w.heap.size (fun _ => True) v5_ r6 ∧ Below w.heap.size w w' := by
  have hu57 := Try.underlying57
  have hu43 := Try.underlying43
  have hu55 := Try.underlying55
  have hu41 := Try.underlying41
  have HR0_5 := Aside0.mk hr0_5
  have HC0_5 := Aside0.mk hc0_5
  clear hr0_5 hc0_5
  have HB := Aside0.mk (Below.refl w.heap.size w)
  have H : ((laws_toBox.f a0_1 a0_2 a0_3 a0_4).bind fun bt34004 => ((laws_toIntS.f k l0_5).bind fun t34008 => (some (a0_0, bt34004.1, bt34004.2.1, bt34004.2.2.1, bt34004.2.2.2, t34008)))) = some (r1, r2, r3, r4, r5, r6) := h
  clear h
  replace H := Option.bind_eq_some_iff.mp H
  obtain ⟨⟨t34004, t34005, t34006, t34007⟩, A20, H⟩ := H
  replace H : ((laws_toIntS.f k l0_5).bind fun t34008 => (some (a0_0, t34004, t34005, t34006, t34007, t34008))) = some (r1, r2, r3, r4, r5, r6) := H
  have A2 := Aside0.mk A20
  clear A20
  replace H := Option.bind_eq_some_iff.mp H
  obtain ⟨t34008, A30, H⟩ := H
  replace H : (some (a0_0, t34004, t34005, t34006, t34007, t34008)) = some (r1, r2, r3, r4, r5, r6) := H
  have A3 := Aside0.mk A30
  clear A30
  simp only [Option.some.injEq, Prod.mk.injEq] at H
  obtain ⟨rfl, rfl, rfl, rfl, rfl, rfl⟩ := H
  go_enter Try.func33, Try.ntmps33
  go_wp2_with (first | ((with_reducible refine gate_dst (N := 1) rfl ?_); refine box_event ?hg (N := 1) ?hd (cs := #[.int .i64 a0_0, .int .i64 a0_1, .int .i64 a0_2, .int .i64 a0_3, .int .i64 a0_4, .slice A0_5 l0_5.length c0_5]) (t := 57) ?hr ?_; (case hd => rfl); (case hg => rfl); (case hr => (go_simp; done)); intro gb34001 hg w4 hbox hb; have n0_ := Aside0.mk (below_step HB.out hb); have n1_ := Aside0.mk (hbox); have n2_ := Aside0.mk ((by rw [hg]; exact (below_size HB.out) : w.heap.size ≤ gb34001)); have n3_ := Aside0.mk ((by rw [hg]; exact (below_size HB.out) : w.heap.size ≤ gb34001)); clear HB; have HB := n0_; have BK34001 := n1_; have GW34001 := n2_; have GE34001 := n3_; clear n0_ n1_ n2_ n3_; clear hb hbox hg) | ((with_reducible refine gate_dst (N := 2) rfl ?_); refine box_event ?hg (N := 2) ?hd (cs := #[.int .i64 0, .int .i64 0, .int .i64 0, .int .i64 0, .int .i64 0, .slice none 0 0]) (t := 43) ?hr ?_; (case hd => rfl); (case hg => rfl); (case hr => (go_simp; done)); intro gb34002 hg w5 hbox hb; have n0_ := Aside0.mk (blk_below BK34001.out hb); have n1_ := Aside0.mk (below_step HB.out hb); have n2_ := Aside0.mk (hbox); have n3_ := Aside0.mk ((by rw [hg]; exact (below_size HB.out) : w.heap.size ≤ gb34002)); have n4_ := Aside0.mk ((by rw [hg]; exact (below_size HB.out) : w.heap.size ≤ gb34002)); have n5_ := Aside0.mk ((by rw [hg]; exact Nat.ne_of_lt (blk_lt BK34001.out) : gb34001 ≠ gb34002)); have n6_ := Aside0.mk ((by rw [hg]; exact Nat.ne_of_gt (blk_lt BK34001.out) : gb34002 ≠ gb34001)); clear BK34001; clear HB; have BK34001 := n0_; have HB := n1_; have BK34002 := n2_; have GW34002 := n3_; have GE34002 := n4_; have NB34001_34002 := n5_; have NB34002_34001 := n6_; clear n0_ n1_ n2_ n3_ n4_ n5_ n6_; clear hb hbox hg) | ((with_reducible refine gate_dst (N := 3) rfl ?_); refine box_event ?hg (N := 3) ?hd (cs := #[.int .i64 0, .int .i64 0, .int .i64 0, .int .i64 0, .int .i64 0, .slice none 0 0]) (t := 43) ?hr ?_; (case hd => rfl); (case hg => rfl); (case hr => (go_simp; done)); intro gb34003 hg w6 hbox hb; have n0_ := Aside0.mk (blk_below BK34001.out hb); have n1_ := Aside0.mk (blk_below BK34002.out hb); have n2_ := Aside0.mk (below_step HB.out hb); have n3_ := Aside0.mk (hbox); have n4_ := Aside0.mk ((by rw [hg]; exact (below_size HB.out) : w.heap.size ≤ gb34003)); have n5_ := Aside0.mk ((by rw [hg]; exact (below_size HB.out) : w.heap.size ≤ gb34003)); have n6_ := Aside0.mk ((by rw [hg]; exact Nat.ne_of_lt (blk_lt BK34001.out) : gb34001 ≠ gb34003)); have n7_ := Aside0.mk ((by rw [hg]; exact Nat.ne_of_gt (blk_lt BK34001.out) : gb34003 ≠ gb34001)); have n8_ := Aside0.mk ((by rw [hg]; exact Nat.ne_of_lt (blk_lt BK34002.out) : gb34002 ≠ gb34003)); have n9_ := Aside0.mk ((by rw [hg]; exact Nat.ne_of_gt (blk_lt BK34002.out) : gb34003 ≠ gb34002)); clear BK34001; clear BK34002; clear HB; have BK34001 := n0_; have BK34002 := n1_; have HB := n2_; have BK34003 := n3_; have GW34003 := n4_; have GE34003 := n5_; have NB34001_34003 := n6_; have NB34003_34001 := n7_; have NB34002_34003 := n8_; have NB34003_34002 := n9_; clear n0_ n1_ n2_ n3_ n4_ n5_ n6_ n7_ n8_ n9_; clear hb hbox hg; have hnb7 := NB34001_34002.out; have hnc7 := NB34002_34001.out; have hnb8 := NB34001_34003.out; have hnc8 := NB34003_34001.out; have hcz9_0 : w6.cell? ⟨gb34001, 0, none⟩ = some (.int .i64 a0_0) := (blk_cell BK34001.out 0).trans rfl; have hcz9_1 : w6.cell? ⟨gb34001, 1, none⟩ = some (.int .i64 a0_1) := (blk_cell BK34001.out 1).trans rfl; have hcz9_2 : w6.cell? ⟨gb34001, 2, none⟩ = some (.int .i64 a0_2) := (blk_cell BK34001.out 2).trans rfl; have hcz9_3 : w6.cell? ⟨gb34001, 3, none⟩ = some (.int .i64 a0_3) := (blk_cell BK34001.out 3).trans rfl; have hcz9_4 : w6.cell? ⟨gb34001, 4, none⟩ = some (.int .i64 a0_4) := (blk_cell BK34001.out 4).trans rfl; have hcz9_5 : w6.cell? ⟨gb34001, 5, none⟩ = some (.slice A0_5 l0_5.length c0_5) := (blk_cell BK34001.out 5).trans rfl; have hfz9_0 := blk_frozen BK34001.out 0; have hfz9_1 := blk_frozen BK34001.out 1; have hfz9_2 := blk_frozen BK34001.out 2; have hfz9_3 := blk_frozen BK34001.out 3; have hfz9_4 := blk_frozen BK34001.out 4; have hfz9_5 := blk_frozen BK34001.out 5; have hnb10 := NB34003_34002.out; have hnc10 := NB34002_34003.out; have hcz11_0 : w6.cell? ⟨gb34003, 0, none⟩ = some (.int .i64 0) := (blk_cell BK34003.out 0).trans rfl; have hcz11_1 : w6.cell? ⟨gb34003, 1, none⟩ = some (.int .i64 0) := (blk_cell BK34003.out 1).trans rfl; have hcz11_2 : w6.cell? ⟨gb34003, 2, none⟩ = some (.int .i64 0) := (blk_cell BK34003.out 2).trans rfl; have hcz11_3 : w6.cell? ⟨gb34003, 3, none⟩ = some (.int .i64 0) := (blk_cell BK34003.out 3).trans rfl; have hcz11_4 : w6.cell? ⟨gb34003, 4, none⟩ = some (.int .i64 0) := (blk_cell BK34003.out 4).trans rfl; have hcz11_5 : w6.cell? ⟨gb34003, 5, none⟩ = some (.slice none 0 0) := (blk_cell BK34003.out 5).trans rfl; have hfz11_0 := blk_frozen BK34003.out 0; have hfz11_1 := blk_frozen BK34003.out 1; have hfz11_2 := blk_frozen BK34003.out 2; have hfz11_3 := blk_frozen BK34003.out 3; have hfz11_4 := blk_frozen BK34003.out 4; have hfz11_5 := blk_frozen BK34003.out 5) | ((with_reducible refine gate_callee (f := 64) rfl ?_); refine goesL_ (some 9) rfl rfl Try.func64 (by kernel_rfl) rfl #[.agg #[.int .i64 a0_1, .int .i64 a0_2, .int .i64 a0_3, .int .i64 a0_4]] rfl (by (try simp only [List.map_toArray, List.map_cons, List.map_nil]); rfl) ?_; (with_reducible refine (laws_toBox.calls a0_1 a0_2 a0_3 a0_4 t34004 t34005 t34006 t34007 _ A2.out).mono ?_); rintro e w12 ⟨rfl, hb⟩; refine ⟨_, rfl, ?_⟩; have n0_ := Aside0.mk (blk_below (g := gb34001) (o := .cells #[.int .i64 a0_0, .int .i64 a0_1, .int .i64 a0_2, .int .i64 a0_3, .int .i64 a0_4, .slice A0_5 l0_5.length c0_5] 57 (0, 0)) (by refine blk_far ?_ NB34001_34003.out _; (with_reducible repeat (first | refine blk_drewN ?_ _ | refine blk_drew ?_ | refine blk_alloc ?_ _)); exact BK34001.out) hb); have n1_ := Aside0.mk (blk_below (g := gb34002) (o := .cells #[.int .i64 0, .int .i64 0, .int .i64 0, .int .i64 0, .int .i64 0, .slice none 0 0] 43 (0, 0)) (by refine blk_far ?_ NB34002_34003.out _; (with_reducible repeat (first | refine blk_drewN ?_ _ | refine blk_drew ?_ | refine blk_alloc ?_ _)); exact BK34002.out) hb); have n2_ := Aside0.mk (blk_below (g := gb34003) (o := .cells #[.int .i64 a0_0, .int .i64 0, .int .i64 0, .int .i64 0, .int .i64 0, .slice none 0 0] 43 (0, 0)) (by refine blk_put (cs := #[.int .i64 0, .int .i64 0, .int .i64 0, .int .i64 0, .int .i64 0, .slice none 0 0]) ?_ 0 _ rfl; (with_reducible repeat (first | refine blk_drewN ?_ _ | refine blk_drew ?_ | refine blk_alloc ?_ _)); exact BK34003.out) hb); have n3_ := Aside0.mk (below_step (by repeat (with_reducible first | exact HB.out | refine below_set ?_ GE34003.out)) hb); clear BK34001; clear BK34002; clear BK34003; clear HB; have BK34001 := n0_; have BK34002 := n1_; have BK34003 := n2_; have HB := n3_; clear n0_ n1_ n2_ n3_; (try clear hb); have hcz13_0 : w12.cell? ⟨gb34003, 0, none⟩ = some (.int .i64 a0_0) := (blk_cell BK34003.out 0).trans rfl; have hcz13_1 : w12.cell? ⟨gb34003, 1, none⟩ = some (.int .i64 0) := (blk_cell BK34003.out 1).trans rfl; have hcz13_2 : w12.cell? ⟨gb34003, 2, none⟩ = some (.int .i64 0) := (blk_cell BK34003.out 2).trans rfl; have hcz13_3 : w12.cell? ⟨gb34003, 3, none⟩ = some (.int .i64 0) := (blk_cell BK34003.out 3).trans rfl; have hcz13_4 : w12.cell? ⟨gb34003, 4, none⟩ = some (.int .i64 0) := (blk_cell BK34003.out 4).trans rfl; have hcz13_5 : w12.cell? ⟨gb34003, 5, none⟩ = some (.slice none 0 0) := (blk_cell BK34003.out 5).trans rfl; have hfz13_0 := blk_frozen BK34003.out 0; have hfz13_1 := blk_frozen BK34003.out 1; have hfz13_2 := blk_frozen BK34003.out 2; have hfz13_3 := blk_frozen BK34003.out 3; have hfz13_4 := blk_frozen BK34003.out 4; have hfz13_5 := blk_frozen BK34003.out 5; have hcz14_0 : w12.cell? ⟨gb34001, 0, none⟩ = some (.int .i64 a0_0) := (blk_cell BK34001.out 0).trans rfl; have hcz14_1 : w12.cell? ⟨gb34001, 1, none⟩ = some (.int .i64 a0_1) := (blk_cell BK34001.out 1).trans rfl; have hcz14_2 : w12.cell? ⟨gb34001, 2, none⟩ = some (.int .i64 a0_2) := (blk_cell BK34001.out 2).trans rfl; have hcz14_3 : w12.cell? ⟨gb34001, 3, none⟩ = some (.int .i64 a0_3) := (blk_cell BK34001.out 3).trans rfl; have hcz14_4 : w12.cell? ⟨gb34001, 4, none⟩ = some (.int .i64 a0_4) := (blk_cell BK34001.out 4).trans rfl; have hcz14_5 : w12.cell? ⟨gb34001, 5, none⟩ = some (.slice A0_5 l0_5.length c0_5) := (blk_cell BK34001.out 5).trans rfl; have hfz14_0 := blk_frozen BK34001.out 0; have hfz14_1 := blk_frozen BK34001.out 1; have hfz14_2 := blk_frozen BK34001.out 2; have hfz14_3 := blk_frozen BK34001.out 3; have hfz14_4 := blk_frozen BK34001.out 4; have hfz14_5 := blk_frozen BK34001.out 5) | ((with_reducible refine gate_callee (f := 42) rfl ?_); refine goesL_ (some 13) rfl rfl Try.func42 (by kernel_rfl) rfl #[.slice A0_5 l0_5.length c0_5] rfl (by (try simp only [List.map_toArray, List.map_cons, List.map_nil]); rfl) ?_; (with_reducible refine (laws_toIntS.calls k _ _ l0_5 t34008 _ ?side1 ?side2 A3.out).mono ?_); (case side1 => exact Kd.C_below HR0_5.out (by repeat (with_reducible first | exact HB.out | refine below_set ?_ GE34003.out))); (case side2 => exact HC0_5.out); rintro e w15 ⟨v34009, rfl, ho0, hb⟩; refine ⟨_, rfl, ?_⟩; have n0_ := Aside0.mk (Kd.R_lower ho0 (below_size (by repeat (with_reducible first | exact HB.out | refine below_set ?_ GE34003.out)))); have n1_ := Aside0.mk (blk_below (g := gb34001) (o := .cells #[.int .i64 a0_0, .int .i64 a0_1, .int .i64 a0_2, .int .i64 a0_3, .int .i64 a0_4, .slice A0_5 l0_5.length c0_5] 57 (0, 0)) (by refine blk_far ?_ NB34001_34003.out _; (with_reducible repeat (first | refine blk_drewN ?_ _ | refine blk_drew ?_ | refine blk_alloc ?_ _)); refine blk_far ?_ NB34001_34003.out _; (with_reducible repeat (first | refine blk_drewN ?_ _ | refine blk_drew ?_ | refine blk_alloc ?_ _)); refine blk_far ?_ NB34001_34003.out _; (with_reducible repeat (first | refine blk_drewN ?_ _ | refine blk_drew ?_ | refine blk_alloc ?_ _)); refine blk_far ?_ NB34001_34003.out _; (with_reducible repeat (first | refine blk_drewN ?_ _ | refine blk_drew ?_ | refine blk_alloc ?_ _)); exact BK34001.out) hb); have n2_ := Aside0.mk (blk_below (g := gb34002) (o := .cells #[.int .i64 0, .int .i64 0, .int .i64 0, .int .i64 0, .int .i64 0, .slice none 0 0] 43 (0, 0)) (by refine blk_far ?_ NB34002_34003.out _; (with_reducible repeat (first | refine blk_drewN ?_ _ | refine blk_drew ?_ | refine blk_alloc ?_ _)); refine blk_far ?_ NB34002_34003.out _; (with_reducible repeat (first | refine blk_drewN ?_ _ | refine blk_drew ?_ | refine blk_alloc ?_ _)); refine blk_far ?_ NB34002_34003.out _; (with_reducible repeat (first | refine blk_drewN ?_ _ | refine blk_drew ?_ | refine blk_alloc ?_ _)); refine blk_far ?_ NB34002_34003.out _; (with_reducible repeat (first | refine blk_drewN ?_ _ | refine blk_drew ?_ | refine blk_alloc ?_ _)); exact BK34002.out) hb); have n3_ := Aside0.mk (blk_below (g := gb34003) (o := .cells #[.int .i64 a0_0, .int .i64 t34004, .int .i64 t34005, .int .i64 t34006, .int .i64 t34007, .slice none 0 0] 43 (0, 0)) (by refine blk_put (cs := #[.int .i64 a0_0, .int .i64 t34004, .int .i64 t34005, .int .i64 t34006, .int .i64 0, .slice none 0 0]) ?_ 4 _ rfl; (with_reducible repeat (first | refine blk_drewN ?_ _ | refine blk_drew ?_ | refine blk_alloc ?_ _)); refine blk_put (cs := #[.int .i64 a0_0, .int .i64 t34004, .int .i64 t34005, .int .i64 0, .int .i64 0, .slice none 0 0]) ?_ 3 _ rfl; (with_reducible repeat (first | refine blk_drewN ?_ _ | refine blk_drew ?_ | refine blk_alloc ?_ _)); refine blk_put (cs := #[.int .i64 a0_0, .int .i64 t34004, .int .i64 0, .int .i64 0, .int .i64 0, .slice none 0 0]) ?_ 2 _ rfl; (with_reducible repeat (first | refine blk_drewN ?_ _ | refine blk_drew ?_ | refine blk_alloc ?_ _)); refine blk_put (cs := #[.int .i64 a0_0, .int .i64 0, .int .i64 0, .int .i64 0, .int .i64 0, .slice none 0 0]) ?_ 1 _ rfl; (with_reducible repeat (first | refine blk_drewN ?_ _ | refine blk_drew ?_ | refine blk_alloc ?_ _)); exact BK34003.out) hb); have n4_ := Aside0.mk (below_step (by repeat (with_reducible first | exact HB.out | refine below_set ?_ GE34003.out)) hb); clear BK34001; clear BK34002; clear BK34003; clear HB; have HO34010 := n0_; have BK34001 := n1_; have BK34002 := n2_; have BK34003 := n3_; have HB := n4_; clear n0_ n1_ n2_ n3_ n4_; (try clear hb); (try clear ho0); obtain ⟨Ao16, co16, eo16⟩ := Kd.R_slice HO34010.out; subst eo16; have hcz17_0 : w15.cell? ⟨gb34003, 0, none⟩ = some (.int .i64 a0_0) := (blk_cell BK34003.out 0).trans rfl; have hcz17_1 : w15.cell? ⟨gb34003, 1, none⟩ = some (.int .i64 t34004) := (blk_cell BK34003.out 1).trans rfl; have hcz17_2 : w15.cell? ⟨gb34003, 2, none⟩ = some (.int .i64 t34005) := (blk_cell BK34003.out 2).trans rfl; have hcz17_3 : w15.cell? ⟨gb34003, 3, none⟩ = some (.int .i64 t34006) := (blk_cell BK34003.out 3).trans rfl; have hcz17_4 : w15.cell? ⟨gb34003, 4, none⟩ = some (.int .i64 t34007) := (blk_cell BK34003.out 4).trans rfl; have hcz17_5 : w15.cell? ⟨gb34003, 5, none⟩ = some (.slice none 0 0) := (blk_cell BK34003.out 5).trans rfl; have hfz17_0 := blk_frozen BK34003.out 0; have hfz17_1 := blk_frozen BK34003.out 1; have hfz17_2 := blk_frozen BK34003.out 2; have hfz17_3 := blk_frozen BK34003.out 3; have hfz17_4 := blk_frozen BK34003.out 4; have hfz17_5 := blk_frozen BK34003.out 5; have hcz18_0 : w15.cell? ⟨gb34002, 0, none⟩ = some (.int .i64 0) := (blk_cell BK34002.out 0).trans rfl; have hcz18_1 : w15.cell? ⟨gb34002, 1, none⟩ = some (.int .i64 0) := (blk_cell BK34002.out 1).trans rfl; have hcz18_2 : w15.cell? ⟨gb34002, 2, none⟩ = some (.int .i64 0) := (blk_cell BK34002.out 2).trans rfl; have hcz18_3 : w15.cell? ⟨gb34002, 3, none⟩ = some (.int .i64 0) := (blk_cell BK34002.out 3).trans rfl; have hcz18_4 : w15.cell? ⟨gb34002, 4, none⟩ = some (.int .i64 0) := (blk_cell BK34002.out 4).trans rfl; have hcz18_5 : w15.cell? ⟨gb34002, 5, none⟩ = some (.slice none 0 0) := (blk_cell BK34002.out 5).trans rfl; have hfz18_0 := blk_frozen BK34002.out 0; have hfz18_1 := blk_frozen BK34002.out 1; have hfz18_2 := blk_frozen BK34002.out 2; have hfz18_3 := blk_frozen BK34002.out 3; have hfz18_4 := blk_frozen BK34002.out 4; have hfz18_5 := blk_frozen BK34002.out 5))
  refine bodyPost_ret (results_cell_row rfl _ _ gb34002 43 #[.int .i64 a0_0, .int .i64 t34004, .int .i64 t34005, .int .i64 t34006, .int .i64 t34007, .slice Ao16 t34008.length co16] (0, 0) _ rfl (by refine blk_put (cs := #[.int .i64 a0_0, .int .i64 t34004, .int .i64 t34005, .int .i64 t34006, .int .i64 t34007, .slice none 0 0]) ?_ 5 _ rfl; (with_reducible repeat (first | refine blk_drewN ?_ _ | refine blk_drew ?_ | refine blk_alloc ?_ _)); refine blk_put (cs := #[.int .i64 a0_0, .int .i64 t34004, .int .i64 t34005, .int .i64 t34006, .int .i64 0, .slice none 0 0]) ?_ 4 _ rfl; (with_reducible repeat (first | refine blk_drewN ?_ _ | refine blk_drew ?_ | refine blk_alloc ?_ _)); refine blk_put (cs := #[.int .i64 a0_0, .int .i64 t34004, .int .i64 t34005, .int .i64 0, .int .i64 0, .slice none 0 0]) ?_ 3 _ rfl; (with_reducible repeat (first | refine blk_drewN ?_ _ | refine blk_drew ?_ | refine blk_alloc ?_ _)); refine blk_put (cs := #[.int .i64 a0_0, .int .i64 t34004, .int .i64 0, .int .i64 0, .int .i64 0, .slice none 0 0]) ?_ 2 _ rfl; (with_reducible repeat (first | refine blk_drewN ?_ _ | refine blk_drew ?_ | refine blk_alloc ?_ _)); refine blk_put (cs := #[.int .i64 a0_0, .int .i64 0, .int .i64 0, .int .i64 0, .int .i64 0, .slice none 0 0]) ?_ 1 _ rfl; (with_reducible repeat (first | refine blk_drewN ?_ _ | refine blk_drew ?_ | refine blk_alloc ?_ _)); refine blk_put (cs := #[.int .i64 0, .int .i64 0, .int .i64 0, .int .i64 0, .int .i64 0, .slice none 0 0]) ?_ 0 _ rfl; (with_reducible repeat (first | refine blk_drewN ?_ _ | refine blk_drew ?_ | refine blk_alloc ?_ _)); refine blk_far ?_ NB34002_34003.out _; (with_reducible repeat (first | refine blk_drewN ?_ _ | refine blk_drew ?_ | refine blk_alloc ?_ _)); exact BK34002.out) Try.underlying43 rfl (by kernel_rfl)) rfl ?_
  exact ⟨_, by rfl, by (with_reducible repeat (first | apply Kd.R_alloc | apply Kd.R_drewN | apply Kd.R_drew)); exact Kd.R_mono (Kd.R_far (p := ⟨gb34002, 5, none⟩) (Kd.R_far (p := ⟨gb34002, 4, none⟩) (Kd.R_far (p := ⟨gb34002, 3, none⟩) (Kd.R_far (p := ⟨gb34002, 2, none⟩) (Kd.R_far (p := ⟨gb34002, 1, none⟩) (Kd.R_far (p := ⟨gb34002, 0, none⟩) (Kd.R_far (p := ⟨gb34003, 5, none⟩) (Kd.R_types (Kd.R_types HO34010.out BK34003.out (by decide)) BK34002.out (by decide)) (fun _ hk => hk.1.2) (.slice Ao16 t34008.length co16)) (fun _ hk => hk.2) (.int .i64 a0_0)) (fun _ hk => hk.2) (.int .i64 t34004)) (fun _ hk => hk.2) (.int .i64 t34005)) (fun _ hk => hk.2) (.int .i64 t34006)) (fun _ hk => hk.2) (.int .i64 t34007)) (fun _ hk => hk.2) (.slice Ao16 t34008.length co16)) (fun _ hk => trivial), by repeat (with_reducible first | exact HB.out | refine below_set ?_ GE34002.out | refine below_set ?_ GE34003.out)⟩


def laws_eqBox.f (a0_0 : Int) (a0_1 : Int) (a0_2 : Int) (a0_3 : Int) (a1_0 : Int) (a1_1 : Int) (a1_2 : Int) (a1_3 : Int) : Option Bool := if a0_0 = a1_0 then (if a0_1 = a1_1 then (if a0_2 = a1_2 then (if a0_3 = a1_3 then (some true) else (some false)) else (some false)) else (some false)) else (some false)
set_option maxHeartbeats 8000000 in
set_option maxRecDepth 100000 in
theorem laws_eqBox.calls (a0_0 : Int) (a0_1 : Int) (a0_2 : Int) (a0_3 : Int) (a1_0 : Int) (a1_1 : Int) (a1_2 : Int) (a1_3 : Int) (r : Bool) (w : World) (h : laws_eqBox.f a0_0 a0_1 a0_2 a0_3 a1_0 a1_1 a1_2 a1_3 = some r) :
    Calls Try.prog 65 #[.agg #[.int .i64 a0_0, .int .i64 a0_1, .int .i64 a0_2, .int .i64 a0_3], .agg #[.int .i64 a1_0, .int .i64 a1_1, .int .i64 a1_2, .int .i64 a1_3]] w fun e w' => e = .returned (.bool r) ∧ Below w.heap.size w w' := by
  have hu41 := Try.underlying41
  have HB := Aside0.mk (Below.refl w.heap.size w)
  have H : (if a0_0 = a1_0 then (if a0_1 = a1_1 then (if a0_2 = a1_2 then (if a0_3 = a1_3 then (some true) else (some false)) else (some false)) else (some false)) else (some false)) = some r := h
  clear h
  by_cases c3 : a0_0 = a1_0
  · rw [if_pos c3] at H
    have c3b0 : (a0_0 == a1_0) = true := beq_iff_eq.mpr c3
    have c3b1 : (a0_0 != a1_0) = false := bne_eq_false_iff_eq.mpr c3
    clear c3
    by_cases c4 : a0_1 = a1_1
    · rw [if_pos c4] at H
      have c4b0 : (a0_1 == a1_1) = true := beq_iff_eq.mpr c4
      have c4b1 : (a0_1 != a1_1) = false := bne_eq_false_iff_eq.mpr c4
      clear c4
      by_cases c5 : a0_2 = a1_2
      · rw [if_pos c5] at H
        have c5b0 : (a0_2 == a1_2) = true := beq_iff_eq.mpr c5
        have c5b1 : (a0_2 != a1_2) = false := bne_eq_false_iff_eq.mpr c5
        clear c5
        by_cases c6 : a0_3 = a1_3
        · rw [if_pos c6] at H
          have c6b0 : (a0_3 == a1_3) = true := beq_iff_eq.mpr c6
          have c6b1 : (a0_3 != a1_3) = false := bne_eq_false_iff_eq.mpr c6
          clear c6
          obtain rfl := Option.some.inj H
          go_enter Try.func65, Try.ntmps65
          go_wp2_with (first | ((with_reducible refine gate_dst (N := 2) rfl ?_); refine box_event ?hg (N := 2) ?hd (cs := #[.int .i64 a0_0, .int .i64 a0_1, .int .i64 a0_2, .int .i64 a0_3]) (t := 41) ?hr ?_; (case hd => rfl); (case hg => rfl); (case hr => (go_simp; done)); intro gb66001 hg w7 hbox hb; have n0_ := Aside0.mk (below_step HB.out hb); have n1_ := Aside0.mk (hbox); have n2_ := Aside0.mk ((by rw [hg]; exact (below_size HB.out) : w.heap.size ≤ gb66001)); have n3_ := Aside0.mk ((by rw [hg]; exact (below_size HB.out) : w.heap.size ≤ gb66001)); clear HB; have HB := n0_; have BK66001 := n1_; have GW66001 := n2_; have GE66001 := n3_; clear n0_ n1_ n2_ n3_; clear hb hbox hg) | ((with_reducible refine gate_dst (N := 3) rfl ?_); refine box_event ?hg (N := 3) ?hd (cs := #[.int .i64 a1_0, .int .i64 a1_1, .int .i64 a1_2, .int .i64 a1_3]) (t := 41) ?hr ?_; (case hd => rfl); (case hg => rfl); (case hr => (go_simp; done)); intro gb66002 hg w8 hbox hb; have n0_ := Aside0.mk (blk_below BK66001.out hb); have n1_ := Aside0.mk (below_step HB.out hb); have n2_ := Aside0.mk (hbox); have n3_ := Aside0.mk ((by rw [hg]; exact (below_size HB.out) : w.heap.size ≤ gb66002)); have n4_ := Aside0.mk ((by rw [hg]; exact (below_size HB.out) : w.heap.size ≤ gb66002)); have n5_ := Aside0.mk ((by rw [hg]; exact Nat.ne_of_lt (blk_lt BK66001.out) : gb66001 ≠ gb66002)); have n6_ := Aside0.mk ((by rw [hg]; exact Nat.ne_of_gt (blk_lt BK66001.out) : gb66002 ≠ gb66001)); clear BK66001; clear HB; have BK66001 := n0_; have HB := n1_; have BK66002 := n2_; have GW66002 := n3_; have GE66002 := n4_; have NB66001_66002 := n5_; have NB66002_66001 := n6_; clear n0_ n1_ n2_ n3_ n4_ n5_ n6_; clear hb hbox hg; have hnb9 := NB66001_66002.out; have hnc9 := NB66002_66001.out; have hcz10_0 : w8.cell? ⟨gb66001, 0, none⟩ = some (.int .i64 a0_0) := (blk_cell BK66001.out 0).trans rfl; have hcz10_1 : w8.cell? ⟨gb66001, 1, none⟩ = some (.int .i64 a0_1) := (blk_cell BK66001.out 1).trans rfl; have hcz10_2 : w8.cell? ⟨gb66001, 2, none⟩ = some (.int .i64 a0_2) := (blk_cell BK66001.out 2).trans rfl; have hcz10_3 : w8.cell? ⟨gb66001, 3, none⟩ = some (.int .i64 a0_3) := (blk_cell BK66001.out 3).trans rfl; have hfz10_0 := blk_frozen BK66001.out 0; have hfz10_1 := blk_frozen BK66001.out 1; have hfz10_2 := blk_frozen BK66001.out 2; have hfz10_3 := blk_frozen BK66001.out 3; have hcz11_0 : w8.cell? ⟨gb66002, 0, none⟩ = some (.int .i64 a1_0) := (blk_cell BK66002.out 0).trans rfl; have hcz11_1 : w8.cell? ⟨gb66002, 1, none⟩ = some (.int .i64 a1_1) := (blk_cell BK66002.out 1).trans rfl; have hcz11_2 : w8.cell? ⟨gb66002, 2, none⟩ = some (.int .i64 a1_2) := (blk_cell BK66002.out 2).trans rfl; have hcz11_3 : w8.cell? ⟨gb66002, 3, none⟩ = some (.int .i64 a1_3) := (blk_cell BK66002.out 3).trans rfl; have hfz11_0 := blk_frozen BK66002.out 0; have hfz11_1 := blk_frozen BK66002.out 1; have hfz11_2 := blk_frozen BK66002.out 2; have hfz11_3 := blk_frozen BK66002.out 3))
          go_ret
          exact ⟨by rfl, by exact HB.out⟩
        · rw [if_neg c6] at H
          have c6b0 : (a0_3 == a1_3) = false := beq_eq_false_iff_ne.mpr c6
          have c6b1 : (a0_3 != a1_3) = true := bne_iff_ne.mpr c6
          obtain rfl := Option.some.inj H
          go_enter Try.func65, Try.ntmps65
          go_wp2_with (first | ((with_reducible refine gate_dst (N := 2) rfl ?_); refine box_event ?hg (N := 2) ?hd (cs := #[.int .i64 a0_0, .int .i64 a0_1, .int .i64 a0_2, .int .i64 a0_3]) (t := 41) ?hr ?_; (case hd => rfl); (case hg => rfl); (case hr => (go_simp; done)); intro gb66001 hg w12 hbox hb; have n0_ := Aside0.mk (below_step HB.out hb); have n1_ := Aside0.mk (hbox); have n2_ := Aside0.mk ((by rw [hg]; exact (below_size HB.out) : w.heap.size ≤ gb66001)); have n3_ := Aside0.mk ((by rw [hg]; exact (below_size HB.out) : w.heap.size ≤ gb66001)); clear HB; have HB := n0_; have BK66001 := n1_; have GW66001 := n2_; have GE66001 := n3_; clear n0_ n1_ n2_ n3_; clear hb hbox hg) | ((with_reducible refine gate_dst (N := 3) rfl ?_); refine box_event ?hg (N := 3) ?hd (cs := #[.int .i64 a1_0, .int .i64 a1_1, .int .i64 a1_2, .int .i64 a1_3]) (t := 41) ?hr ?_; (case hd => rfl); (case hg => rfl); (case hr => (go_simp; done)); intro gb66002 hg w13 hbox hb; have n0_ := Aside0.mk (blk_below BK66001.out hb); have n1_ := Aside0.mk (below_step HB.out hb); have n2_ := Aside0.mk (hbox); have n3_ := Aside0.mk ((by rw [hg]; exact (below_size HB.out) : w.heap.size ≤ gb66002)); have n4_ := Aside0.mk ((by rw [hg]; exact (below_size HB.out) : w.heap.size ≤ gb66002)); have n5_ := Aside0.mk ((by rw [hg]; exact Nat.ne_of_lt (blk_lt BK66001.out) : gb66001 ≠ gb66002)); have n6_ := Aside0.mk ((by rw [hg]; exact Nat.ne_of_gt (blk_lt BK66001.out) : gb66002 ≠ gb66001)); clear BK66001; clear HB; have BK66001 := n0_; have HB := n1_; have BK66002 := n2_; have GW66002 := n3_; have GE66002 := n4_; have NB66001_66002 := n5_; have NB66002_66001 := n6_; clear n0_ n1_ n2_ n3_ n4_ n5_ n6_; clear hb hbox hg; have hnb14 := NB66001_66002.out; have hnc14 := NB66002_66001.out; have hcz15_0 : w13.cell? ⟨gb66001, 0, none⟩ = some (.int .i64 a0_0) := (blk_cell BK66001.out 0).trans rfl; have hcz15_1 : w13.cell? ⟨gb66001, 1, none⟩ = some (.int .i64 a0_1) := (blk_cell BK66001.out 1).trans rfl; have hcz15_2 : w13.cell? ⟨gb66001, 2, none⟩ = some (.int .i64 a0_2) := (blk_cell BK66001.out 2).trans rfl; have hcz15_3 : w13.cell? ⟨gb66001, 3, none⟩ = some (.int .i64 a0_3) := (blk_cell BK66001.out 3).trans rfl; have hfz15_0 := blk_frozen BK66001.out 0; have hfz15_1 := blk_frozen BK66001.out 1; have hfz15_2 := blk_frozen BK66001.out 2; have hfz15_3 := blk_frozen BK66001.out 3; have hcz16_0 : w13.cell? ⟨gb66002, 0, none⟩ = some (.int .i64 a1_0) := (blk_cell BK66002.out 0).trans rfl; have hcz16_1 : w13.cell? ⟨gb66002, 1, none⟩ = some (.int .i64 a1_1) := (blk_cell BK66002.out 1).trans rfl; have hcz16_2 : w13.cell? ⟨gb66002, 2, none⟩ = some (.int .i64 a1_2) := (blk_cell BK66002.out 2).trans rfl; have hcz16_3 : w13.cell? ⟨gb66002, 3, none⟩ = some (.int .i64 a1_3) := (blk_cell BK66002.out 3).trans rfl; have hfz16_0 := blk_frozen BK66002.out 0; have hfz16_1 := blk_frozen BK66002.out 1; have hfz16_2 := blk_frozen BK66002.out 2; have hfz16_3 := blk_frozen BK66002.out 3))
          go_ret
          exact ⟨by rfl, by exact HB.out⟩
      · rw [if_neg c5] at H
        have c5b0 : (a0_2 == a1_2) = false := beq_eq_false_iff_ne.mpr c5
        have c5b1 : (a0_2 != a1_2) = true := bne_iff_ne.mpr c5
        obtain rfl := Option.some.inj H
        go_enter Try.func65, Try.ntmps65
        go_wp2_with (first | ((with_reducible refine gate_dst (N := 2) rfl ?_); refine box_event ?hg (N := 2) ?hd (cs := #[.int .i64 a0_0, .int .i64 a0_1, .int .i64 a0_2, .int .i64 a0_3]) (t := 41) ?hr ?_; (case hd => rfl); (case hg => rfl); (case hr => (go_simp; done)); intro gb66001 hg w17 hbox hb; have n0_ := Aside0.mk (below_step HB.out hb); have n1_ := Aside0.mk (hbox); have n2_ := Aside0.mk ((by rw [hg]; exact (below_size HB.out) : w.heap.size ≤ gb66001)); have n3_ := Aside0.mk ((by rw [hg]; exact (below_size HB.out) : w.heap.size ≤ gb66001)); clear HB; have HB := n0_; have BK66001 := n1_; have GW66001 := n2_; have GE66001 := n3_; clear n0_ n1_ n2_ n3_; clear hb hbox hg) | ((with_reducible refine gate_dst (N := 3) rfl ?_); refine box_event ?hg (N := 3) ?hd (cs := #[.int .i64 a1_0, .int .i64 a1_1, .int .i64 a1_2, .int .i64 a1_3]) (t := 41) ?hr ?_; (case hd => rfl); (case hg => rfl); (case hr => (go_simp; done)); intro gb66002 hg w18 hbox hb; have n0_ := Aside0.mk (blk_below BK66001.out hb); have n1_ := Aside0.mk (below_step HB.out hb); have n2_ := Aside0.mk (hbox); have n3_ := Aside0.mk ((by rw [hg]; exact (below_size HB.out) : w.heap.size ≤ gb66002)); have n4_ := Aside0.mk ((by rw [hg]; exact (below_size HB.out) : w.heap.size ≤ gb66002)); have n5_ := Aside0.mk ((by rw [hg]; exact Nat.ne_of_lt (blk_lt BK66001.out) : gb66001 ≠ gb66002)); have n6_ := Aside0.mk ((by rw [hg]; exact Nat.ne_of_gt (blk_lt BK66001.out) : gb66002 ≠ gb66001)); clear BK66001; clear HB; have BK66001 := n0_; have HB := n1_; have BK66002 := n2_; have GW66002 := n3_; have GE66002 := n4_; have NB66001_66002 := n5_; have NB66002_66001 := n6_; clear n0_ n1_ n2_ n3_ n4_ n5_ n6_; clear hb hbox hg; have hnb19 := NB66001_66002.out; have hnc19 := NB66002_66001.out; have hcz20_0 : w18.cell? ⟨gb66001, 0, none⟩ = some (.int .i64 a0_0) := (blk_cell BK66001.out 0).trans rfl; have hcz20_1 : w18.cell? ⟨gb66001, 1, none⟩ = some (.int .i64 a0_1) := (blk_cell BK66001.out 1).trans rfl; have hcz20_2 : w18.cell? ⟨gb66001, 2, none⟩ = some (.int .i64 a0_2) := (blk_cell BK66001.out 2).trans rfl; have hcz20_3 : w18.cell? ⟨gb66001, 3, none⟩ = some (.int .i64 a0_3) := (blk_cell BK66001.out 3).trans rfl; have hfz20_0 := blk_frozen BK66001.out 0; have hfz20_1 := blk_frozen BK66001.out 1; have hfz20_2 := blk_frozen BK66001.out 2; have hfz20_3 := blk_frozen BK66001.out 3; have hcz21_0 : w18.cell? ⟨gb66002, 0, none⟩ = some (.int .i64 a1_0) := (blk_cell BK66002.out 0).trans rfl; have hcz21_1 : w18.cell? ⟨gb66002, 1, none⟩ = some (.int .i64 a1_1) := (blk_cell BK66002.out 1).trans rfl; have hcz21_2 : w18.cell? ⟨gb66002, 2, none⟩ = some (.int .i64 a1_2) := (blk_cell BK66002.out 2).trans rfl; have hcz21_3 : w18.cell? ⟨gb66002, 3, none⟩ = some (.int .i64 a1_3) := (blk_cell BK66002.out 3).trans rfl; have hfz21_0 := blk_frozen BK66002.out 0; have hfz21_1 := blk_frozen BK66002.out 1; have hfz21_2 := blk_frozen BK66002.out 2; have hfz21_3 := blk_frozen BK66002.out 3))
        go_ret
        exact ⟨by rfl, by exact HB.out⟩
    · rw [if_neg c4] at H
      have c4b0 : (a0_1 == a1_1) = false := beq_eq_false_iff_ne.mpr c4
      have c4b1 : (a0_1 != a1_1) = true := bne_iff_ne.mpr c4
      obtain rfl := Option.some.inj H
      go_enter Try.func65, Try.ntmps65
      go_wp2_with (first | ((with_reducible refine gate_dst (N := 2) rfl ?_); refine box_event ?hg (N := 2) ?hd (cs := #[.int .i64 a0_0, .int .i64 a0_1, .int .i64 a0_2, .int .i64 a0_3]) (t := 41) ?hr ?_; (case hd => rfl); (case hg => rfl); (case hr => (go_simp; done)); intro gb66001 hg w22 hbox hb; have n0_ := Aside0.mk (below_step HB.out hb); have n1_ := Aside0.mk (hbox); have n2_ := Aside0.mk ((by rw [hg]; exact (below_size HB.out) : w.heap.size ≤ gb66001)); have n3_ := Aside0.mk ((by rw [hg]; exact (below_size HB.out) : w.heap.size ≤ gb66001)); clear HB; have HB := n0_; have BK66001 := n1_; have GW66001 := n2_; have GE66001 := n3_; clear n0_ n1_ n2_ n3_; clear hb hbox hg) | ((with_reducible refine gate_dst (N := 3) rfl ?_); refine box_event ?hg (N := 3) ?hd (cs := #[.int .i64 a1_0, .int .i64 a1_1, .int .i64 a1_2, .int .i64 a1_3]) (t := 41) ?hr ?_; (case hd => rfl); (case hg => rfl); (case hr => (go_simp; done)); intro gb66002 hg w23 hbox hb; have n0_ := Aside0.mk (blk_below BK66001.out hb); have n1_ := Aside0.mk (below_step HB.out hb); have n2_ := Aside0.mk (hbox); have n3_ := Aside0.mk ((by rw [hg]; exact (below_size HB.out) : w.heap.size ≤ gb66002)); have n4_ := Aside0.mk ((by rw [hg]; exact (below_size HB.out) : w.heap.size ≤ gb66002)); have n5_ := Aside0.mk ((by rw [hg]; exact Nat.ne_of_lt (blk_lt BK66001.out) : gb66001 ≠ gb66002)); have n6_ := Aside0.mk ((by rw [hg]; exact Nat.ne_of_gt (blk_lt BK66001.out) : gb66002 ≠ gb66001)); clear BK66001; clear HB; have BK66001 := n0_; have HB := n1_; have BK66002 := n2_; have GW66002 := n3_; have GE66002 := n4_; have NB66001_66002 := n5_; have NB66002_66001 := n6_; clear n0_ n1_ n2_ n3_ n4_ n5_ n6_; clear hb hbox hg; have hnb24 := NB66001_66002.out; have hnc24 := NB66002_66001.out; have hcz25_0 : w23.cell? ⟨gb66001, 0, none⟩ = some (.int .i64 a0_0) := (blk_cell BK66001.out 0).trans rfl; have hcz25_1 : w23.cell? ⟨gb66001, 1, none⟩ = some (.int .i64 a0_1) := (blk_cell BK66001.out 1).trans rfl; have hcz25_2 : w23.cell? ⟨gb66001, 2, none⟩ = some (.int .i64 a0_2) := (blk_cell BK66001.out 2).trans rfl; have hcz25_3 : w23.cell? ⟨gb66001, 3, none⟩ = some (.int .i64 a0_3) := (blk_cell BK66001.out 3).trans rfl; have hfz25_0 := blk_frozen BK66001.out 0; have hfz25_1 := blk_frozen BK66001.out 1; have hfz25_2 := blk_frozen BK66001.out 2; have hfz25_3 := blk_frozen BK66001.out 3; have hcz26_0 : w23.cell? ⟨gb66002, 0, none⟩ = some (.int .i64 a1_0) := (blk_cell BK66002.out 0).trans rfl; have hcz26_1 : w23.cell? ⟨gb66002, 1, none⟩ = some (.int .i64 a1_1) := (blk_cell BK66002.out 1).trans rfl; have hcz26_2 : w23.cell? ⟨gb66002, 2, none⟩ = some (.int .i64 a1_2) := (blk_cell BK66002.out 2).trans rfl; have hcz26_3 : w23.cell? ⟨gb66002, 3, none⟩ = some (.int .i64 a1_3) := (blk_cell BK66002.out 3).trans rfl; have hfz26_0 := blk_frozen BK66002.out 0; have hfz26_1 := blk_frozen BK66002.out 1; have hfz26_2 := blk_frozen BK66002.out 2; have hfz26_3 := blk_frozen BK66002.out 3))
      go_ret
      exact ⟨by rfl, by exact HB.out⟩
  · rw [if_neg c3] at H
    have c3b0 : (a0_0 == a1_0) = false := beq_eq_false_iff_ne.mpr c3
    have c3b1 : (a0_0 != a1_0) = true := bne_iff_ne.mpr c3
    obtain rfl := Option.some.inj H
    go_enter Try.func65, Try.ntmps65
    go_wp2_with (first | ((with_reducible refine gate_dst (N := 2) rfl ?_); refine box_event ?hg (N := 2) ?hd (cs := #[.int .i64 a0_0, .int .i64 a0_1, .int .i64 a0_2, .int .i64 a0_3]) (t := 41) ?hr ?_; (case hd => rfl); (case hg => rfl); (case hr => (go_simp; done)); intro gb66001 hg w27 hbox hb; have n0_ := Aside0.mk (below_step HB.out hb); have n1_ := Aside0.mk (hbox); have n2_ := Aside0.mk ((by rw [hg]; exact (below_size HB.out) : w.heap.size ≤ gb66001)); have n3_ := Aside0.mk ((by rw [hg]; exact (below_size HB.out) : w.heap.size ≤ gb66001)); clear HB; have HB := n0_; have BK66001 := n1_; have GW66001 := n2_; have GE66001 := n3_; clear n0_ n1_ n2_ n3_; clear hb hbox hg) | ((with_reducible refine gate_dst (N := 3) rfl ?_); refine box_event ?hg (N := 3) ?hd (cs := #[.int .i64 a1_0, .int .i64 a1_1, .int .i64 a1_2, .int .i64 a1_3]) (t := 41) ?hr ?_; (case hd => rfl); (case hg => rfl); (case hr => (go_simp; done)); intro gb66002 hg w28 hbox hb; have n0_ := Aside0.mk (blk_below BK66001.out hb); have n1_ := Aside0.mk (below_step HB.out hb); have n2_ := Aside0.mk (hbox); have n3_ := Aside0.mk ((by rw [hg]; exact (below_size HB.out) : w.heap.size ≤ gb66002)); have n4_ := Aside0.mk ((by rw [hg]; exact (below_size HB.out) : w.heap.size ≤ gb66002)); have n5_ := Aside0.mk ((by rw [hg]; exact Nat.ne_of_lt (blk_lt BK66001.out) : gb66001 ≠ gb66002)); have n6_ := Aside0.mk ((by rw [hg]; exact Nat.ne_of_gt (blk_lt BK66001.out) : gb66002 ≠ gb66001)); clear BK66001; clear HB; have BK66001 := n0_; have HB := n1_; have BK66002 := n2_; have GW66002 := n3_; have GE66002 := n4_; have NB66001_66002 := n5_; have NB66002_66001 := n6_; clear n0_ n1_ n2_ n3_ n4_ n5_ n6_; clear hb hbox hg; have hnb29 := NB66001_66002.out; have hnc29 := NB66002_66001.out; have hcz30_0 : w28.cell? ⟨gb66001, 0, none⟩ = some (.int .i64 a0_0) := (blk_cell BK66001.out 0).trans rfl; have hcz30_1 : w28.cell? ⟨gb66001, 1, none⟩ = some (.int .i64 a0_1) := (blk_cell BK66001.out 1).trans rfl; have hcz30_2 : w28.cell? ⟨gb66001, 2, none⟩ = some (.int .i64 a0_2) := (blk_cell BK66001.out 2).trans rfl; have hcz30_3 : w28.cell? ⟨gb66001, 3, none⟩ = some (.int .i64 a0_3) := (blk_cell BK66001.out 3).trans rfl; have hfz30_0 := blk_frozen BK66001.out 0; have hfz30_1 := blk_frozen BK66001.out 1; have hfz30_2 := blk_frozen BK66001.out 2; have hfz30_3 := blk_frozen BK66001.out 3; have hcz31_0 : w28.cell? ⟨gb66002, 0, none⟩ = some (.int .i64 a1_0) := (blk_cell BK66002.out 0).trans rfl; have hcz31_1 : w28.cell? ⟨gb66002, 1, none⟩ = some (.int .i64 a1_1) := (blk_cell BK66002.out 1).trans rfl; have hcz31_2 : w28.cell? ⟨gb66002, 2, none⟩ = some (.int .i64 a1_2) := (blk_cell BK66002.out 2).trans rfl; have hcz31_3 : w28.cell? ⟨gb66002, 3, none⟩ = some (.int .i64 a1_3) := (blk_cell BK66002.out 3).trans rfl; have hfz31_0 := blk_frozen BK66002.out 0; have hfz31_1 := blk_frozen BK66002.out 1; have hfz31_2 := blk_frozen BK66002.out 2; have hfz31_3 := blk_frozen BK66002.out 3))
    go_ret
    exact ⟨by rfl, by exact HB.out⟩


def laws_eqStep.f (k : Nat) (a0_0 : Int) (a0_1 : Int) (a0_2 : Int) (a0_3 : Int) (a0_4 : Int) (l0_5 : List Int) (a1_0 : Int) (a1_1 : Int) (a1_2 : Int) (a1_3 : Int) (a1_4 : Int) (l1_5 : List Int) : Option (Bool) := if a0_0 = a1_0 then ((laws_eqBox.f a0_1 a0_2 a0_3 a0_4 a1_1 a1_2 a1_3 a1_4).bind fun t35003 => (if t35003 = true then ((laws_eqIntS.f k l0_5 l1_5).bind fun t35004 => (if t35004 = true then (some true) else (some false))) else (some false))) else (some false)
theorem laws_eqStep.mono : ∀ a0 a1 a2 a3 a4 a5 a6 a7 a8 a9 a10 a11 k, LeO (laws_eqStep.f k a0 a1 a2 a3 a4 a5 a6 a7 a8 a9 a10 a11) (laws_eqStep.f (k + 1) a0 a1 a2 a3 a4 a5 a6 a7 a8 a9 a10 a11) := by
  intro a0 a1 a2 a3 a4 a5 a6 a7 a8 a9 a10 a11 k
  unfold laws_eqStep.f
  repeat' first
      | (with_reducible exact laws_eqIntS.mono _ _ _)
      | (with_reducible exact LeO.refl _)
      | (with_reducible exact LeO.none _)
      | (with_reducible refine LeO.ite ?_ ?_)
      | (with_reducible refine LeO.bind ?_ (fun _ => ?_))
      | exact laws_eqIntS.mono _ _ _
      | exact LeO.none _
      | refine LeO.ite ?_ ?_
      | refine LeO.bind ?_ (fun _ => ?_)
set_option maxHeartbeats 8000000 in
set_option maxRecDepth 100000 in
theorem laws_eqStep.calls (k : Nat) (a0_0 : Int) (a0_1 : Int) (a0_2 : Int) (a0_3 : Int) (a0_4 : Int) (A0_5 : Option Addr) (c0_5 : Nat) (l0_5 : List Int) (a1_0 : Int) (a1_1 : Int) (a1_2 : Int) (a1_3 : Int) (a1_4 : Int) (A1_5 : Option Addr) (c1_5 : Nat) (l1_5 : List Int) (r : Bool) (w : World) (hr0_5 : Kd.C (Kd.int .i64) w A0_5 l0_5.length l0_5) (hc0_5 : l0_5.length ≤ c0_5) (hr1_5 : Kd.C (Kd.int .i64) w A1_5 l1_5.length l1_5) (hc1_5 : l1_5.length ≤ c1_5) (h : laws_eqStep.f k a0_0 a0_1 a0_2 a0_3 a0_4 l0_5 a1_0 a1_1 a1_2 a1_3 a1_4 l1_5 = some r) (hrt : r = true) :
    Calls Try.prog 34 #[.agg #[.int .i64 a0_0, .int .i64 a0_1, .int .i64 a0_2, .int .i64 a0_3, .int .i64 a0_4, .slice A0_5 l0_5.length c0_5], .agg #[.int .i64 a1_0, .int .i64 a1_1, .int .i64 a1_2, .int .i64 a1_3, .int .i64 a1_4, .slice A1_5 l1_5.length c1_5]] w fun e w' => e = .returned (.bool r) ∧ Below w.heap.size w w' := by
  have HRT := Aside0.mk hrt
  clear hrt
  have hu43 := Try.underlying43
  have hu41 := Try.underlying41
  have HR0_5 := Aside0.mk hr0_5
  have HC0_5 := Aside0.mk hc0_5
  clear hr0_5 hc0_5
  have HR1_5 := Aside0.mk hr1_5
  have HC1_5 := Aside0.mk hc1_5
  clear hr1_5 hc1_5
  have HB := Aside0.mk (Below.refl w.heap.size w)
  have H : (if a0_0 = a1_0 then ((laws_eqBox.f a0_1 a0_2 a0_3 a0_4 a1_1 a1_2 a1_3 a1_4).bind fun t35003 => (if t35003 = true then ((laws_eqIntS.f k l0_5 l1_5).bind fun t35004 => (if t35004 = true then (some true) else (some false))) else (some false))) else (some false)) = some r := h
  clear h
  by_cases c3 : a0_0 = a1_0
  · rw [if_pos c3] at H
    have c3b0 : (a0_0 == a1_0) = true := beq_iff_eq.mpr c3
    have c3b1 : (a0_0 != a1_0) = false := bne_eq_false_iff_eq.mpr c3
    clear c3
    replace H := Option.bind_eq_some_iff.mp H
    obtain ⟨t35003, A40, H⟩ := H
    replace H : (if t35003 = true then ((laws_eqIntS.f k l0_5 l1_5).bind fun t35004 => (if t35004 = true then (some true) else (some false))) else (some false)) = some r := H
    have A4 := Aside0.mk A40
    clear A40
    by_cases c5 : t35003 = true
    · subst c5
      have H1 : ((laws_eqIntS.f k l0_5 l1_5).bind fun t35004 => (if t35004 = true then (some true) else (some false))) = some r := by rw [if_pos rfl] at H; exact H
      clear H
      have H := H1
      clear H1
      replace H := Option.bind_eq_some_iff.mp H
      obtain ⟨t35004, A60, H⟩ := H
      replace H : (if t35004 = true then (some true) else (some false)) = some r := H
      have A6 := Aside0.mk A60
      clear A60
      by_cases c7 : t35004 = true
      · subst c7
        have H1 : (some true) = some r := by rw [if_pos rfl] at H; exact H
        clear H
        have H := H1
        clear H1
        obtain rfl := Option.some.inj H
        go_enter Try.func34, Try.ntmps34
        go_wp2_with (first | ((with_reducible refine gate_dst (N := 2) rfl ?_); refine box_event ?hg (N := 2) ?hd (cs := #[.int .i64 a0_0, .int .i64 a0_1, .int .i64 a0_2, .int .i64 a0_3, .int .i64 a0_4, .slice A0_5 l0_5.length c0_5]) (t := 43) ?hr ?_; (case hd => rfl); (case hg => rfl); (case hr => first | (go_simp; done) | (go_simp; rfl)); intro gb35001 hg w8 hbox hb; have n0_ := Aside0.mk (below_step (by repeat (first | (with_reducible first | exact HB.out | apply below_alloc | apply pw_below_drewN | apply below_drew1) | exact HB.out)) hb); have n1_ := Aside0.mk (hbox); have n2_ := Aside0.mk ((by rw [hg]; exact (below_size (by repeat (first | (with_reducible first | exact HB.out | apply below_alloc | apply pw_below_drewN | apply below_drew1) | exact HB.out))) : w.heap.size ≤ gb35001)); have n3_ := Aside0.mk ((by rw [hg]; exact (below_size (by repeat (first | (with_reducible first | exact HB.out | apply below_alloc | apply pw_below_drewN | apply below_drew1) | exact HB.out))) : w.heap.size ≤ gb35001)); clear HB; have HB := n0_; have BK35001 := n1_; have GW35001 := n2_; have GE35001 := n3_; clear n0_ n1_ n2_ n3_; clear hb hbox hg) | ((with_reducible refine gate_dst (N := 3) rfl ?_); refine box_event ?hg (N := 3) ?hd (cs := #[.int .i64 a1_0, .int .i64 a1_1, .int .i64 a1_2, .int .i64 a1_3, .int .i64 a1_4, .slice A1_5 l1_5.length c1_5]) (t := 43) ?hr ?_; (case hd => rfl); (case hg => rfl); (case hr => first | (go_simp; done) | (go_simp; rfl)); intro gb35002 hg w9 hbox hb; have n0_ := Aside0.mk (blk_below (g := gb35001) (o := .cells #[.int .i64 a0_0, .int .i64 a0_1, .int .i64 a0_2, .int .i64 a0_3, .int .i64 a0_4, .slice A0_5 l0_5.length c0_5] 43 (0, 0)) (by (with_reducible repeat (first | refine blk_drewN ?_ _ | refine blk_drew ?_ | refine blk_alloc ?_ _)); exact BK35001.out) hb); have n1_ := Aside0.mk (below_step (by repeat (first | (with_reducible first | exact HB.out | apply below_alloc | apply pw_below_drewN | apply below_drew1 | refine below_set ?_ GE35001.out) | exact HB.out)) hb); have n2_ := Aside0.mk (hbox); have n3_ := Aside0.mk ((by rw [hg]; exact (below_size (by repeat (first | (with_reducible first | exact HB.out | apply below_alloc | apply pw_below_drewN | apply below_drew1 | refine below_set ?_ GE35001.out) | exact HB.out))) : w.heap.size ≤ gb35002)); have n4_ := Aside0.mk ((by rw [hg]; exact (below_size (by repeat (first | (with_reducible first | exact HB.out | apply below_alloc | apply pw_below_drewN | apply below_drew1 | refine below_set ?_ GE35001.out) | exact HB.out))) : w.heap.size ≤ gb35002)); have n5_ := Aside0.mk ((by rw [hg]; exact Nat.ne_of_lt (blk_lt (g := gb35001) (o := .cells #[.int .i64 a0_0, .int .i64 a0_1, .int .i64 a0_2, .int .i64 a0_3, .int .i64 a0_4, .slice A0_5 l0_5.length c0_5] 43 (0, 0)) (by (with_reducible repeat (first | refine blk_drewN ?_ _ | refine blk_drew ?_ | refine blk_alloc ?_ _)); exact BK35001.out)) : gb35001 ≠ gb35002)); have n6_ := Aside0.mk ((by rw [hg]; exact Nat.ne_of_gt (blk_lt (g := gb35001) (o := .cells #[.int .i64 a0_0, .int .i64 a0_1, .int .i64 a0_2, .int .i64 a0_3, .int .i64 a0_4, .slice A0_5 l0_5.length c0_5] 43 (0, 0)) (by (with_reducible repeat (first | refine blk_drewN ?_ _ | refine blk_drew ?_ | refine blk_alloc ?_ _)); exact BK35001.out)) : gb35002 ≠ gb35001)); clear BK35001; clear HB; have BK35001 := n0_; have HB := n1_; have BK35002 := n2_; have GW35002 := n3_; have GE35002 := n4_; have NB35001_35002 := n5_; have NB35002_35001 := n6_; clear n0_ n1_ n2_ n3_ n4_ n5_ n6_; clear hb hbox hg; have hnb10 := NB35001_35002.out; have hnc10 := NB35002_35001.out; have hcz11_0 : w9.cell? ⟨gb35001, 0, none⟩ = some (.int .i64 a0_0) := (blk_cell BK35001.out 0).trans rfl; have hcz11_1 : w9.cell? ⟨gb35001, 1, none⟩ = some (.int .i64 a0_1) := (blk_cell BK35001.out 1).trans rfl; have hcz11_2 : w9.cell? ⟨gb35001, 2, none⟩ = some (.int .i64 a0_2) := (blk_cell BK35001.out 2).trans rfl; have hcz11_3 : w9.cell? ⟨gb35001, 3, none⟩ = some (.int .i64 a0_3) := (blk_cell BK35001.out 3).trans rfl; have hcz11_4 : w9.cell? ⟨gb35001, 4, none⟩ = some (.int .i64 a0_4) := (blk_cell BK35001.out 4).trans rfl; have hcz11_5 : w9.cell? ⟨gb35001, 5, none⟩ = some (.slice A0_5 l0_5.length c0_5) := (blk_cell BK35001.out 5).trans rfl; have hfz11_0 := blk_frozen BK35001.out 0; have hfz11_1 := blk_frozen BK35001.out 1; have hfz11_2 := blk_frozen BK35001.out 2; have hfz11_3 := blk_frozen BK35001.out 3; have hfz11_4 := blk_frozen BK35001.out 4; have hfz11_5 := blk_frozen BK35001.out 5; have hcz12_0 : w9.cell? ⟨gb35002, 0, none⟩ = some (.int .i64 a1_0) := (blk_cell BK35002.out 0).trans rfl; have hcz12_1 : w9.cell? ⟨gb35002, 1, none⟩ = some (.int .i64 a1_1) := (blk_cell BK35002.out 1).trans rfl; have hcz12_2 : w9.cell? ⟨gb35002, 2, none⟩ = some (.int .i64 a1_2) := (blk_cell BK35002.out 2).trans rfl; have hcz12_3 : w9.cell? ⟨gb35002, 3, none⟩ = some (.int .i64 a1_3) := (blk_cell BK35002.out 3).trans rfl; have hcz12_4 : w9.cell? ⟨gb35002, 4, none⟩ = some (.int .i64 a1_4) := (blk_cell BK35002.out 4).trans rfl; have hcz12_5 : w9.cell? ⟨gb35002, 5, none⟩ = some (.slice A1_5 l1_5.length c1_5) := (blk_cell BK35002.out 5).trans rfl; have hfz12_0 := blk_frozen BK35002.out 0; have hfz12_1 := blk_frozen BK35002.out 1; have hfz12_2 := blk_frozen BK35002.out 2; have hfz12_3 := blk_frozen BK35002.out 3; have hfz12_4 := blk_frozen BK35002.out 4; have hfz12_5 := blk_frozen BK35002.out 5) | ((with_reducible refine gate_callee (f := 65) rfl ?_); refine goesL_ (some 14) rfl rfl Try.func65 (by kernel_rfl) rfl #[.agg #[.int .i64 a0_1, .int .i64 a0_2, .int .i64 a0_3, .int .i64 a0_4], .agg #[.int .i64 a1_1, .int .i64 a1_2, .int .i64 a1_3, .int .i64 a1_4]] rfl (by (try simp only [List.map_toArray, List.map_cons, List.map_nil]); first | done | rfl | (simp only [List.length_drop, List.length_take]; rfl)) ?_; (with_reducible refine (laws_eqBox.calls a0_1 a0_2 a0_3 a0_4 a1_1 a1_2 a1_3 a1_4 true _ A4.out).mono ?_); rintro e w13 ⟨rfl, hb⟩; refine ⟨_, rfl, ?_⟩; have n0_ := Aside0.mk (blk_below (g := gb35001) (o := .cells #[.int .i64 a0_0, .int .i64 a0_1, .int .i64 a0_2, .int .i64 a0_3, .int .i64 a0_4, .slice A0_5 l0_5.length c0_5] 43 (0, 0)) (by (with_reducible repeat (first | refine blk_drewN ?_ _ | refine blk_drew ?_ | refine blk_alloc ?_ _)); exact BK35001.out) hb); have n1_ := Aside0.mk (blk_below (g := gb35002) (o := .cells #[.int .i64 a1_0, .int .i64 a1_1, .int .i64 a1_2, .int .i64 a1_3, .int .i64 a1_4, .slice A1_5 l1_5.length c1_5] 43 (0, 0)) (by (with_reducible repeat (first | refine blk_drewN ?_ _ | refine blk_drew ?_ | refine blk_alloc ?_ _)); exact BK35002.out) hb); have n2_ := Aside0.mk (below_step (by repeat (first | (with_reducible first | exact HB.out | apply below_alloc | apply pw_below_drewN | apply below_drew1 | refine below_set ?_ GE35001.out | refine below_set ?_ GE35002.out) | exact HB.out)) hb); clear BK35001; clear BK35002; clear HB; have BK35001 := n0_; have BK35002 := n1_; have HB := n2_; clear n0_ n1_ n2_; (try clear hb); (try clear hb2); (try clear hk); (try clear hi); have hcz14_0 : w13.cell? ⟨gb35001, 0, none⟩ = some (.int .i64 a0_0) := (blk_cell BK35001.out 0).trans rfl; have hcz14_1 : w13.cell? ⟨gb35001, 1, none⟩ = some (.int .i64 a0_1) := (blk_cell BK35001.out 1).trans rfl; have hcz14_2 : w13.cell? ⟨gb35001, 2, none⟩ = some (.int .i64 a0_2) := (blk_cell BK35001.out 2).trans rfl; have hcz14_3 : w13.cell? ⟨gb35001, 3, none⟩ = some (.int .i64 a0_3) := (blk_cell BK35001.out 3).trans rfl; have hcz14_4 : w13.cell? ⟨gb35001, 4, none⟩ = some (.int .i64 a0_4) := (blk_cell BK35001.out 4).trans rfl; have hcz14_5 : w13.cell? ⟨gb35001, 5, none⟩ = some (.slice A0_5 l0_5.length c0_5) := (blk_cell BK35001.out 5).trans rfl; have hfz14_0 := blk_frozen BK35001.out 0; have hfz14_1 := blk_frozen BK35001.out 1; have hfz14_2 := blk_frozen BK35001.out 2; have hfz14_3 := blk_frozen BK35001.out 3; have hfz14_4 := blk_frozen BK35001.out 4; have hfz14_5 := blk_frozen BK35001.out 5; have hcz15_0 : w13.cell? ⟨gb35002, 0, none⟩ = some (.int .i64 a1_0) := (blk_cell BK35002.out 0).trans rfl; have hcz15_1 : w13.cell? ⟨gb35002, 1, none⟩ = some (.int .i64 a1_1) := (blk_cell BK35002.out 1).trans rfl; have hcz15_2 : w13.cell? ⟨gb35002, 2, none⟩ = some (.int .i64 a1_2) := (blk_cell BK35002.out 2).trans rfl; have hcz15_3 : w13.cell? ⟨gb35002, 3, none⟩ = some (.int .i64 a1_3) := (blk_cell BK35002.out 3).trans rfl; have hcz15_4 : w13.cell? ⟨gb35002, 4, none⟩ = some (.int .i64 a1_4) := (blk_cell BK35002.out 4).trans rfl; have hcz15_5 : w13.cell? ⟨gb35002, 5, none⟩ = some (.slice A1_5 l1_5.length c1_5) := (blk_cell BK35002.out 5).trans rfl; have hfz15_0 := blk_frozen BK35002.out 0; have hfz15_1 := blk_frozen BK35002.out 1; have hfz15_2 := blk_frozen BK35002.out 2; have hfz15_3 := blk_frozen BK35002.out 3; have hfz15_4 := blk_frozen BK35002.out 4; have hfz15_5 := blk_frozen BK35002.out 5) | ((with_reducible refine gate_callee (f := 46) rfl ?_); refine goesL_ (some 20) rfl rfl Try.func46 (by kernel_rfl) rfl #[.slice A0_5 l0_5.length c0_5, .slice A1_5 l1_5.length c1_5] rfl (by (try simp only [List.map_toArray, List.map_cons, List.map_nil]); first | done | rfl | (simp only [List.length_drop, List.length_take]; rfl)) ?_; (with_reducible refine (laws_eqIntS.calls k _ _ l0_5 _ _ l1_5 true _ ?side1 ?side2 ?side3 ?side4 A6.out).mono ?_); (case side1 => repeat (first | exact (Kd.C_below HR0_5.out HB.out) | (with_reducible refine Kd.C_alloc ?_ _) | (with_reducible refine Kd.C_drewN ?_ _) | (with_reducible refine Kd.C_drew ?_))); (case side2 => exact HC0_5.out); (case side3 => repeat (first | exact (Kd.C_below HR1_5.out HB.out) | (with_reducible refine Kd.C_alloc ?_ _) | (with_reducible refine Kd.C_drewN ?_ _) | (with_reducible refine Kd.C_drew ?_))); (case side4 => exact HC1_5.out); rintro e w' ⟨rfl, ⟨nd, rfl⟩⟩; refine ⟨_, rfl, ?_⟩))
        go_ret
        exact ⟨by first | rfl | (simp [errW_none, errW_some] <;> rfl) | (simp [*, errW_none, errW_some] <;> rfl), by repeat (first | (with_reducible first | exact HB.out | apply below_alloc | apply pw_below_drewN | apply below_drew1 | refine below_set ?_ GE35001.out | refine below_set ?_ GE35002.out) | exact HB.out)⟩
      · replace c7 := Bool.eq_false_iff.mpr c7
        subst c7
        have H1 : (some false) = some r := by rw [if_neg (show ¬ (false = true) by decide)] at H; exact H
        clear H
        have H := H1
        clear H1
        exact absurd ((Option.some.inj H).trans HRT.out) (by decide)
    · replace c5 := Bool.eq_false_iff.mpr c5
      subst c5
      have H1 : (some false) = some r := by rw [if_neg (show ¬ (false = true) by decide)] at H; exact H
      clear H
      have H := H1
      clear H1
      exact absurd ((Option.some.inj H).trans HRT.out) (by decide)
  · rw [if_neg c3] at H
    have c3b0 : (a0_0 == a1_0) = false := beq_eq_false_iff_ne.mpr c3
    have c3b1 : (a0_0 != a1_0) = true := bne_iff_ne.mpr c3
    exact absurd ((Option.some.inj H).trans HRT.out) (by decide)


def laws_markStep.f (k : Nat) (a0_0 : Int) (a0_1 : Int) (a0_2 : Int) (a0_3 : Int) (a0_4 : Int) (l0_5 : List Int) (a1 : Int) : Option (Int × List Int) := (laws_markIntS.f k l0_5 a1).bind fun bt36002 => (some (bt36002.1, bt36002.2))
theorem laws_markStep.mono : ∀ a0 a1 a2 a3 a4 a5 a6 k, LeO (laws_markStep.f k a0 a1 a2 a3 a4 a5 a6) (laws_markStep.f (k + 1) a0 a1 a2 a3 a4 a5 a6) := by
  intro a0 a1 a2 a3 a4 a5 a6 k
  unfold laws_markStep.f
  repeat' first | (with_reducible exact laws_markIntS.mono _ _ _) | (with_reducible exact LeO.refl _) | (with_reducible refine LeO.bind ?_ (fun _ => ?_))
set_option maxHeartbeats 8000000 in
set_option maxRecDepth 100000 in
theorem laws_markStep.calls (k : Nat) (a0_0 : Int) (a0_1 : Int) (a0_2 : Int) (a0_3 : Int) (a0_4 : Int) (P0_5_ : Nat → Prop) (u9000_ : Value) (l0_5 : List Int) (a1 : Int) (r1 : Int) (r2 : List Int) (w0 w : World) (hB : Below w0.heap.size w0 w) (ho0_5 : Kd.R (Kd.int .i64) 3 w w0.heap.size P0_5_ u9000_ l0_5) (h : laws_markStep.f k a0_0 a0_1 a0_2 a0_3 a0_4 l0_5 a1 = some (r1, r2)) :
    Calls Try.prog 35 #[.agg #[.int .i64 a0_0, .int .i64 a0_1, .int .i64 a0_2, .int .i64 a0_3, .int .i64 a0_4, u9000_], .int .i64 a1] w fun e w' => e = .returned (.int .i64 r1) ∧ Kd.R (Kd.int .i64) 3 w' w0.heap.size (fun k_ => (P0_5_ k_ ∨ w.heap.size ≤ k_)) u9000_ r2 ∧ Below w0.heap.size w0 w' ∧ Kept w w' (fun k_ => P0_5_ k_) := by
  have hu43 := Try.underlying43
  have HO0_5 := Aside0.mk (show Kd.R (Kd.int .i64) 3 w w0.heap.size (fun k_ => (P0_5_ k_ ∨ w.heap.size ≤ k_)) u9000_ l0_5 from Kd.R_mono ho0_5 (fun k_ hk => (.inl hk)))
  have HK := Aside0.mk (Kept.refl w (fun k_ => P0_5_ k_))
  have HW0 := Aside0.mk hB.size
  have HB := Aside0.mk hB
  clear hB
  have H : ((laws_markIntS.f k l0_5 a1).bind fun bt36002 => (some (bt36002.1, bt36002.2))) = some (r1, r2) := h
  clear h
  replace H := Option.bind_eq_some_iff.mp H
  obtain ⟨⟨t36002, t36003⟩, A30, H⟩ := H
  replace H : (some (t36002, t36003)) = some (r1, r2) := H
  have A3 := Aside0.mk A30
  clear A30
  simp only [Option.some.injEq, Prod.mk.injEq] at H
  obtain ⟨rfl, rfl⟩ := H
  obtain ⟨Ao4, co4, eo4⟩ := Kd.R_slice HO0_5.out
  subst eo4
  go_enter Try.func35, Try.ntmps35
  go_wp2_with (first | ((with_reducible refine gate_dst (N := 2) rfl ?_); refine box_event ?hg (N := 2) ?hd (cs := #[.int .i64 a0_0, .int .i64 a0_1, .int .i64 a0_2, .int .i64 a0_3, .int .i64 a0_4, .slice Ao4 l0_5.length co4]) (t := 43) ?hr ?_; (case hd => rfl); (case hg => rfl); (case hr => (go_simp; done)); intro gb36001 hg w5 hbox hb; have n0_ := Aside0.mk (Kd.R_below HO0_5.out hb); have n1_ := Aside0.mk (Kept.below (S := (fun k_ => P0_5_ k_)) HK.out hb); have n2_ := Aside0.mk (below_step HB.out hb); have n3_ := Aside0.mk (hbox); have n4_ := Aside0.mk (by rw [hg]; exact HK.out.1 : w.heap.size ≤ gb36001); have n5_ := Aside0.mk ((by rw [hg]; exact (below_size HB.out) : w0.heap.size ≤ gb36001)); clear HO0_5; clear HK; clear HB; have HO0_5 := n0_; have HK := n1_; have HB := n2_; have BK36001 := n3_; have GW36001 := n4_; have GE36001 := n5_; clear n0_ n1_ n2_ n3_ n4_ n5_; clear hb hbox hg; have hcz6_0 : w5.cell? ⟨gb36001, 0, none⟩ = some (.int .i64 a0_0) := (blk_cell BK36001.out 0).trans rfl; have hcz6_1 : w5.cell? ⟨gb36001, 1, none⟩ = some (.int .i64 a0_1) := (blk_cell BK36001.out 1).trans rfl; have hcz6_2 : w5.cell? ⟨gb36001, 2, none⟩ = some (.int .i64 a0_2) := (blk_cell BK36001.out 2).trans rfl; have hcz6_3 : w5.cell? ⟨gb36001, 3, none⟩ = some (.int .i64 a0_3) := (blk_cell BK36001.out 3).trans rfl; have hcz6_4 : w5.cell? ⟨gb36001, 4, none⟩ = some (.int .i64 a0_4) := (blk_cell BK36001.out 4).trans rfl; have hcz6_5 : w5.cell? ⟨gb36001, 5, none⟩ = some (.slice Ao4 l0_5.length co4) := (blk_cell BK36001.out 5).trans rfl; have hfz6_0 := blk_frozen BK36001.out 0; have hfz6_1 := blk_frozen BK36001.out 1; have hfz6_2 := blk_frozen BK36001.out 2; have hfz6_3 := blk_frozen BK36001.out 3; have hfz6_4 := blk_frozen BK36001.out 4; have hfz6_5 := blk_frozen BK36001.out 5) | ((with_reducible refine gate_callee (f := 47) rfl ?_); refine goesL_ (some 8) rfl rfl Try.func47 (by kernel_rfl) rfl #[.slice Ao4 l0_5.length co4, .int .i64 a1] rfl (by (try simp only [List.map_toArray, List.map_cons, List.map_nil]); rfl) ?_; (with_reducible refine (laws_markIntS.calls k (fun k_ => some k_ = (.slice Ao4 l0_5.length co4 : Value).ownBlock) (.slice Ao4 l0_5.length co4) l0_5 a1 t36002 t36003 w0 _ ?side1 ?side2 A3.out).mono ?_); (case side1 => repeat (with_reducible exact HB.out)); (case side2 => exact Kd.R_tight rfl HO0_5.out); rintro e w7 ⟨rfl, hy0, hb, hkp⟩; refine ⟨_, rfl, ?_⟩; have n0_ := Aside0.mk (Kd.R_reok rfl hy0 (fun k_ e_ => HO0_5.out.1 k_ e_)); have n1_ := Aside0.mk (blk_kept BK36001.out hkp (fun hs_ => (fun e_ => (Kd.R_ne HO0_5.out BK36001.out (by decide)) e_) hs_)); have n2_ := Aside0.mk (Kept.then_ (S := (fun k_ => P0_5_ k_)) HK.out hkp (fun k_ hs_ => (fun e_ => (HO0_5.out.1 k_ e_.symm)) hs_)); have n3_ := Aside0.mk (hb); clear HO0_5; clear BK36001; clear HK; clear HB; have HO0_5 := n0_; have BK36001 := n1_; have HK := n2_; have HB := n3_; clear n0_ n1_ n2_ n3_; (try clear hb); (try clear hkp); (try clear hy0)))
  go_ret
  exact ⟨by rfl, by (with_reducible repeat (first | apply Kd.R_alloc | apply Kd.R_drewN | apply Kd.R_drew)); exact HO0_5.out, by exact HB.out, by exact HK.out⟩


def laws_heldIntS.l0 : Nat → List Int → Int → Int → Option (Int)
  | 0, _, _, _ => none
  | k + 1, x0, x1, x5 => if x5 < (x0.length : Int) then (if 0 ≤ x5 then (if (rd x0 x5) = x1 then (laws_heldIntS.l0 k x0 (wrap64 (x1 + 1)) (wrap64 (x5 + 1))) else (some (-1))) else (none)) else (some x1)
def laws_heldIntS.f (k : Nat) (l0 : List Int) (a1 : Int) : Option (Int) := laws_heldIntS.l0 k l0 a1 0
theorem laws_heldIntS.mono_l : ∀ k, (∀ y0 y1 y2, LeO (laws_heldIntS.l0 k y0 y1 y2) (laws_heldIntS.l0 (k + 1) y0 y1 y2))
  | 0 => fun _ _ _ r h => by simp [laws_heldIntS.l0] at h
  | k + 1 => by
    have ih0 := laws_heldIntS.mono_l k
    · intro y0 y1 y2
      unfold laws_heldIntS.l0
      repeat' first
      | (with_reducible exact ih0 _ _ _)
      | (with_reducible exact LeO.refl _)
      | (with_reducible exact LeO.none _)
      | (with_reducible refine LeO.ite ?_ ?_)
      | (with_reducible refine LeO.bind ?_ (fun _ => ?_))
      | exact ih0 _ _ _
      | exact LeO.none _
      | refine LeO.ite ?_ ?_
      | refine LeO.bind ?_ (fun _ => ?_)
theorem laws_heldIntS.mono : ∀ a0 a1 k, LeO (laws_heldIntS.f k a0 a1) (laws_heldIntS.f (k + 1) a0 a1) := by
  intro a0 a1 k
  have ih0 := laws_heldIntS.mono_l k
  unfold laws_heldIntS.f
  repeat' first
      | (with_reducible exact ih0 _ _ _)
      | (with_reducible exact LeO.refl _)
      | (with_reducible exact LeO.none _)
      | (with_reducible refine LeO.ite ?_ ?_)
      | (with_reducible refine LeO.bind ?_ (fun _ => ?_))
      | exact ih0 _ _ _
      | exact LeO.none _
      | refine LeO.ite ?_ ?_
      | refine LeO.bind ?_ (fun _ => ?_)
set_option maxHeartbeats 8000000 in
set_option maxRecDepth 100000 in
theorem laws_heldIntS.calls (k : Nat) (A0 : Option Addr) (c0 : Nat) (l0 : List Int) (a1 : Int) (r : Int) (w : World) (hr0 : Kd.C (Kd.int .i64) w A0 l0.length l0) (hc0 : l0.length ≤ c0) (h : laws_heldIntS.f k l0 a1 = some r) :
    Calls Try.prog 48 #[.slice A0 l0.length c0, .int .i64 a1] w fun e w' => e = .returned (.int .i64 r) ∧ Drawn0 w w' := by
  have HR0 := Aside0.mk hr0
  have HC0 := Aside0.mk hc0
  clear hr0 hc0
  have H : (laws_heldIntS.l0 k l0 a1 0) = some r := h
  clear h
  have H' := Aside0.mk H
  clear H
  go_enter Try.func48, Try.ntmps48
  go_wp2
  go_loopg [1, 5] k (fun kq v1 v5 w' => ∃ (x1_1 : Int) (x5_1 : Int), v1 = .int .i64 x1_1 ∧ v5 = .int .i64 x5_1 ∧ Aside0 (laws_heldIntS.l0 kq l0 x1_1 x5_1 = some r) ∧ Aside0 (kq ≤ k) ∧ Drawn0 w w')
  case atStart => exact ⟨(a1), (0), (by first | rfl | (simp; done) | (simp [*]; done)), (by first | rfl | (simp; done) | (simp [*]; done)), H', ⟨Nat.le_refl _⟩, by repeat (first | exact Drawn0.refl _ | apply Drawn0.step)⟩
  case round =>
    clear H'
    try clear p2
    obtain ⟨x1_1, x5_1, rfl, rfl, HA, HK1, ⟨m1, rfl⟩⟩ := hrel
    cases gk with
    | zero => exact absurd HA.out (by simp [laws_heldIntS.l0])
    | succ k1 =>
      have H := HA.out
      clear HA
      simp only [laws_heldIntS.l0] at H
      by_cases c3 : x5_1 < (l0.length : Int)
      · rw [if_pos c3] at H
        have c3b0 : decide (x5_1 < (l0.length : Int)) = true := decide_eq_true c3
        clear c3
        by_cases c4 : 0 ≤ x5_1
        · rw [if_pos c4] at H
          have c4b0 : decide (0 ≤ x5_1) = true := decide_eq_true c4
          clear c4
          by_cases c5 : (rd l0 x5_1) = x1_1
          · rw [if_pos c5] at H
            have c5b0 : ((rd l0 x5_1) == x1_1) = true := beq_iff_eq.mpr c5
            have c5b1 : ((rd l0 x5_1) != x1_1) = false := bne_eq_false_iff_eq.mpr c5
            clear c5
            have H' := Aside0.mk H
            clear H
            have p49001 : 0 ≤ (x5_1 : Int) := of_decide_eq_true (by first | (with_reducible assumption) | assumption)
            have q49001 : x5_1 < (l0.length : Int) := of_decide_eq_true (by first | (with_reducible assumption) | assumption)
            obtain ⟨ad49001, e49001, hx49001_0⟩ := Kd.at_int HR0.out x5_1 p49001 q49001
            cases e49001
            replace p49001 := eq_true p49001
            replace q49001 := eq_true q49001
            go_wp2
            go_roundg k1
            case measure => have := HK1.out; omega
            case rel => exact ⟨(wrap64 (x1_1 + 1)), (wrap64 (x5_1 + 1)), (by first | rfl | (simp; done) | (simp [*]; done)), (by first | rfl | (simp; done) | (simp [*]; done)), H', ⟨by have := HK1.out; omega⟩, by repeat (first | exact Drawn0.refl _ | apply Drawn0.step)⟩
          · rw [if_neg c5] at H
            have c5b0 : ((rd l0 x5_1) == x1_1) = false := beq_eq_false_iff_ne.mpr c5
            have c5b1 : ((rd l0 x5_1) != x1_1) = true := bne_iff_ne.mpr c5
            obtain rfl := Option.some.inj H
            have p49001 : 0 ≤ (x5_1 : Int) := of_decide_eq_true (by first | (with_reducible assumption) | assumption)
            have q49001 : x5_1 < (l0.length : Int) := of_decide_eq_true (by first | (with_reducible assumption) | assumption)
            obtain ⟨ad49001, e49001, hx49001_0⟩ := Kd.at_int HR0.out x5_1 p49001 q49001
            cases e49001
            replace p49001 := eq_true p49001
            replace q49001 := eq_true q49001
            go_wp2
            go_ret
            exact ⟨by first | rfl | (simp; done) | (simp [*]; done), by repeat (first | exact Drawn0.refl _ | apply Drawn0.step)⟩
        · rw [if_neg c4] at H
          exact absurd H (by simp)
      · rw [if_neg c3] at H
        have c3b0 : decide (x5_1 < (l0.length : Int)) = false := decide_eq_false c3
        clear c3
        obtain rfl := Option.some.inj H
        go_wp2
        go_ret
        exact ⟨by first | rfl | (simp; done) | (simp [*]; done), by repeat (first | exact Drawn0.refl _ | apply Drawn0.step)⟩


def laws_heldImage.f (k : Nat) (a0_0 : Int) (a0_1 : Int) (a0_2 : Int) (l0_3 : List Int) (a1 : Int) : Option (Int) := (laws_heldIntS.f k l0_3 a1).bind fun t21002 => (if t21002 < 0 then (some (-1)) else (some t21002))
theorem laws_heldImage.mono : ∀ a0 a1 a2 a3 a4 k, LeO (laws_heldImage.f k a0 a1 a2 a3 a4) (laws_heldImage.f (k + 1) a0 a1 a2 a3 a4) := by
  intro a0 a1 a2 a3 a4 k
  unfold laws_heldImage.f
  repeat' first
      | (with_reducible exact laws_heldIntS.mono _ _ _)
      | (with_reducible exact LeO.refl _)
      | (with_reducible exact LeO.none _)
      | (with_reducible refine LeO.ite ?_ ?_)
      | (with_reducible refine LeO.bind ?_ (fun _ => ?_))
      | exact laws_heldIntS.mono _ _ _
      | exact LeO.none _
      | refine LeO.ite ?_ ?_
      | refine LeO.bind ?_ (fun _ => ?_)
set_option maxHeartbeats 8000000 in
set_option maxRecDepth 100000 in
theorem laws_heldImage.calls (k : Nat) (a0_0 : Int) (a0_1 : Int) (a0_2 : Int) (A0_3 : Option Addr) (c0_3 : Nat) (l0_3 : List Int) (a1 : Int) (r : Int) (w : World) (hr0_3 : Kd.C (Kd.int .i64) w A0_3 l0_3.length l0_3) (hc0_3 : l0_3.length ≤ c0_3) (h : laws_heldImage.f k a0_0 a0_1 a0_2 l0_3 a1 = some r) :
    Calls Try.prog 20 #[.agg #[.int .i64 a0_0, .int .i64 a0_1, .int .i64 a0_2, .slice A0_3 l0_3.length c0_3], .int .i64 a1] w fun e w' => e = .returned (.int .i64 r) ∧ Below w.heap.size w w' := by
  have hu28 := Try.underlying28
  have HR0_3 := Aside0.mk hr0_3
  have HC0_3 := Aside0.mk hc0_3
  clear hr0_3 hc0_3
  have HB := Aside0.mk (Below.refl w.heap.size w)
  have H : ((laws_heldIntS.f k l0_3 a1).bind fun t21002 => (if t21002 < 0 then (some (-1)) else (some t21002))) = some r := h
  clear h
  replace H := Option.bind_eq_some_iff.mp H
  obtain ⟨t21002, A30, H⟩ := H
  replace H : (if t21002 < 0 then (some (-1)) else (some t21002)) = some r := H
  have A3 := Aside0.mk A30
  clear A30
  by_cases c4 : t21002 < 0
  · rw [if_pos c4] at H
    have c4b0 : decide (t21002 < 0) = true := decide_eq_true c4
    clear c4
    obtain rfl := Option.some.inj H
    go_enter Try.func20, Try.ntmps20
    go_wp2_with (first | ((with_reducible refine gate_dst (N := 2) rfl ?_); refine box_event ?hg (N := 2) ?hd (cs := #[.int .i64 a0_0, .int .i64 a0_1, .int .i64 a0_2, .slice A0_3 l0_3.length c0_3]) (t := 28) ?hr ?_; (case hd => rfl); (case hg => rfl); (case hr => first | (go_simp; done) | (go_simp; rfl)); intro gb21001 hg w5 hbox hb; have n0_ := Aside0.mk (below_step (by repeat (first | (with_reducible first | exact HB.out | apply below_alloc | apply pw_below_drewN | apply below_drew1) | exact HB.out)) hb); have n1_ := Aside0.mk (hbox); have n2_ := Aside0.mk ((by rw [hg]; exact (below_size (by repeat (first | (with_reducible first | exact HB.out | apply below_alloc | apply pw_below_drewN | apply below_drew1) | exact HB.out))) : w.heap.size ≤ gb21001)); have n3_ := Aside0.mk ((by rw [hg]; exact (below_size (by repeat (first | (with_reducible first | exact HB.out | apply below_alloc | apply pw_below_drewN | apply below_drew1) | exact HB.out))) : w.heap.size ≤ gb21001)); clear HB; have HB := n0_; have BK21001 := n1_; have GW21001 := n2_; have GE21001 := n3_; clear n0_ n1_ n2_ n3_; clear hb hbox hg; have hcz6_0 : w5.cell? ⟨gb21001, 0, none⟩ = some (.int .i64 a0_0) := (blk_cell BK21001.out 0).trans rfl; have hcz6_1 : w5.cell? ⟨gb21001, 1, none⟩ = some (.int .i64 a0_1) := (blk_cell BK21001.out 1).trans rfl; have hcz6_2 : w5.cell? ⟨gb21001, 2, none⟩ = some (.int .i64 a0_2) := (blk_cell BK21001.out 2).trans rfl; have hcz6_3 : w5.cell? ⟨gb21001, 3, none⟩ = some (.slice A0_3 l0_3.length c0_3) := (blk_cell BK21001.out 3).trans rfl; have hfz6_0 := blk_frozen BK21001.out 0; have hfz6_1 := blk_frozen BK21001.out 1; have hfz6_2 := blk_frozen BK21001.out 2; have hfz6_3 := blk_frozen BK21001.out 3) | ((with_reducible refine gate_callee (f := 48) rfl ?_); refine goesL_ (some 8) rfl rfl Try.func48 (by kernel_rfl) rfl #[.slice A0_3 l0_3.length c0_3, .int .i64 a1] rfl (by (try simp only [List.map_toArray, List.map_cons, List.map_nil]); first | done | rfl | (simp only [List.length_drop, List.length_take]; rfl)) ?_; (with_reducible refine (laws_heldIntS.calls k _ _ l0_3 a1 t21002 _ ?side1 ?side2 A3.out).mono ?_); (case side1 => repeat (first | exact (Kd.C_below HR0_3.out HB.out) | (with_reducible refine Kd.C_alloc ?_ _) | (with_reducible refine Kd.C_drewN ?_ _) | (with_reducible refine Kd.C_drew ?_))); (case side2 => exact HC0_3.out); rintro e w' ⟨rfl, ⟨nd, rfl⟩⟩; refine ⟨_, rfl, ?_⟩))
    go_ret
    exact ⟨by first | rfl | (simp [errW_none, errW_some] <;> rfl) | (simp [*, errW_none, errW_some] <;> rfl), by repeat (first | (with_reducible first | exact HB.out | apply below_alloc | apply pw_below_drewN | apply below_drew1 | refine below_set ?_ GE21001.out) | exact HB.out)⟩
  · rw [if_neg c4] at H
    have c4b0 : decide (t21002 < 0) = false := decide_eq_false c4
    clear c4
    obtain rfl := Option.some.inj H
    go_enter Try.func20, Try.ntmps20
    go_wp2_with (first | ((with_reducible refine gate_dst (N := 2) rfl ?_); refine box_event ?hg (N := 2) ?hd (cs := #[.int .i64 a0_0, .int .i64 a0_1, .int .i64 a0_2, .slice A0_3 l0_3.length c0_3]) (t := 28) ?hr ?_; (case hd => rfl); (case hg => rfl); (case hr => first | (go_simp; done) | (go_simp; rfl)); intro gb21001 hg w7 hbox hb; have n0_ := Aside0.mk (below_step (by repeat (first | (with_reducible first | exact HB.out | apply below_alloc | apply pw_below_drewN | apply below_drew1) | exact HB.out)) hb); have n1_ := Aside0.mk (hbox); have n2_ := Aside0.mk ((by rw [hg]; exact (below_size (by repeat (first | (with_reducible first | exact HB.out | apply below_alloc | apply pw_below_drewN | apply below_drew1) | exact HB.out))) : w.heap.size ≤ gb21001)); have n3_ := Aside0.mk ((by rw [hg]; exact (below_size (by repeat (first | (with_reducible first | exact HB.out | apply below_alloc | apply pw_below_drewN | apply below_drew1) | exact HB.out))) : w.heap.size ≤ gb21001)); clear HB; have HB := n0_; have BK21001 := n1_; have GW21001 := n2_; have GE21001 := n3_; clear n0_ n1_ n2_ n3_; clear hb hbox hg; have hcz8_0 : w7.cell? ⟨gb21001, 0, none⟩ = some (.int .i64 a0_0) := (blk_cell BK21001.out 0).trans rfl; have hcz8_1 : w7.cell? ⟨gb21001, 1, none⟩ = some (.int .i64 a0_1) := (blk_cell BK21001.out 1).trans rfl; have hcz8_2 : w7.cell? ⟨gb21001, 2, none⟩ = some (.int .i64 a0_2) := (blk_cell BK21001.out 2).trans rfl; have hcz8_3 : w7.cell? ⟨gb21001, 3, none⟩ = some (.slice A0_3 l0_3.length c0_3) := (blk_cell BK21001.out 3).trans rfl; have hfz8_0 := blk_frozen BK21001.out 0; have hfz8_1 := blk_frozen BK21001.out 1; have hfz8_2 := blk_frozen BK21001.out 2; have hfz8_3 := blk_frozen BK21001.out 3) | ((with_reducible refine gate_callee (f := 48) rfl ?_); refine goesL_ (some 8) rfl rfl Try.func48 (by kernel_rfl) rfl #[.slice A0_3 l0_3.length c0_3, .int .i64 a1] rfl (by (try simp only [List.map_toArray, List.map_cons, List.map_nil]); first | done | rfl | (simp only [List.length_drop, List.length_take]; rfl)) ?_; (with_reducible refine (laws_heldIntS.calls k _ _ l0_3 a1 t21002 _ ?side1 ?side2 A3.out).mono ?_); (case side1 => repeat (first | exact (Kd.C_below HR0_3.out HB.out) | (with_reducible refine Kd.C_alloc ?_ _) | (with_reducible refine Kd.C_drewN ?_ _) | (with_reducible refine Kd.C_drew ?_))); (case side2 => exact HC0_3.out); rintro e w' ⟨rfl, ⟨nd, rfl⟩⟩; refine ⟨_, rfl, ?_⟩))
    go_ret
    exact ⟨by first | rfl | (simp [errW_none, errW_some] <;> rfl) | (simp [*, errW_none, errW_some] <;> rfl), by repeat (first | (with_reducible first | exact HB.out | apply below_alloc | apply pw_below_drewN | apply below_drew1 | refine below_set ?_ GE21001.out) | exact HB.out)⟩


/- The law FnExactDoStep: its walk. -/

def laws_FnExactDoStep.Goes (k : Nat) (a0_0 : Int) (a0_1 : Int) (a0_2 : Int) (l0_3 : List Int) (a1_0 : Int) (a1_1 : Int) (a1_2 : Int) (a1_3 : Int) (a1_4 : Int) (l1_5 : List Int) : Prop := (∃ s0 : Int, laws_szImage.f a0_0 a0_1 a0_2 l0_3 1048576 = some s0 ∧ s0 < 0) ∨ (∃ s0 s1 : Int, laws_szImage.f a0_0 a0_1 a0_2 l0_3 1048576 = some s0 ∧ ¬ s0 < 0 ∧ laws_szStep.f a1_0 a1_1 a1_2 a1_3 a1_4 l1_5 s0 = some s1 ∧ s1 < 0) ∨ (∃ (s0 : Int) (s1 : Int) (x0_0 : Int) (x0_1 : Int) (x0_2 : Int) (x0_3 : List Int) (x1_0 : Int) (x1_1 : Int) (x1_2 : Int) (x1_3 : Int) (x1_4 : Int) (x1_5 : List Int) (v0 : Int) (v1 : Int) (v2 : Int) (v3 : List Int) (vok : Bool) (k0 : Int) (y0 : List Int) (k1 : Int) (y1 : List Int) (m : Int) (u : List Int), laws_szImage.f a0_0 a0_1 a0_2 l0_3 1048576 = some s0 ∧ ¬ s0 < 0 ∧ laws_szStep.f a1_0 a1_1 a1_2 a1_3 a1_4 l1_5 s0 = some s1 ∧ ¬ s1 < 0 ∧ laws_toImage.f k a0_0 a0_1 a0_2 l0_3 = some (x0_0, x0_1, x0_2, x0_3) ∧ laws_toStep.f k a1_0 a1_1 a1_2 a1_3 a1_4 l1_5 = some (x1_0, x1_1, x1_2, x1_3, x1_4, x1_5) ∧ spec_DoStep.f k x0_0 x0_1 x0_2 x0_3 x1_0 x1_1 x1_2 x1_3 x1_4 x1_5 = some (v0, v1, v2, v3, vok) ∧ impl_DoStep.f x0_0 x0_1 x0_2 x0_3 x1_0 x1_1 x1_2 x1_3 x1_4 x1_5 = some (v0, v1, v2, v3, vok) ∧ laws_eqImage.f k v0 v1 v2 v3 v0 v1 v2 v3 = some true ∧ laws_eqImage.f k x0_0 x0_1 x0_2 x0_3 x0_0 x0_1 x0_2 x0_3 = some true ∧ laws_eqStep.f k x1_0 x1_1 x1_2 x1_3 x1_4 x1_5 x1_0 x1_1 x1_2 x1_3 x1_4 x1_5 = some true ∧ laws_markImage.f k x0_0 x0_1 x0_2 x0_3 1 = some (k0, y0) ∧ laws_markStep.f k x1_0 x1_1 x1_2 x1_3 x1_4 x1_5 k0 = some (k1, y1) ∧ ¬ k1 < 0 ∧ laws_markImage.f k v0 v1 v2 v3 1 = some (m, u) ∧ laws_heldImage.f k v0 v1 v2 u 1 = some m ∧ ¬ m < 0)
noncomputable def laws_FnExactDoStep.f (k : Nat) (a0_0 : Int) (a0_1 : Int) (a0_2 : Int) (l0_3 : List Int) (a1_0 : Int) (a1_1 : Int) (a1_2 : Int) (a1_3 : Int) (a1_4 : Int) (l1_5 : List Int) : Option Bool := @ite _ (laws_FnExactDoStep.Goes k a0_0 a0_1 a0_2 l0_3 a1_0 a1_1 a1_2 a1_3 a1_4 l1_5) (Classical.propDecidable _) (some true) none
theorem laws_FnExactDoStep.f_of {k : Nat} {a0_0 : Int} {a0_1 : Int} {a0_2 : Int} {l0_3 : List Int} {a1_0 : Int} {a1_1 : Int} {a1_2 : Int} {a1_3 : Int} {a1_4 : Int} {l1_5 : List Int} (h : laws_FnExactDoStep.Goes k a0_0 a0_1 a0_2 l0_3 a1_0 a1_1 a1_2 a1_3 a1_4 l1_5) : laws_FnExactDoStep.f k a0_0 a0_1 a0_2 l0_3 a1_0 a1_1 a1_2 a1_3 a1_4 l1_5 = some true := by unfold laws_FnExactDoStep.f; rw [if_pos h]
set_option maxHeartbeats 8000000 in
set_option maxRecDepth 100000 in
theorem laws_FnExactDoStep.big0 (k : Nat) (a0_0 : Int) (a0_1 : Int) (a0_2 : Int) (A0_3 : Option Addr) (c0_3 : Nat) (l0_3 : List Int) (a1_0 : Int) (a1_1 : Int) (a1_2 : Int) (a1_3 : Int) (a1_4 : Int) (A1_5 : Option Addr) (c1_5 : Nat) (l1_5 : List Int) (w : World) (hr0 : Kd.C (Kd.int .i64) w A0_3 l0_3.length l0_3) (hc0 : l0_3.length ≤ c0_3) (hr1 : Kd.C (Kd.int .i64) w A1_5 l1_5.length l1_5) (hc1 : l1_5.length ≤ c1_5) (s0 : Int) (hs0 : laws_szImage.f a0_0 a0_1 a0_2 l0_3 1048576 = some s0) (hn0 : s0 < 0) : Calls Try.prog 6 #[.agg #[.int .i64 a0_0, .int .i64 a0_1, .int .i64 a0_2, .slice A0_3 l0_3.length c0_3], .agg #[.int .i64 a1_0, .int .i64 a1_1, .int .i64 a1_2, .int .i64 a1_3, .int .i64 a1_4, .slice A1_5 l1_5.length c1_5]] w fun e w' => e = .returned (.bool true) ∧ Below w.heap.size w w' := by
  have HC0 := Aside0.mk hc0
  have HR0 := Aside0.mk hr0
  have HC1 := Aside0.mk hc1
  have HR1 := Aside0.mk hr1
  have HB := Aside0.mk (Below.refl w.heap.size w)
  clear hc0 hr0 hc1 hr1
  have hu0 := Try.underlying28
  have hu1 := Try.underlying43
  have hu2 := Try.underlying24
  have hu3 := Try.underlying57
  have HS0 := Aside0.mk hs0
  have dn0 : decide (s0 < 0) = true := decide_eq_true hn0
  clear hs0 hn0
  go_enter Try.func6, Try.ntmps6
  go_wp2_with (first
    | ((with_reducible refine gate_dst (N := 2) rfl ?_); refine box_event ?hg (N := 2) ?hd (cs := #[.int .i64 a0_0, .int .i64 a0_1, .int .i64 a0_2, .slice A0_3 l0_3.length c0_3]) (t := 24) ?hr ?_; (case hd => rfl); (case hg => rfl); (case hr => first | (go_simp; done) | (go_simp; rfl)); intro gb0 hg_ wb0 hbox hb; have Kgb0 := Aside0.mk hbox; have HB := Aside0.mk (below_then HB.out HB.out.size hb); clear hbox hb hg_)
    | ((with_reducible refine gate_dst (N := 3) rfl ?_); refine box_event ?hg (N := 3) ?hd (cs := #[.int .i64 a1_0, .int .i64 a1_1, .int .i64 a1_2, .int .i64 a1_3, .int .i64 a1_4, .slice A1_5 l1_5.length c1_5]) (t := 57) ?hr ?_; (case hd => rfl); (case hg => rfl); (case hr => first | (go_simp; done) | (go_simp; rfl)); intro gb1 hg_ wb1 hbox hb; have Kgb0 := Aside0.mk (blk_below Kgb0.out hb); have Kgb1 := Aside0.mk hbox; have HB := Aside0.mk (below_then HB.out HB.out.size hb); have cb0_0 : wb1.cell? ⟨gb0, 0, none⟩ = some (.int .i64 a0_0) := (blk_cell Kgb0.out 0).trans rfl; have cb0_1 : wb1.cell? ⟨gb0, 1, none⟩ = some (.int .i64 a0_1) := (blk_cell Kgb0.out 1).trans rfl; have cb0_2 : wb1.cell? ⟨gb0, 2, none⟩ = some (.int .i64 a0_2) := (blk_cell Kgb0.out 2).trans rfl; have cb0_3 : wb1.cell? ⟨gb0, 3, none⟩ = some (.slice A0_3 l0_3.length c0_3) := (blk_cell Kgb0.out 3).trans rfl; have cb1_0 : wb1.cell? ⟨gb1, 0, none⟩ = some (.int .i64 a1_0) := (blk_cell Kgb1.out 0).trans rfl; have cb1_1 : wb1.cell? ⟨gb1, 1, none⟩ = some (.int .i64 a1_1) := (blk_cell Kgb1.out 1).trans rfl; have cb1_2 : wb1.cell? ⟨gb1, 2, none⟩ = some (.int .i64 a1_2) := (blk_cell Kgb1.out 2).trans rfl; have cb1_3 : wb1.cell? ⟨gb1, 3, none⟩ = some (.int .i64 a1_3) := (blk_cell Kgb1.out 3).trans rfl; have cb1_4 : wb1.cell? ⟨gb1, 4, none⟩ = some (.int .i64 a1_4) := (blk_cell Kgb1.out 4).trans rfl; have cb1_5 : wb1.cell? ⟨gb1, 5, none⟩ = some (.slice A1_5 l1_5.length c1_5) := (blk_cell Kgb1.out 5).trans rfl; clear hbox hb hg_)
    | (go_at_call 10; (with_reducible refine (laws_szImage.calls a0_0 a0_1 a0_2 A0_3 c0_3 l0_3 1048576 s0 wb1 (Kd.C_below HR0.out HB.out) HC0.out HS0.out).mono ?_); rintro e wz0 ⟨rfl, hb⟩; have Kgb0 := Aside0.mk (blk_below Kgb0.out hb); have Kgb1 := Aside0.mk (blk_below Kgb1.out hb); have HB := Aside0.mk (below_then HB.out HB.out.size hb); have cb0_0 : wz0.cell? ⟨gb0, 0, none⟩ = some (.int .i64 a0_0) := (blk_cell Kgb0.out 0).trans rfl; have cb0_1 : wz0.cell? ⟨gb0, 1, none⟩ = some (.int .i64 a0_1) := (blk_cell Kgb0.out 1).trans rfl; have cb0_2 : wz0.cell? ⟨gb0, 2, none⟩ = some (.int .i64 a0_2) := (blk_cell Kgb0.out 2).trans rfl; have cb0_3 : wz0.cell? ⟨gb0, 3, none⟩ = some (.slice A0_3 l0_3.length c0_3) := (blk_cell Kgb0.out 3).trans rfl; have cb1_0 : wz0.cell? ⟨gb1, 0, none⟩ = some (.int .i64 a1_0) := (blk_cell Kgb1.out 0).trans rfl; have cb1_1 : wz0.cell? ⟨gb1, 1, none⟩ = some (.int .i64 a1_1) := (blk_cell Kgb1.out 1).trans rfl; have cb1_2 : wz0.cell? ⟨gb1, 2, none⟩ = some (.int .i64 a1_2) := (blk_cell Kgb1.out 2).trans rfl; have cb1_3 : wz0.cell? ⟨gb1, 3, none⟩ = some (.int .i64 a1_3) := (blk_cell Kgb1.out 3).trans rfl; have cb1_4 : wz0.cell? ⟨gb1, 4, none⟩ = some (.int .i64 a1_4) := (blk_cell Kgb1.out 4).trans rfl; have cb1_5 : wz0.cell? ⟨gb1, 5, none⟩ = some (.slice A1_5 l1_5.length c1_5) := (blk_cell Kgb1.out 5).trans rfl; clear hb))
  go_ret
  exact ⟨rfl, HB.out⟩
set_option maxHeartbeats 8000000 in
set_option maxRecDepth 100000 in
theorem laws_FnExactDoStep.big1 (k : Nat) (a0_0 : Int) (a0_1 : Int) (a0_2 : Int) (A0_3 : Option Addr) (c0_3 : Nat) (l0_3 : List Int) (a1_0 : Int) (a1_1 : Int) (a1_2 : Int) (a1_3 : Int) (a1_4 : Int) (A1_5 : Option Addr) (c1_5 : Nat) (l1_5 : List Int) (w : World) (hr0 : Kd.C (Kd.int .i64) w A0_3 l0_3.length l0_3) (hc0 : l0_3.length ≤ c0_3) (hr1 : Kd.C (Kd.int .i64) w A1_5 l1_5.length l1_5) (hc1 : l1_5.length ≤ c1_5) (s0 : Int) (s1 : Int) (hs0 : laws_szImage.f a0_0 a0_1 a0_2 l0_3 1048576 = some s0) (hn0 : ¬ s0 < 0) (hs1 : laws_szStep.f a1_0 a1_1 a1_2 a1_3 a1_4 l1_5 s0 = some s1) (hn1 : s1 < 0) : Calls Try.prog 6 #[.agg #[.int .i64 a0_0, .int .i64 a0_1, .int .i64 a0_2, .slice A0_3 l0_3.length c0_3], .agg #[.int .i64 a1_0, .int .i64 a1_1, .int .i64 a1_2, .int .i64 a1_3, .int .i64 a1_4, .slice A1_5 l1_5.length c1_5]] w fun e w' => e = .returned (.bool true) ∧ Below w.heap.size w w' := by
  have HC0 := Aside0.mk hc0
  have HR0 := Aside0.mk hr0
  have HC1 := Aside0.mk hc1
  have HR1 := Aside0.mk hr1
  have HB := Aside0.mk (Below.refl w.heap.size w)
  clear hc0 hr0 hc1 hr1
  have hu0 := Try.underlying28
  have hu1 := Try.underlying43
  have hu2 := Try.underlying24
  have hu3 := Try.underlying57
  have HS0 := Aside0.mk hs0
  have dn0 : decide (s0 < 0) = false := decide_eq_false hn0
  have HS1 := Aside0.mk hs1
  have dn1 : decide (s1 < 0) = true := decide_eq_true hn1
  clear hs0 hn0 hs1 hn1
  go_enter Try.func6, Try.ntmps6
  go_wp2_with (first
    | ((with_reducible refine gate_dst (N := 2) rfl ?_); refine box_event ?hg (N := 2) ?hd (cs := #[.int .i64 a0_0, .int .i64 a0_1, .int .i64 a0_2, .slice A0_3 l0_3.length c0_3]) (t := 24) ?hr ?_; (case hd => rfl); (case hg => rfl); (case hr => first | (go_simp; done) | (go_simp; rfl)); intro gb0 hg_ wb0 hbox hb; have Kgb0 := Aside0.mk hbox; have HB := Aside0.mk (below_then HB.out HB.out.size hb); clear hbox hb hg_)
    | ((with_reducible refine gate_dst (N := 3) rfl ?_); refine box_event ?hg (N := 3) ?hd (cs := #[.int .i64 a1_0, .int .i64 a1_1, .int .i64 a1_2, .int .i64 a1_3, .int .i64 a1_4, .slice A1_5 l1_5.length c1_5]) (t := 57) ?hr ?_; (case hd => rfl); (case hg => rfl); (case hr => first | (go_simp; done) | (go_simp; rfl)); intro gb1 hg_ wb1 hbox hb; have Kgb0 := Aside0.mk (blk_below Kgb0.out hb); have Kgb1 := Aside0.mk hbox; have HB := Aside0.mk (below_then HB.out HB.out.size hb); have cb0_0 : wb1.cell? ⟨gb0, 0, none⟩ = some (.int .i64 a0_0) := (blk_cell Kgb0.out 0).trans rfl; have cb0_1 : wb1.cell? ⟨gb0, 1, none⟩ = some (.int .i64 a0_1) := (blk_cell Kgb0.out 1).trans rfl; have cb0_2 : wb1.cell? ⟨gb0, 2, none⟩ = some (.int .i64 a0_2) := (blk_cell Kgb0.out 2).trans rfl; have cb0_3 : wb1.cell? ⟨gb0, 3, none⟩ = some (.slice A0_3 l0_3.length c0_3) := (blk_cell Kgb0.out 3).trans rfl; have cb1_0 : wb1.cell? ⟨gb1, 0, none⟩ = some (.int .i64 a1_0) := (blk_cell Kgb1.out 0).trans rfl; have cb1_1 : wb1.cell? ⟨gb1, 1, none⟩ = some (.int .i64 a1_1) := (blk_cell Kgb1.out 1).trans rfl; have cb1_2 : wb1.cell? ⟨gb1, 2, none⟩ = some (.int .i64 a1_2) := (blk_cell Kgb1.out 2).trans rfl; have cb1_3 : wb1.cell? ⟨gb1, 3, none⟩ = some (.int .i64 a1_3) := (blk_cell Kgb1.out 3).trans rfl; have cb1_4 : wb1.cell? ⟨gb1, 4, none⟩ = some (.int .i64 a1_4) := (blk_cell Kgb1.out 4).trans rfl; have cb1_5 : wb1.cell? ⟨gb1, 5, none⟩ = some (.slice A1_5 l1_5.length c1_5) := (blk_cell Kgb1.out 5).trans rfl; clear hbox hb hg_)
    | (go_at_call 10; (with_reducible refine (laws_szImage.calls a0_0 a0_1 a0_2 A0_3 c0_3 l0_3 1048576 s0 wb1 (Kd.C_below HR0.out HB.out) HC0.out HS0.out).mono ?_); rintro e wz0 ⟨rfl, hb⟩; have Kgb0 := Aside0.mk (blk_below Kgb0.out hb); have Kgb1 := Aside0.mk (blk_below Kgb1.out hb); have HB := Aside0.mk (below_then HB.out HB.out.size hb); have cb0_0 : wz0.cell? ⟨gb0, 0, none⟩ = some (.int .i64 a0_0) := (blk_cell Kgb0.out 0).trans rfl; have cb0_1 : wz0.cell? ⟨gb0, 1, none⟩ = some (.int .i64 a0_1) := (blk_cell Kgb0.out 1).trans rfl; have cb0_2 : wz0.cell? ⟨gb0, 2, none⟩ = some (.int .i64 a0_2) := (blk_cell Kgb0.out 2).trans rfl; have cb0_3 : wz0.cell? ⟨gb0, 3, none⟩ = some (.slice A0_3 l0_3.length c0_3) := (blk_cell Kgb0.out 3).trans rfl; have cb1_0 : wz0.cell? ⟨gb1, 0, none⟩ = some (.int .i64 a1_0) := (blk_cell Kgb1.out 0).trans rfl; have cb1_1 : wz0.cell? ⟨gb1, 1, none⟩ = some (.int .i64 a1_1) := (blk_cell Kgb1.out 1).trans rfl; have cb1_2 : wz0.cell? ⟨gb1, 2, none⟩ = some (.int .i64 a1_2) := (blk_cell Kgb1.out 2).trans rfl; have cb1_3 : wz0.cell? ⟨gb1, 3, none⟩ = some (.int .i64 a1_3) := (blk_cell Kgb1.out 3).trans rfl; have cb1_4 : wz0.cell? ⟨gb1, 4, none⟩ = some (.int .i64 a1_4) := (blk_cell Kgb1.out 4).trans rfl; have cb1_5 : wz0.cell? ⟨gb1, 5, none⟩ = some (.slice A1_5 l1_5.length c1_5) := (blk_cell Kgb1.out 5).trans rfl; clear hb)
    | (go_at_call 32; (with_reducible refine (laws_szStep.calls a1_0 a1_1 a1_2 a1_3 a1_4 A1_5 c1_5 l1_5 s0 s1 wz0 (Kd.C_below HR1.out HB.out) HC1.out HS1.out).mono ?_); rintro e wz1 ⟨rfl, hb⟩; have Kgb0 := Aside0.mk (blk_below Kgb0.out hb); have Kgb1 := Aside0.mk (blk_below Kgb1.out hb); have HB := Aside0.mk (below_then HB.out HB.out.size hb); have cb0_0 : wz1.cell? ⟨gb0, 0, none⟩ = some (.int .i64 a0_0) := (blk_cell Kgb0.out 0).trans rfl; have cb0_1 : wz1.cell? ⟨gb0, 1, none⟩ = some (.int .i64 a0_1) := (blk_cell Kgb0.out 1).trans rfl; have cb0_2 : wz1.cell? ⟨gb0, 2, none⟩ = some (.int .i64 a0_2) := (blk_cell Kgb0.out 2).trans rfl; have cb0_3 : wz1.cell? ⟨gb0, 3, none⟩ = some (.slice A0_3 l0_3.length c0_3) := (blk_cell Kgb0.out 3).trans rfl; have cb1_0 : wz1.cell? ⟨gb1, 0, none⟩ = some (.int .i64 a1_0) := (blk_cell Kgb1.out 0).trans rfl; have cb1_1 : wz1.cell? ⟨gb1, 1, none⟩ = some (.int .i64 a1_1) := (blk_cell Kgb1.out 1).trans rfl; have cb1_2 : wz1.cell? ⟨gb1, 2, none⟩ = some (.int .i64 a1_2) := (blk_cell Kgb1.out 2).trans rfl; have cb1_3 : wz1.cell? ⟨gb1, 3, none⟩ = some (.int .i64 a1_3) := (blk_cell Kgb1.out 3).trans rfl; have cb1_4 : wz1.cell? ⟨gb1, 4, none⟩ = some (.int .i64 a1_4) := (blk_cell Kgb1.out 4).trans rfl; have cb1_5 : wz1.cell? ⟨gb1, 5, none⟩ = some (.slice A1_5 l1_5.length c1_5) := (blk_cell Kgb1.out 5).trans rfl; clear hb))
  go_ret
  exact ⟨rfl, HB.out⟩
set_option maxHeartbeats 8000000 in
set_option maxRecDepth 100000 in
theorem laws_FnExactDoStep.way (k : Nat) (a0_0 : Int) (a0_1 : Int) (a0_2 : Int) (A0_3 : Option Addr) (c0_3 : Nat) (l0_3 : List Int) (a1_0 : Int) (a1_1 : Int) (a1_2 : Int) (a1_3 : Int) (a1_4 : Int) (A1_5 : Option Addr) (c1_5 : Nat) (l1_5 : List Int) (w : World) (hr0 : Kd.C (Kd.int .i64) w A0_3 l0_3.length l0_3) (hc0 : l0_3.length ≤ c0_3) (hr1 : Kd.C (Kd.int .i64) w A1_5 l1_5.length l1_5) (hc1 : l1_5.length ≤ c1_5) (s0 : Int) (s1 : Int) (x0_0 : Int) (x0_1 : Int) (x0_2 : Int) (x0_3 : List Int) (x1_0 : Int) (x1_1 : Int) (x1_2 : Int) (x1_3 : Int) (x1_4 : Int) (x1_5 : List Int) (v0 : Int) (v1 : Int) (v2 : Int) (v3 : List Int) (vok : Bool) (k0 : Int) (y0 : List Int) (k1 : Int) (y1 : List Int) (m : Int) (u : List Int) (HS0 : laws_szImage.f a0_0 a0_1 a0_2 l0_3 1048576 = some s0) (HN0 : ¬ s0 < 0) (HS1 : laws_szStep.f a1_0 a1_1 a1_2 a1_3 a1_4 l1_5 s0 = some s1) (HN1 : ¬ s1 < 0) (HT0 : laws_toImage.f k a0_0 a0_1 a0_2 l0_3 = some (x0_0, x0_1, x0_2, x0_3)) (HT1 : laws_toStep.f k a1_0 a1_1 a1_2 a1_3 a1_4 l1_5 = some (x1_0, x1_1, x1_2, x1_3, x1_4, x1_5)) (HSP : spec_DoStep.f k x0_0 x0_1 x0_2 x0_3 x1_0 x1_1 x1_2 x1_3 x1_4 x1_5 = some (v0, v1, v2, v3, vok)) (HIM : impl_DoStep.f x0_0 x0_1 x0_2 x0_3 x1_0 x1_1 x1_2 x1_3 x1_4 x1_5 = some (v0, v1, v2, v3, vok)) (HEV : laws_eqImage.f k v0 v1 v2 v3 v0 v1 v2 v3 = some true) (HE0 : laws_eqImage.f k x0_0 x0_1 x0_2 x0_3 x0_0 x0_1 x0_2 x0_3 = some true) (HE1 : laws_eqStep.f k x1_0 x1_1 x1_2 x1_3 x1_4 x1_5 x1_0 x1_1 x1_2 x1_3 x1_4 x1_5 = some true) (HM0 : laws_markImage.f k x0_0 x0_1 x0_2 x0_3 1 = some (k0, y0)) (HM1 : laws_markStep.f k x1_0 x1_1 x1_2 x1_3 x1_4 x1_5 k0 = some (k1, y1)) (HKN : ¬ k1 < 0) (HMR : laws_markImage.f k v0 v1 v2 v3 1 = some (m, u)) (HHR : laws_heldImage.f k v0 v1 v2 u 1 = some m) (HMN : ¬ m < 0) : Calls Try.prog 6 #[.agg #[.int .i64 a0_0, .int .i64 a0_1, .int .i64 a0_2, .slice A0_3 l0_3.length c0_3], .agg #[.int .i64 a1_0, .int .i64 a1_1, .int .i64 a1_2, .int .i64 a1_3, .int .i64 a1_4, .slice A1_5 l1_5.length c1_5]] w fun e w' => e = .returned (.bool true) ∧ Below w.heap.size w w' := by
  have HC0 := Aside0.mk hc0
  have HR0 := Aside0.mk hr0
  have HC1 := Aside0.mk hc1
  have HR1 := Aside0.mk hr1
  have HB := Aside0.mk (Below.refl w.heap.size w)
  clear hc0 hr0 hc1 hr1
  have hu0 := Try.underlying28
  have hu1 := Try.underlying43
  have hu2 := Try.underlying24
  have hu3 := Try.underlying57
  replace HS0 := Aside0.mk HS0
  replace HN0 := Aside0.mk HN0
  replace HS1 := Aside0.mk HS1
  replace HN1 := Aside0.mk HN1
  replace HT0 := Aside0.mk HT0
  replace HT1 := Aside0.mk HT1
  replace HSP := Aside0.mk HSP
  replace HIM := Aside0.mk HIM
  replace HEV := Aside0.mk HEV
  replace HE0 := Aside0.mk HE0
  replace HE1 := Aside0.mk HE1
  replace HM0 := Aside0.mk HM0
  replace HM1 := Aside0.mk HM1
  replace HKN := Aside0.mk HKN
  replace HMR := Aside0.mk HMR
  replace HHR := Aside0.mk HHR
  replace HMN := Aside0.mk HMN
  have dn0 : decide (s0 < 0) = false := decide_eq_false HN0.out
  have dn1 : decide (s1 < 0) = false := decide_eq_false HN1.out
  have dk : decide (k1 < 0) = false := decide_eq_false HKN.out
  have dm : decide (m < 0) = false := decide_eq_false HMN.out
  go_enter Try.func6, Try.ntmps6
  go_upto_region 8 with (first
    | ((with_reducible refine gate_dst (N := 2) rfl ?_); refine box_event ?hg (N := 2) ?hd (cs := #[.int .i64 a0_0, .int .i64 a0_1, .int .i64 a0_2, .slice A0_3 l0_3.length c0_3]) (t := 24) ?hr ?_; (case hd => rfl); (case hg => rfl); (case hr => first | (go_simp; done) | (go_simp; rfl)); intro gb0 hg_ wb0 hbox hb; have Kgb0 := Aside0.mk hbox; have HB := Aside0.mk (below_then HB.out HB.out.size hb); clear hbox hb hg_)
    | ((with_reducible refine gate_dst (N := 3) rfl ?_); refine box_event ?hg (N := 3) ?hd (cs := #[.int .i64 a1_0, .int .i64 a1_1, .int .i64 a1_2, .int .i64 a1_3, .int .i64 a1_4, .slice A1_5 l1_5.length c1_5]) (t := 57) ?hr ?_; (case hd => rfl); (case hg => rfl); (case hr => first | (go_simp; done) | (go_simp; rfl)); intro gb1 hg_ wb1 hbox hb; have Kgb0 := Aside0.mk (blk_below Kgb0.out hb); have Kgb1 := Aside0.mk hbox; have HB := Aside0.mk (below_then HB.out HB.out.size hb); have cb0_0 : wb1.cell? ⟨gb0, 0, none⟩ = some (.int .i64 a0_0) := (blk_cell Kgb0.out 0).trans rfl; have cb0_1 : wb1.cell? ⟨gb0, 1, none⟩ = some (.int .i64 a0_1) := (blk_cell Kgb0.out 1).trans rfl; have cb0_2 : wb1.cell? ⟨gb0, 2, none⟩ = some (.int .i64 a0_2) := (blk_cell Kgb0.out 2).trans rfl; have cb0_3 : wb1.cell? ⟨gb0, 3, none⟩ = some (.slice A0_3 l0_3.length c0_3) := (blk_cell Kgb0.out 3).trans rfl; have cb1_0 : wb1.cell? ⟨gb1, 0, none⟩ = some (.int .i64 a1_0) := (blk_cell Kgb1.out 0).trans rfl; have cb1_1 : wb1.cell? ⟨gb1, 1, none⟩ = some (.int .i64 a1_1) := (blk_cell Kgb1.out 1).trans rfl; have cb1_2 : wb1.cell? ⟨gb1, 2, none⟩ = some (.int .i64 a1_2) := (blk_cell Kgb1.out 2).trans rfl; have cb1_3 : wb1.cell? ⟨gb1, 3, none⟩ = some (.int .i64 a1_3) := (blk_cell Kgb1.out 3).trans rfl; have cb1_4 : wb1.cell? ⟨gb1, 4, none⟩ = some (.int .i64 a1_4) := (blk_cell Kgb1.out 4).trans rfl; have cb1_5 : wb1.cell? ⟨gb1, 5, none⟩ = some (.slice A1_5 l1_5.length c1_5) := (blk_cell Kgb1.out 5).trans rfl; clear hbox hb hg_)
    | (go_at_call 10; (with_reducible refine (laws_szImage.calls a0_0 a0_1 a0_2 A0_3 c0_3 l0_3 1048576 s0 wb1 (Kd.C_below HR0.out HB.out) HC0.out HS0.out).mono ?_); rintro e wz0 ⟨rfl, hb⟩; have Kgb0 := Aside0.mk (blk_below Kgb0.out hb); have Kgb1 := Aside0.mk (blk_below Kgb1.out hb); have HB := Aside0.mk (below_then HB.out HB.out.size hb); have cb0_0 : wz0.cell? ⟨gb0, 0, none⟩ = some (.int .i64 a0_0) := (blk_cell Kgb0.out 0).trans rfl; have cb0_1 : wz0.cell? ⟨gb0, 1, none⟩ = some (.int .i64 a0_1) := (blk_cell Kgb0.out 1).trans rfl; have cb0_2 : wz0.cell? ⟨gb0, 2, none⟩ = some (.int .i64 a0_2) := (blk_cell Kgb0.out 2).trans rfl; have cb0_3 : wz0.cell? ⟨gb0, 3, none⟩ = some (.slice A0_3 l0_3.length c0_3) := (blk_cell Kgb0.out 3).trans rfl; have cb1_0 : wz0.cell? ⟨gb1, 0, none⟩ = some (.int .i64 a1_0) := (blk_cell Kgb1.out 0).trans rfl; have cb1_1 : wz0.cell? ⟨gb1, 1, none⟩ = some (.int .i64 a1_1) := (blk_cell Kgb1.out 1).trans rfl; have cb1_2 : wz0.cell? ⟨gb1, 2, none⟩ = some (.int .i64 a1_2) := (blk_cell Kgb1.out 2).trans rfl; have cb1_3 : wz0.cell? ⟨gb1, 3, none⟩ = some (.int .i64 a1_3) := (blk_cell Kgb1.out 3).trans rfl; have cb1_4 : wz0.cell? ⟨gb1, 4, none⟩ = some (.int .i64 a1_4) := (blk_cell Kgb1.out 4).trans rfl; have cb1_5 : wz0.cell? ⟨gb1, 5, none⟩ = some (.slice A1_5 l1_5.length c1_5) := (blk_cell Kgb1.out 5).trans rfl; clear hb)
    | (go_at_call 32; (with_reducible refine (laws_szStep.calls a1_0 a1_1 a1_2 a1_3 a1_4 A1_5 c1_5 l1_5 s0 s1 wz0 (Kd.C_below HR1.out HB.out) HC1.out HS1.out).mono ?_); rintro e wz1 ⟨rfl, hb⟩; have Kgb0 := Aside0.mk (blk_below Kgb0.out hb); have Kgb1 := Aside0.mk (blk_below Kgb1.out hb); have HB := Aside0.mk (below_then HB.out HB.out.size hb); have cb0_0 : wz1.cell? ⟨gb0, 0, none⟩ = some (.int .i64 a0_0) := (blk_cell Kgb0.out 0).trans rfl; have cb0_1 : wz1.cell? ⟨gb0, 1, none⟩ = some (.int .i64 a0_1) := (blk_cell Kgb0.out 1).trans rfl; have cb0_2 : wz1.cell? ⟨gb0, 2, none⟩ = some (.int .i64 a0_2) := (blk_cell Kgb0.out 2).trans rfl; have cb0_3 : wz1.cell? ⟨gb0, 3, none⟩ = some (.slice A0_3 l0_3.length c0_3) := (blk_cell Kgb0.out 3).trans rfl; have cb1_0 : wz1.cell? ⟨gb1, 0, none⟩ = some (.int .i64 a1_0) := (blk_cell Kgb1.out 0).trans rfl; have cb1_1 : wz1.cell? ⟨gb1, 1, none⟩ = some (.int .i64 a1_1) := (blk_cell Kgb1.out 1).trans rfl; have cb1_2 : wz1.cell? ⟨gb1, 2, none⟩ = some (.int .i64 a1_2) := (blk_cell Kgb1.out 2).trans rfl; have cb1_3 : wz1.cell? ⟨gb1, 3, none⟩ = some (.int .i64 a1_3) := (blk_cell Kgb1.out 3).trans rfl; have cb1_4 : wz1.cell? ⟨gb1, 4, none⟩ = some (.int .i64 a1_4) := (blk_cell Kgb1.out 4).trans rfl; have cb1_5 : wz1.cell? ⟨gb1, 5, none⟩ = some (.slice A1_5 l1_5.length c1_5) := (blk_cell Kgb1.out 5).trans rfl; clear hb))
  have HBSw := Aside0.mk HB.out.size
  have HZw := Aside0.mk (Nat.le_refl wz1.heap.size)
  replace HB := Aside0.mk (below_drew HB.out)
  replace Kgb0 := Aside0.mk (blk_below Kgb0.out (below_drew (Below.refl _ _)))
  replace Kgb1 := Aside0.mk (blk_below Kgb1.out (below_drew (Below.refl _ _)))
  replace HZw := Aside0.mk (show wz1.heap.size ≤ wz1.drew.heap.size from HZw.out)
  have QKgb0 := Aside0.mk (show gb0 < wz1.heap.size from blk_lt Kgb0.out)
  have QKgb1 := Aside0.mk (show gb1 < wz1.heap.size from blk_lt Kgb1.out)
  refine start_ (n := 11) (S := fun w' => w'.cell? ⟨gb0, 0, none⟩ = some (.int .i64 a0_0) ∧ w'.cell? ⟨gb0, 1, none⟩ = some (.int .i64 a0_1) ∧ w'.cell? ⟨gb0, 2, none⟩ = some (.int .i64 a0_2) ∧ w'.cell? ⟨gb0, 3, none⟩ = some (.slice A0_3 l0_3.length c0_3) ∧ w'.cell? ⟨gb1, 0, none⟩ = some (.int .i64 a1_0) ∧ w'.cell? ⟨gb1, 1, none⟩ = some (.int .i64 a1_1) ∧ w'.cell? ⟨gb1, 2, none⟩ = some (.int .i64 a1_2) ∧ w'.cell? ⟨gb1, 3, none⟩ = some (.int .i64 a1_3) ∧ w'.cell? ⟨gb1, 4, none⟩ = some (.int .i64 a1_4) ∧ w'.cell? ⟨gb1, 5, none⟩ = some (.slice A1_5 l1_5.length c1_5)) (ds := []) #[false, false, false, false, false, false, false, false, false, false, false] (by kernel_rfl) rfl rfl ⟨((blk_cell Kgb0.out 0).trans rfl), ((blk_cell Kgb0.out 1).trans rfl), ((blk_cell Kgb0.out 2).trans rfl), ((blk_cell Kgb0.out 3).trans rfl), ((blk_cell Kgb1.out 0).trans rfl), ((blk_cell Kgb1.out 1).trans rfl), ((blk_cell Kgb1.out 2).trans rfl), ((blk_cell Kgb1.out 3).trans rfl), ((blk_cell Kgb1.out 4).trans rfl), ((blk_cell Kgb1.out 5).trans rfl)⟩ (fun hHeld => ?_)
  refine take_ (i := 0) (N := some 28) (v := ?_) (a' := ?_) #[true, false, false, false, false, false, false, false, false, false, false] rfl rfl (by kernel_rfl) (fun _ _ _ h => h) (Or.inl ⟨by rfl, ?_⟩) hHeld ?_ ?_
  rotate_left
  · rintro w' ⟨s0, s1, s2, s3, s4, s5, s6, s7, s8, s9⟩
    go_simp
    with_reducible rfl
  rotate_left
  · simp only [Act.put, List.setIfInBounds_toArray, List.set_cons_zero, List.set_cons_succ, i64_w, i32_w]
    rfl
  refine take_ (i := 2) (N := some 30) (v := ?_) (a' := ?_) #[true, false, true, false, false, false, false, false, false, false, false] rfl rfl (by kernel_rfl) (fun _ _ _ h => h) (Or.inl ⟨by rfl, ?_⟩) hHeld ?_ ?_
  rotate_left
  · rintro w' ⟨s0, s1, s2, s3, s4, s5, s6, s7, s8, s9⟩
    go_simp
    with_reducible rfl
  rotate_left
  · simp only [Act.put, List.setIfInBounds_toArray, List.set_cons_zero, List.set_cons_succ, i64_w, i32_w]
    rfl
  refine join_ (σ := Value × Value × Value × Nat) 2 #[true, true, true, true, true, true, true, true, true, false, false] (fun s_ => [(29, .agg #[.int .i64 x0_0, .int .i64 x0_1, .int .i64 x0_2, s_.1]), (31, .agg #[.int .i64 x1_0, .int .i64 x1_1, .int .i64 x1_2, .int .i64 x1_3, .int .i64 x1_4, s_.2.1]), (32, .tuple #[.agg #[.int .i64 v0, .int .i64 v1, .int .i64 v2, s_.2.2.1], .bool vok]), (27, .tuple #[.agg #[.int .i64 v0, .int .i64 v1, .int .i64 v2, s_.2.2.1], .bool vok]), (33, .agg #[.int .i64 v0, .int .i64 v1, .int .i64 v2, s_.2.2.1]), (34, .bool vok), (6, .pointer (some ⟨s_.2.2.2, 0, none⟩))]) (fun s_ w' => Kd.R (Kd.int .i64) 3 w' w.heap.size (fun k_ => wz1.heap.size ≤ k_ ∧ k_ < w'.heap.size) (s_.2.2.1) v3 ∧ w'.heap[s_.2.2.2]? = some (.cells #[.int .i64 0, .int .i64 0, .int .i64 0, .slice none 0 0] 28 (0, 0)) ∧ wz1.heap.size ≤ s_.2.2.2 ∧ w'.heap[gb0]? = some (.cells #[.int .i64 a0_0, .int .i64 a0_1, .int .i64 a0_2, .slice A0_3 l0_3.length c0_3] 24 (0, 0)) ∧ w'.heap[gb1]? = some (.cells #[.int .i64 a1_0, .int .i64 a1_1, .int .i64 a1_2, .int .i64 a1_3, .int .i64 a1_4, .slice A1_5 l1_5.length c1_5] 57 (0, 0)) ∧ Below w.heap.size w w' ∧ wz1.heap.size ≤ w'.heap.size) ?_ ?_
  rotate_left
  · intro hCont
    refine two_ (i := 1) (j := 8) (Ni := some 29) (Nj := some 6) #[true, true, true, false, false, false, false, false, false, false, false] #[true, false, true, false, false, false, false, false, true, false, false] rfl rfl rfl rfl (by kernel_rfl) (by decide) (by decide) (fun K hK => ?_) (fun K hK => ?_)
    · skip
      refine goes_ Try.func13 (by kernel_rfl) rfl #[.agg #[.int .i64 a0_0, .int .i64 a0_1, .int .i64 a0_2, .slice A0_3 l0_3.length c0_3]] (by rfl) rfl rfl (by simp only [List.map_toArray, List.map_cons, List.map_nil]; rfl) ?_
      with_reducible refine (laws_toImage.calls k a0_0 a0_1 a0_2 A0_3 c0_3 l0_3 x0_0 x0_1 x0_2 x0_3 _ (Kd.C_below HR0.out HB.out) HC0.out HT0.out).mono ?_
      rintro e w2 ⟨vt_, rfl, hr_, hb_⟩
      refine ⟨_, rfl, ?_⟩
      replace HB := Aside0.mk (below_then HB.out HB.out.size hb_)
      replace Kgb0 := Aside0.mk (blk_below Kgb0.out hb_)
      replace Kgb1 := Aside0.mk (blk_below Kgb1.out hb_)
      replace HZw := Aside0.mk (Nat.le_trans HZw.out hb_.size)
      obtain ⟨At0, ct0, rfl, hl_, hC_⟩ := Kd.R_reads hr_
      have HT_0 := Aside0.mk hC_
      have HL_0 := Aside0.mk hl_
      clear hr_ hb_ hl_ hC_
      refine hK.out _ _ ⟨((blk_cell Kgb0.out 0).trans rfl), ((blk_cell Kgb0.out 1).trans rfl), ((blk_cell Kgb0.out 2).trans rfl), ((blk_cell Kgb0.out 3).trans rfl), ((blk_cell Kgb1.out 0).trans rfl), ((blk_cell Kgb1.out 1).trans rfl), ((blk_cell Kgb1.out 2).trans rfl), ((blk_cell Kgb1.out 3).trans rfl), ((blk_cell Kgb1.out 4).trans rfl), ((blk_cell Kgb1.out 5).trans rfl)⟩ (fun hHeld => ?_)
      clear hK K
      refine norm_ (a' := ?_) ?_ ?_
      rotate_left
      · show Act.put _ (some 29) _ = _
        simp only [Act.put, List.setIfInBounds_toArray, List.set_cons_zero, List.set_cons_succ, i64_w, i32_w]
        rfl
      refine two_ (i := 3) (j := 8) (Ni := some 31) (Nj := some 6) #[true, true, true, true, false, false, false, false, false, false, false] #[true, true, true, false, false, false, false, false, true, false, false] rfl rfl rfl rfl (by kernel_rfl) (by decide) (by decide) (fun K hK => ?_) (fun K hK => ?_)
      · skip
        refine goes_ Try.func33 (by kernel_rfl) rfl #[.agg #[.int .i64 a1_0, .int .i64 a1_1, .int .i64 a1_2, .int .i64 a1_3, .int .i64 a1_4, .slice A1_5 l1_5.length c1_5]] (by rfl) rfl rfl (by simp only [List.map_toArray, List.map_cons, List.map_nil]; rfl) ?_
        with_reducible refine (laws_toStep.calls k a1_0 a1_1 a1_2 a1_3 a1_4 A1_5 c1_5 l1_5 x1_0 x1_1 x1_2 x1_3 x1_4 x1_5 _ (Kd.C_below HR1.out HB.out) HC1.out HT1.out).mono ?_
        rintro e w3 ⟨vt_, rfl, hr_, hb_⟩
        refine ⟨_, rfl, ?_⟩
        replace HB := Aside0.mk (below_then HB.out HB.out.size hb_)
        replace Kgb0 := Aside0.mk (blk_below Kgb0.out hb_)
        replace Kgb1 := Aside0.mk (blk_below Kgb1.out hb_)
        replace HT_0 := Aside0.mk (Kd.C_below HT_0.out hb_)
        replace HZw := Aside0.mk (Nat.le_trans HZw.out hb_.size)
        obtain ⟨At1, ct1, rfl, hl_, hC_⟩ := Kd.R_reads hr_
        have HT_1 := Aside0.mk hC_
        have HL_1 := Aside0.mk hl_
        clear hr_ hb_ hl_ hC_
        refine hK.out _ _ ⟨((blk_cell Kgb0.out 0).trans rfl), ((blk_cell Kgb0.out 1).trans rfl), ((blk_cell Kgb0.out 2).trans rfl), ((blk_cell Kgb0.out 3).trans rfl), ((blk_cell Kgb1.out 0).trans rfl), ((blk_cell Kgb1.out 1).trans rfl), ((blk_cell Kgb1.out 2).trans rfl), ((blk_cell Kgb1.out 3).trans rfl), ((blk_cell Kgb1.out 4).trans rfl), ((blk_cell Kgb1.out 5).trans rfl)⟩ (fun hHeld => ?_)
        clear hK K
        refine norm_ (a' := ?_) ?_ ?_
        rotate_left
        · show Act.put _ (some 31) _ = _
          simp only [Act.put, List.setIfInBounds_toArray, List.set_cons_zero, List.set_cons_succ, i64_w, i32_w]
          rfl
        refine two_ (i := 4) (j := 8) (Ni := some 32) (Nj := some 6) #[true, true, true, true, true, false, false, false, false, false, false] #[true, true, true, true, false, false, false, false, true, false, false] rfl rfl rfl rfl (by kernel_rfl) (by decide) (by decide) (fun K hK => ?_) (fun K hK => ?_)
        · skip
          refine goes_ Try.func23 (by kernel_rfl) rfl #[.agg #[.int .i64 x0_0, .int .i64 x0_1, .int .i64 x0_2, .slice At0 x0_3.length ct0], .agg #[.int .i64 x1_0, .int .i64 x1_1, .int .i64 x1_2, .int .i64 x1_3, .int .i64 x1_4, .slice At1 x1_5.length ct1]] (by rfl) rfl rfl (by simp only [List.map_toArray, List.map_cons, List.map_nil]; rfl) ?_
          with_reducible refine (spec_DoStep.calls k x0_0 x0_1 x0_2 At0 ct0 x0_3 x1_0 x1_1 x1_2 x1_3 x1_4 At1 ct1 x1_5 v0 v1 v2 v3 vok _ HT_0.out HL_0.out HT_1.out HL_1.out HSP.out).mono ?_
          rintro e w4 ⟨vw_, rfl, hr_, hb_⟩
          refine ⟨_, rfl, ?_⟩
          have HZp_ := HZw
          have HBp_ := HB
          replace HB := Aside0.mk (below_then HB.out HB.out.size hb_)
          replace Kgb0 := Aside0.mk (blk_below Kgb0.out hb_)
          replace Kgb1 := Aside0.mk (blk_below Kgb1.out hb_)
          replace HT_0 := Aside0.mk (Kd.C_below HT_0.out hb_)
          replace HT_1 := Aside0.mk (Kd.C_below HT_1.out hb_)
          replace HZw := Aside0.mk (Nat.le_trans HZw.out hb_.size)
          have Rw := Aside0.mk (Kd.R_lower (Kd.R_mono (Kd.R_bound hr_) (fun k_ hk_ => (⟨Nat.le_trans HZp_.out hk_.2.1, hk_.2.2.1⟩ : wz1.heap.size ≤ k_ ∧ k_ < w4.heap.size))) HBp_.out.size)
          clear hr_ hb_ HZp_ HBp_
          refine hK.out _ _ ⟨((blk_cell Kgb0.out 0).trans rfl), ((blk_cell Kgb0.out 1).trans rfl), ((blk_cell Kgb0.out 2).trans rfl), ((blk_cell Kgb0.out 3).trans rfl), ((blk_cell Kgb1.out 0).trans rfl), ((blk_cell Kgb1.out 1).trans rfl), ((blk_cell Kgb1.out 2).trans rfl), ((blk_cell Kgb1.out 3).trans rfl), ((blk_cell Kgb1.out 4).trans rfl), ((blk_cell Kgb1.out 5).trans rfl)⟩ (fun hHeld => ?_)
          clear hK K
          refine norm_ (a' := ?_) ?_ ?_
          rotate_left
          · show Act.put _ (some 32) _ = _
            simp only [Act.put, List.setIfInBounds_toArray, List.set_cons_zero, List.set_cons_succ, i64_w, i32_w]
            rfl
          refine pure_ (i := 5) (N := some 27) (v := ?_) (a' := ?_) #[true, true, true, true, true, true, false, false, false, false, false] rfl rfl (by kernel_rfl) (fun _ _ _ h => h) (Or.inl ⟨by rfl, ?_⟩) ?_ ?_
          rotate_left
          · intro w'
            go_simp
            with_reducible rfl
          rotate_left
          · simp only [Act.put, List.setIfInBounds_toArray, List.set_cons_zero, List.set_cons_succ, i64_w, i32_w]
            rfl
          refine pure_ (i := 6) (N := some 33) (v := ?_) (a' := ?_) #[true, true, true, true, true, true, true, false, false, false, false] rfl rfl (by kernel_rfl) (fun _ _ _ h => h) (Or.inl ⟨by rfl, ?_⟩) ?_ ?_
          rotate_left
          · intro w'
            go_simp
            with_reducible rfl
          rotate_left
          · simp only [Act.put, List.setIfInBounds_toArray, List.set_cons_zero, List.set_cons_succ, i64_w, i32_w]
            rfl
          refine pure_ (i := 7) (N := some 34) (v := ?_) (a' := ?_) #[true, true, true, true, true, true, true, true, false, false, false] rfl rfl (by kernel_rfl) (fun _ _ _ h => h) (Or.inl ⟨by rfl, ?_⟩) ?_ ?_
          rotate_left
          · intro w'
            go_simp
            with_reducible rfl
          rotate_left
          · simp only [Act.put, List.setIfInBounds_toArray, List.set_cons_zero, List.set_cons_succ, i64_w, i32_w]
            rfl
          refine one_ (i := 8) (N := some 6) #[true, true, true, true, true, true, true, true, true, false, false] rfl rfl (by kernel_rfl) (by decide) (fun K hK => ?_)
          refine value_ (w1 := ?_) (v := ?_) (by rfl) rfl ?_ ?_
          rotate_left 2
          · go_simp
            constructor
            · rfl
            · rfl
          replace HB := Aside0.mk (below_alloc HB.out (.cells #[.int .i64 0, .int .i64 0, .int .i64 0, .slice none 0 0] 28))
          replace Kgb0 := Aside0.mk (blk_alloc Kgb0.out (.cells #[.int .i64 0, .int .i64 0, .int .i64 0, .slice none 0 0] 28))
          replace Kgb1 := Aside0.mk (blk_alloc Kgb1.out (.cells #[.int .i64 0, .int .i64 0, .int .i64 0, .slice none 0 0] 28))
          replace HT_0 := Aside0.mk (Kd.C_alloc HT_0.out (.cells #[.int .i64 0, .int .i64 0, .int .i64 0, .slice none 0 0] 28))
          replace HT_1 := Aside0.mk (Kd.C_alloc HT_1.out (.cells #[.int .i64 0, .int .i64 0, .int .i64 0, .slice none 0 0] 28))
          replace Rw := Aside0.mk (Kd.R_mono (Kd.R_bound (Kd.R_alloc Rw.out (.cells #[.int .i64 0, .int .i64 0, .int .i64 0, .slice none 0 0] 28))) (fun k_ hk_ => (⟨hk_.1.1, hk_.2.2.1⟩ : wz1.heap.size ≤ k_ ∧ k_ < (w4.alloc (.cells #[.int .i64 0, .int .i64 0, .int .i64 0, .slice none 0 0] 28)).heap.size)))
          have KA_ := Aside0.mk (blk_new w4 (.cells #[.int .i64 0, .int .i64 0, .int .i64 0, .slice none 0 0] 28 (0, 0)))
          have GA_ := HZw
          replace HZw := Aside0.mk (Nat.le_trans HZw.out (below_alloc (Below.refl _ _) (.cells #[.int .i64 0, .int .i64 0, .int .i64 0, .slice none 0 0] 28)).size)
          refine hK.out _ _ ⟨((blk_cell Kgb0.out 0).trans rfl), ((blk_cell Kgb0.out 1).trans rfl), ((blk_cell Kgb0.out 2).trans rfl), ((blk_cell Kgb0.out 3).trans rfl), ((blk_cell Kgb1.out 0).trans rfl), ((blk_cell Kgb1.out 1).trans rfl), ((blk_cell Kgb1.out 2).trans rfl), ((blk_cell Kgb1.out 3).trans rfl), ((blk_cell Kgb1.out 4).trans rfl), ((blk_cell Kgb1.out 5).trans rfl)⟩ (fun hHeld => ?_)
          clear hK K
          refine norm_ (a' := ?_) ?_ ?_
          rotate_left
          · show Act.put _ (some 6) _ = _
            simp only [Act.put, List.setIfInBounds_toArray, List.set_cons_zero, List.set_cons_succ, i64_w, i32_w]
            rfl
          exact norm_ (by first | (simp only [putAll, Act.put, List.setIfInBounds_toArray, List.set_cons_zero, List.set_cons_succ]; done) | (simp only [putAll, Act.put, List.setIfInBounds_toArray, List.set_cons_zero, List.set_cons_succ]; rfl)) (hCont (.slice At0 x0_3.length ct0, .slice At1 x1_5.length ct1, vw_, w4.heap.size) _ ⟨Rw.out, KA_.out, GA_.out, Kgb0.out, Kgb1.out, HB.out, HZw.out⟩)
        · skip
          refine value_ (w1 := ?_) (v := ?_) (by rfl) rfl ?_ ?_
          rotate_left 2
          · go_simp
            constructor
            · rfl
            · rfl
          replace HB := Aside0.mk (below_alloc HB.out (.cells #[.int .i64 0, .int .i64 0, .int .i64 0, .slice none 0 0] 28))
          replace Kgb0 := Aside0.mk (blk_alloc Kgb0.out (.cells #[.int .i64 0, .int .i64 0, .int .i64 0, .slice none 0 0] 28))
          replace Kgb1 := Aside0.mk (blk_alloc Kgb1.out (.cells #[.int .i64 0, .int .i64 0, .int .i64 0, .slice none 0 0] 28))
          replace HT_0 := Aside0.mk (Kd.C_alloc HT_0.out (.cells #[.int .i64 0, .int .i64 0, .int .i64 0, .slice none 0 0] 28))
          replace HT_1 := Aside0.mk (Kd.C_alloc HT_1.out (.cells #[.int .i64 0, .int .i64 0, .int .i64 0, .slice none 0 0] 28))
          have KA_ := Aside0.mk (blk_new w3 (.cells #[.int .i64 0, .int .i64 0, .int .i64 0, .slice none 0 0] 28 (0, 0)))
          have GA_ := HZw
          replace HZw := Aside0.mk (Nat.le_trans HZw.out (below_alloc (Below.refl _ _) (.cells #[.int .i64 0, .int .i64 0, .int .i64 0, .slice none 0 0] 28)).size)
          refine hK.out _ _ ⟨((blk_cell Kgb0.out 0).trans rfl), ((blk_cell Kgb0.out 1).trans rfl), ((blk_cell Kgb0.out 2).trans rfl), ((blk_cell Kgb0.out 3).trans rfl), ((blk_cell Kgb1.out 0).trans rfl), ((blk_cell Kgb1.out 1).trans rfl), ((blk_cell Kgb1.out 2).trans rfl), ((blk_cell Kgb1.out 3).trans rfl), ((blk_cell Kgb1.out 4).trans rfl), ((blk_cell Kgb1.out 5).trans rfl)⟩ (fun hHeld => ?_)
          clear hK K
          refine norm_ (a' := ?_) ?_ ?_
          rotate_left
          · show Act.put _ (some 6) _ = _
            simp only [Act.put, List.setIfInBounds_toArray, List.set_cons_zero, List.set_cons_succ, i64_w, i32_w]
            rfl
          refine one_ (i := 4) (N := some 32) #[true, true, true, true, true, false, false, false, true, false, false] rfl rfl (by kernel_rfl) (by decide) (fun K hK => ?_)
          refine goes_ Try.func23 (by kernel_rfl) rfl #[.agg #[.int .i64 x0_0, .int .i64 x0_1, .int .i64 x0_2, .slice At0 x0_3.length ct0], .agg #[.int .i64 x1_0, .int .i64 x1_1, .int .i64 x1_2, .int .i64 x1_3, .int .i64 x1_4, .slice At1 x1_5.length ct1]] (by rfl) rfl rfl (by simp only [List.map_toArray, List.map_cons, List.map_nil]; rfl) ?_
          with_reducible refine (spec_DoStep.calls k x0_0 x0_1 x0_2 At0 ct0 x0_3 x1_0 x1_1 x1_2 x1_3 x1_4 At1 ct1 x1_5 v0 v1 v2 v3 vok _ HT_0.out HL_0.out HT_1.out HL_1.out HSP.out).mono ?_
          rintro e w7 ⟨vw_, rfl, hr_, hb_⟩
          refine ⟨_, rfl, ?_⟩
          have HZp_ := HZw
          have HBp_ := HB
          replace HB := Aside0.mk (below_then HB.out HB.out.size hb_)
          replace Kgb0 := Aside0.mk (blk_below Kgb0.out hb_)
          replace Kgb1 := Aside0.mk (blk_below Kgb1.out hb_)
          replace HT_0 := Aside0.mk (Kd.C_below HT_0.out hb_)
          replace HT_1 := Aside0.mk (Kd.C_below HT_1.out hb_)
          replace KA_ := Aside0.mk (blk_below KA_.out hb_)
          replace HZw := Aside0.mk (Nat.le_trans HZw.out hb_.size)
          have Rw := Aside0.mk (Kd.R_lower (Kd.R_mono (Kd.R_bound hr_) (fun k_ hk_ => (⟨Nat.le_trans HZp_.out hk_.2.1, hk_.2.2.1⟩ : wz1.heap.size ≤ k_ ∧ k_ < w7.heap.size))) HBp_.out.size)
          clear hr_ hb_ HZp_ HBp_
          refine hK.out _ _ ⟨((blk_cell Kgb0.out 0).trans rfl), ((blk_cell Kgb0.out 1).trans rfl), ((blk_cell Kgb0.out 2).trans rfl), ((blk_cell Kgb0.out 3).trans rfl), ((blk_cell Kgb1.out 0).trans rfl), ((blk_cell Kgb1.out 1).trans rfl), ((blk_cell Kgb1.out 2).trans rfl), ((blk_cell Kgb1.out 3).trans rfl), ((blk_cell Kgb1.out 4).trans rfl), ((blk_cell Kgb1.out 5).trans rfl)⟩ (fun hHeld => ?_)
          clear hK K
          refine norm_ (a' := ?_) ?_ ?_
          rotate_left
          · show Act.put _ (some 32) _ = _
            simp only [Act.put, List.setIfInBounds_toArray, List.set_cons_zero, List.set_cons_succ, i64_w, i32_w]
            rfl
          refine pure_ (i := 5) (N := some 27) (v := ?_) (a' := ?_) #[true, true, true, true, true, true, false, false, true, false, false] rfl rfl (by kernel_rfl) (fun _ _ _ h => h) (Or.inl ⟨by rfl, ?_⟩) ?_ ?_
          rotate_left
          · intro w'
            go_simp
            with_reducible rfl
          rotate_left
          · simp only [Act.put, List.setIfInBounds_toArray, List.set_cons_zero, List.set_cons_succ, i64_w, i32_w]
            rfl
          refine pure_ (i := 6) (N := some 33) (v := ?_) (a' := ?_) #[true, true, true, true, true, true, true, false, true, false, false] rfl rfl (by kernel_rfl) (fun _ _ _ h => h) (Or.inl ⟨by rfl, ?_⟩) ?_ ?_
          rotate_left
          · intro w'
            go_simp
            with_reducible rfl
          rotate_left
          · simp only [Act.put, List.setIfInBounds_toArray, List.set_cons_zero, List.set_cons_succ, i64_w, i32_w]
            rfl
          refine pure_ (i := 7) (N := some 34) (v := ?_) (a' := ?_) #[true, true, true, true, true, true, true, true, true, false, false] rfl rfl (by kernel_rfl) (fun _ _ _ h => h) (Or.inl ⟨by rfl, ?_⟩) ?_ ?_
          rotate_left
          · intro w'
            go_simp
            with_reducible rfl
          rotate_left
          · simp only [Act.put, List.setIfInBounds_toArray, List.set_cons_zero, List.set_cons_succ, i64_w, i32_w]
            rfl
          exact norm_ (by first | (simp only [putAll, Act.put, List.setIfInBounds_toArray, List.set_cons_zero, List.set_cons_succ]; done) | (simp only [putAll, Act.put, List.setIfInBounds_toArray, List.set_cons_zero, List.set_cons_succ]; rfl)) (hCont (.slice At0 x0_3.length ct0, .slice At1 x1_5.length ct1, vw_, w3.heap.size) _ ⟨Rw.out, KA_.out, GA_.out, Kgb0.out, Kgb1.out, HB.out, HZw.out⟩)
      · skip
        refine value_ (w1 := ?_) (v := ?_) (by rfl) rfl ?_ ?_
        rotate_left 2
        · go_simp
          constructor
          · rfl
          · rfl
        replace HB := Aside0.mk (below_alloc HB.out (.cells #[.int .i64 0, .int .i64 0, .int .i64 0, .slice none 0 0] 28))
        replace Kgb0 := Aside0.mk (blk_alloc Kgb0.out (.cells #[.int .i64 0, .int .i64 0, .int .i64 0, .slice none 0 0] 28))
        replace Kgb1 := Aside0.mk (blk_alloc Kgb1.out (.cells #[.int .i64 0, .int .i64 0, .int .i64 0, .slice none 0 0] 28))
        replace HT_0 := Aside0.mk (Kd.C_alloc HT_0.out (.cells #[.int .i64 0, .int .i64 0, .int .i64 0, .slice none 0 0] 28))
        have KA_ := Aside0.mk (blk_new w2 (.cells #[.int .i64 0, .int .i64 0, .int .i64 0, .slice none 0 0] 28 (0, 0)))
        have GA_ := HZw
        replace HZw := Aside0.mk (Nat.le_trans HZw.out (below_alloc (Below.refl _ _) (.cells #[.int .i64 0, .int .i64 0, .int .i64 0, .slice none 0 0] 28)).size)
        refine hK.out _ _ ⟨((blk_cell Kgb0.out 0).trans rfl), ((blk_cell Kgb0.out 1).trans rfl), ((blk_cell Kgb0.out 2).trans rfl), ((blk_cell Kgb0.out 3).trans rfl), ((blk_cell Kgb1.out 0).trans rfl), ((blk_cell Kgb1.out 1).trans rfl), ((blk_cell Kgb1.out 2).trans rfl), ((blk_cell Kgb1.out 3).trans rfl), ((blk_cell Kgb1.out 4).trans rfl), ((blk_cell Kgb1.out 5).trans rfl)⟩ (fun hHeld => ?_)
        clear hK K
        refine norm_ (a' := ?_) ?_ ?_
        rotate_left
        · show Act.put _ (some 6) _ = _
          simp only [Act.put, List.setIfInBounds_toArray, List.set_cons_zero, List.set_cons_succ, i64_w, i32_w]
          rfl
        refine one_ (i := 3) (N := some 31) #[true, true, true, true, false, false, false, false, true, false, false] rfl rfl (by kernel_rfl) (by decide) (fun K hK => ?_)
        refine goes_ Try.func33 (by kernel_rfl) rfl #[.agg #[.int .i64 a1_0, .int .i64 a1_1, .int .i64 a1_2, .int .i64 a1_3, .int .i64 a1_4, .slice A1_5 l1_5.length c1_5]] (by rfl) rfl rfl (by simp only [List.map_toArray, List.map_cons, List.map_nil]; rfl) ?_
        with_reducible refine (laws_toStep.calls k a1_0 a1_1 a1_2 a1_3 a1_4 A1_5 c1_5 l1_5 x1_0 x1_1 x1_2 x1_3 x1_4 x1_5 _ (Kd.C_below HR1.out HB.out) HC1.out HT1.out).mono ?_
        rintro e w9 ⟨vt_, rfl, hr_, hb_⟩
        refine ⟨_, rfl, ?_⟩
        replace HB := Aside0.mk (below_then HB.out HB.out.size hb_)
        replace Kgb0 := Aside0.mk (blk_below Kgb0.out hb_)
        replace Kgb1 := Aside0.mk (blk_below Kgb1.out hb_)
        replace HT_0 := Aside0.mk (Kd.C_below HT_0.out hb_)
        replace KA_ := Aside0.mk (blk_below KA_.out hb_)
        replace HZw := Aside0.mk (Nat.le_trans HZw.out hb_.size)
        obtain ⟨At1, ct1, rfl, hl_, hC_⟩ := Kd.R_reads hr_
        have HT_1 := Aside0.mk hC_
        have HL_1 := Aside0.mk hl_
        clear hr_ hb_ hl_ hC_
        refine hK.out _ _ ⟨((blk_cell Kgb0.out 0).trans rfl), ((blk_cell Kgb0.out 1).trans rfl), ((blk_cell Kgb0.out 2).trans rfl), ((blk_cell Kgb0.out 3).trans rfl), ((blk_cell Kgb1.out 0).trans rfl), ((blk_cell Kgb1.out 1).trans rfl), ((blk_cell Kgb1.out 2).trans rfl), ((blk_cell Kgb1.out 3).trans rfl), ((blk_cell Kgb1.out 4).trans rfl), ((blk_cell Kgb1.out 5).trans rfl)⟩ (fun hHeld => ?_)
        clear hK K
        refine norm_ (a' := ?_) ?_ ?_
        rotate_left
        · show Act.put _ (some 31) _ = _
          simp only [Act.put, List.setIfInBounds_toArray, List.set_cons_zero, List.set_cons_succ, i64_w, i32_w]
          rfl
        refine one_ (i := 4) (N := some 32) #[true, true, true, true, true, false, false, false, true, false, false] rfl rfl (by kernel_rfl) (by decide) (fun K hK => ?_)
        refine goes_ Try.func23 (by kernel_rfl) rfl #[.agg #[.int .i64 x0_0, .int .i64 x0_1, .int .i64 x0_2, .slice At0 x0_3.length ct0], .agg #[.int .i64 x1_0, .int .i64 x1_1, .int .i64 x1_2, .int .i64 x1_3, .int .i64 x1_4, .slice At1 x1_5.length ct1]] (by rfl) rfl rfl (by simp only [List.map_toArray, List.map_cons, List.map_nil]; rfl) ?_
        with_reducible refine (spec_DoStep.calls k x0_0 x0_1 x0_2 At0 ct0 x0_3 x1_0 x1_1 x1_2 x1_3 x1_4 At1 ct1 x1_5 v0 v1 v2 v3 vok _ HT_0.out HL_0.out HT_1.out HL_1.out HSP.out).mono ?_
        rintro e w10 ⟨vw_, rfl, hr_, hb_⟩
        refine ⟨_, rfl, ?_⟩
        have HZp_ := HZw
        have HBp_ := HB
        replace HB := Aside0.mk (below_then HB.out HB.out.size hb_)
        replace Kgb0 := Aside0.mk (blk_below Kgb0.out hb_)
        replace Kgb1 := Aside0.mk (blk_below Kgb1.out hb_)
        replace HT_0 := Aside0.mk (Kd.C_below HT_0.out hb_)
        replace HT_1 := Aside0.mk (Kd.C_below HT_1.out hb_)
        replace KA_ := Aside0.mk (blk_below KA_.out hb_)
        replace HZw := Aside0.mk (Nat.le_trans HZw.out hb_.size)
        have Rw := Aside0.mk (Kd.R_lower (Kd.R_mono (Kd.R_bound hr_) (fun k_ hk_ => (⟨Nat.le_trans HZp_.out hk_.2.1, hk_.2.2.1⟩ : wz1.heap.size ≤ k_ ∧ k_ < w10.heap.size))) HBp_.out.size)
        clear hr_ hb_ HZp_ HBp_
        refine hK.out _ _ ⟨((blk_cell Kgb0.out 0).trans rfl), ((blk_cell Kgb0.out 1).trans rfl), ((blk_cell Kgb0.out 2).trans rfl), ((blk_cell Kgb0.out 3).trans rfl), ((blk_cell Kgb1.out 0).trans rfl), ((blk_cell Kgb1.out 1).trans rfl), ((blk_cell Kgb1.out 2).trans rfl), ((blk_cell Kgb1.out 3).trans rfl), ((blk_cell Kgb1.out 4).trans rfl), ((blk_cell Kgb1.out 5).trans rfl)⟩ (fun hHeld => ?_)
        clear hK K
        refine norm_ (a' := ?_) ?_ ?_
        rotate_left
        · show Act.put _ (some 32) _ = _
          simp only [Act.put, List.setIfInBounds_toArray, List.set_cons_zero, List.set_cons_succ, i64_w, i32_w]
          rfl
        refine pure_ (i := 5) (N := some 27) (v := ?_) (a' := ?_) #[true, true, true, true, true, true, false, false, true, false, false] rfl rfl (by kernel_rfl) (fun _ _ _ h => h) (Or.inl ⟨by rfl, ?_⟩) ?_ ?_
        rotate_left
        · intro w'
          go_simp
          with_reducible rfl
        rotate_left
        · simp only [Act.put, List.setIfInBounds_toArray, List.set_cons_zero, List.set_cons_succ, i64_w, i32_w]
          rfl
        refine pure_ (i := 6) (N := some 33) (v := ?_) (a' := ?_) #[true, true, true, true, true, true, true, false, true, false, false] rfl rfl (by kernel_rfl) (fun _ _ _ h => h) (Or.inl ⟨by rfl, ?_⟩) ?_ ?_
        rotate_left
        · intro w'
          go_simp
          with_reducible rfl
        rotate_left
        · simp only [Act.put, List.setIfInBounds_toArray, List.set_cons_zero, List.set_cons_succ, i64_w, i32_w]
          rfl
        refine pure_ (i := 7) (N := some 34) (v := ?_) (a' := ?_) #[true, true, true, true, true, true, true, true, true, false, false] rfl rfl (by kernel_rfl) (fun _ _ _ h => h) (Or.inl ⟨by rfl, ?_⟩) ?_ ?_
        rotate_left
        · intro w'
          go_simp
          with_reducible rfl
        rotate_left
        · simp only [Act.put, List.setIfInBounds_toArray, List.set_cons_zero, List.set_cons_succ, i64_w, i32_w]
          rfl
        exact norm_ (by first | (simp only [putAll, Act.put, List.setIfInBounds_toArray, List.set_cons_zero, List.set_cons_succ]; done) | (simp only [putAll, Act.put, List.setIfInBounds_toArray, List.set_cons_zero, List.set_cons_succ]; rfl)) (hCont (.slice At0 x0_3.length ct0, .slice At1 x1_5.length ct1, vw_, w2.heap.size) _ ⟨Rw.out, KA_.out, GA_.out, Kgb0.out, Kgb1.out, HB.out, HZw.out⟩)
    · skip
      refine value_ (w1 := ?_) (v := ?_) (by rfl) rfl ?_ ?_
      rotate_left 2
      · go_simp
        constructor
        · rfl
        · rfl
      replace HB := Aside0.mk (below_alloc HB.out (.cells #[.int .i64 0, .int .i64 0, .int .i64 0, .slice none 0 0] 28))
      replace Kgb0 := Aside0.mk (blk_alloc Kgb0.out (.cells #[.int .i64 0, .int .i64 0, .int .i64 0, .slice none 0 0] 28))
      replace Kgb1 := Aside0.mk (blk_alloc Kgb1.out (.cells #[.int .i64 0, .int .i64 0, .int .i64 0, .slice none 0 0] 28))
      have KA_ := Aside0.mk (blk_new wz1.drew (.cells #[.int .i64 0, .int .i64 0, .int .i64 0, .slice none 0 0] 28 (0, 0)))
      have GA_ := HZw
      replace HZw := Aside0.mk (Nat.le_trans HZw.out (below_alloc (Below.refl _ _) (.cells #[.int .i64 0, .int .i64 0, .int .i64 0, .slice none 0 0] 28)).size)
      refine hK.out _ _ ⟨((blk_cell Kgb0.out 0).trans rfl), ((blk_cell Kgb0.out 1).trans rfl), ((blk_cell Kgb0.out 2).trans rfl), ((blk_cell Kgb0.out 3).trans rfl), ((blk_cell Kgb1.out 0).trans rfl), ((blk_cell Kgb1.out 1).trans rfl), ((blk_cell Kgb1.out 2).trans rfl), ((blk_cell Kgb1.out 3).trans rfl), ((blk_cell Kgb1.out 4).trans rfl), ((blk_cell Kgb1.out 5).trans rfl)⟩ (fun hHeld => ?_)
      clear hK K
      refine norm_ (a' := ?_) ?_ ?_
      rotate_left
      · show Act.put _ (some 6) _ = _
        simp only [Act.put, List.setIfInBounds_toArray, List.set_cons_zero, List.set_cons_succ, i64_w, i32_w]
        rfl
      refine one_ (i := 1) (N := some 29) #[true, true, true, false, false, false, false, false, true, false, false] rfl rfl (by kernel_rfl) (by decide) (fun K hK => ?_)
      refine goes_ Try.func13 (by kernel_rfl) rfl #[.agg #[.int .i64 a0_0, .int .i64 a0_1, .int .i64 a0_2, .slice A0_3 l0_3.length c0_3]] (by rfl) rfl rfl (by simp only [List.map_toArray, List.map_cons, List.map_nil]; rfl) ?_
      refine (laws_toImage.calls k a0_0 a0_1 a0_2 A0_3 c0_3 l0_3 x0_0 x0_1 x0_2 x0_3 _ (Kd.C_below HR0.out HB.out) HC0.out HT0.out).mono ?_
      rintro e w12 ⟨vt_, rfl, hr_, hb_⟩
      refine ⟨_, rfl, ?_⟩
      replace HB := Aside0.mk (below_then HB.out HB.out.size hb_)
      replace Kgb0 := Aside0.mk (blk_below Kgb0.out hb_)
      replace Kgb1 := Aside0.mk (blk_below Kgb1.out hb_)
      replace KA_ := Aside0.mk (blk_below KA_.out hb_)
      replace HZw := Aside0.mk (Nat.le_trans HZw.out hb_.size)
      obtain ⟨At0, ct0, rfl, hl_, hC_⟩ := Kd.R_reads hr_
      have HT_0 := Aside0.mk hC_
      have HL_0 := Aside0.mk hl_
      clear hr_ hb_ hl_ hC_
      refine hK.out _ _ ⟨((blk_cell Kgb0.out 0).trans rfl), ((blk_cell Kgb0.out 1).trans rfl), ((blk_cell Kgb0.out 2).trans rfl), ((blk_cell Kgb0.out 3).trans rfl), ((blk_cell Kgb1.out 0).trans rfl), ((blk_cell Kgb1.out 1).trans rfl), ((blk_cell Kgb1.out 2).trans rfl), ((blk_cell Kgb1.out 3).trans rfl), ((blk_cell Kgb1.out 4).trans rfl), ((blk_cell Kgb1.out 5).trans rfl)⟩ (fun hHeld => ?_)
      clear hK K
      refine norm_ (a' := ?_) ?_ ?_
      rotate_left
      · show Act.put _ (some 29) _ = _
        simp only [Act.put, List.setIfInBounds_toArray, List.set_cons_zero, List.set_cons_succ, i64_w, i32_w]
        rfl
      refine one_ (i := 3) (N := some 31) #[true, true, true, true, false, false, false, false, true, false, false] rfl rfl (by kernel_rfl) (by decide) (fun K hK => ?_)
      refine goes_ Try.func33 (by kernel_rfl) rfl #[.agg #[.int .i64 a1_0, .int .i64 a1_1, .int .i64 a1_2, .int .i64 a1_3, .int .i64 a1_4, .slice A1_5 l1_5.length c1_5]] (by rfl) rfl rfl (by simp only [List.map_toArray, List.map_cons, List.map_nil]; rfl) ?_
      with_reducible refine (laws_toStep.calls k a1_0 a1_1 a1_2 a1_3 a1_4 A1_5 c1_5 l1_5 x1_0 x1_1 x1_2 x1_3 x1_4 x1_5 _ (Kd.C_below HR1.out HB.out) HC1.out HT1.out).mono ?_
      rintro e w13 ⟨vt_, rfl, hr_, hb_⟩
      refine ⟨_, rfl, ?_⟩
      replace HB := Aside0.mk (below_then HB.out HB.out.size hb_)
      replace Kgb0 := Aside0.mk (blk_below Kgb0.out hb_)
      replace Kgb1 := Aside0.mk (blk_below Kgb1.out hb_)
      replace HT_0 := Aside0.mk (Kd.C_below HT_0.out hb_)
      replace KA_ := Aside0.mk (blk_below KA_.out hb_)
      replace HZw := Aside0.mk (Nat.le_trans HZw.out hb_.size)
      obtain ⟨At1, ct1, rfl, hl_, hC_⟩ := Kd.R_reads hr_
      have HT_1 := Aside0.mk hC_
      have HL_1 := Aside0.mk hl_
      clear hr_ hb_ hl_ hC_
      refine hK.out _ _ ⟨((blk_cell Kgb0.out 0).trans rfl), ((blk_cell Kgb0.out 1).trans rfl), ((blk_cell Kgb0.out 2).trans rfl), ((blk_cell Kgb0.out 3).trans rfl), ((blk_cell Kgb1.out 0).trans rfl), ((blk_cell Kgb1.out 1).trans rfl), ((blk_cell Kgb1.out 2).trans rfl), ((blk_cell Kgb1.out 3).trans rfl), ((blk_cell Kgb1.out 4).trans rfl), ((blk_cell Kgb1.out 5).trans rfl)⟩ (fun hHeld => ?_)
      clear hK K
      refine norm_ (a' := ?_) ?_ ?_
      rotate_left
      · show Act.put _ (some 31) _ = _
        simp only [Act.put, List.setIfInBounds_toArray, List.set_cons_zero, List.set_cons_succ, i64_w, i32_w]
        rfl
      refine one_ (i := 4) (N := some 32) #[true, true, true, true, true, false, false, false, true, false, false] rfl rfl (by kernel_rfl) (by decide) (fun K hK => ?_)
      refine goes_ Try.func23 (by kernel_rfl) rfl #[.agg #[.int .i64 x0_0, .int .i64 x0_1, .int .i64 x0_2, .slice At0 x0_3.length ct0], .agg #[.int .i64 x1_0, .int .i64 x1_1, .int .i64 x1_2, .int .i64 x1_3, .int .i64 x1_4, .slice At1 x1_5.length ct1]] (by rfl) rfl rfl (by simp only [List.map_toArray, List.map_cons, List.map_nil]; rfl) ?_
      with_reducible refine (spec_DoStep.calls k x0_0 x0_1 x0_2 At0 ct0 x0_3 x1_0 x1_1 x1_2 x1_3 x1_4 At1 ct1 x1_5 v0 v1 v2 v3 vok _ HT_0.out HL_0.out HT_1.out HL_1.out HSP.out).mono ?_
      rintro e w14 ⟨vw_, rfl, hr_, hb_⟩
      refine ⟨_, rfl, ?_⟩
      have HZp_ := HZw
      have HBp_ := HB
      replace HB := Aside0.mk (below_then HB.out HB.out.size hb_)
      replace Kgb0 := Aside0.mk (blk_below Kgb0.out hb_)
      replace Kgb1 := Aside0.mk (blk_below Kgb1.out hb_)
      replace HT_0 := Aside0.mk (Kd.C_below HT_0.out hb_)
      replace HT_1 := Aside0.mk (Kd.C_below HT_1.out hb_)
      replace KA_ := Aside0.mk (blk_below KA_.out hb_)
      replace HZw := Aside0.mk (Nat.le_trans HZw.out hb_.size)
      have Rw := Aside0.mk (Kd.R_lower (Kd.R_mono (Kd.R_bound hr_) (fun k_ hk_ => (⟨Nat.le_trans HZp_.out hk_.2.1, hk_.2.2.1⟩ : wz1.heap.size ≤ k_ ∧ k_ < w14.heap.size))) HBp_.out.size)
      clear hr_ hb_ HZp_ HBp_
      refine hK.out _ _ ⟨((blk_cell Kgb0.out 0).trans rfl), ((blk_cell Kgb0.out 1).trans rfl), ((blk_cell Kgb0.out 2).trans rfl), ((blk_cell Kgb0.out 3).trans rfl), ((blk_cell Kgb1.out 0).trans rfl), ((blk_cell Kgb1.out 1).trans rfl), ((blk_cell Kgb1.out 2).trans rfl), ((blk_cell Kgb1.out 3).trans rfl), ((blk_cell Kgb1.out 4).trans rfl), ((blk_cell Kgb1.out 5).trans rfl)⟩ (fun hHeld => ?_)
      clear hK K
      refine norm_ (a' := ?_) ?_ ?_
      rotate_left
      · show Act.put _ (some 32) _ = _
        simp only [Act.put, List.setIfInBounds_toArray, List.set_cons_zero, List.set_cons_succ, i64_w, i32_w]
        rfl
      refine pure_ (i := 5) (N := some 27) (v := ?_) (a' := ?_) #[true, true, true, true, true, true, false, false, true, false, false] rfl rfl (by kernel_rfl) (fun _ _ _ h => h) (Or.inl ⟨by rfl, ?_⟩) ?_ ?_
      rotate_left
      · intro w'
        go_simp
        with_reducible rfl
      rotate_left
      · simp only [Act.put, List.setIfInBounds_toArray, List.set_cons_zero, List.set_cons_succ, i64_w, i32_w]
        rfl
      refine pure_ (i := 6) (N := some 33) (v := ?_) (a' := ?_) #[true, true, true, true, true, true, true, false, true, false, false] rfl rfl (by kernel_rfl) (fun _ _ _ h => h) (Or.inl ⟨by rfl, ?_⟩) ?_ ?_
      rotate_left
      · intro w'
        go_simp
        with_reducible rfl
      rotate_left
      · simp only [Act.put, List.setIfInBounds_toArray, List.set_cons_zero, List.set_cons_succ, i64_w, i32_w]
        rfl
      refine pure_ (i := 7) (N := some 34) (v := ?_) (a' := ?_) #[true, true, true, true, true, true, true, true, true, false, false] rfl rfl (by kernel_rfl) (fun _ _ _ h => h) (Or.inl ⟨by rfl, ?_⟩) ?_ ?_
      rotate_left
      · intro w'
        go_simp
        with_reducible rfl
      rotate_left
      · simp only [Act.put, List.setIfInBounds_toArray, List.set_cons_zero, List.set_cons_succ, i64_w, i32_w]
        rfl
      exact norm_ (by first | (simp only [putAll, Act.put, List.setIfInBounds_toArray, List.set_cons_zero, List.set_cons_succ]; done) | (simp only [putAll, Act.put, List.setIfInBounds_toArray, List.set_cons_zero, List.set_cons_succ]; rfl)) (hCont (.slice At0 x0_3.length ct0, .slice At1 x1_5.length ct1, vw_, wz1.drew.heap.size) _ ⟨Rw.out, KA_.out, GA_.out, Kgb0.out, Kgb1.out, HB.out, HZw.out⟩)
  rintro ⟨vt0_w, vt1_w, vvw, gw⟩ w1 ⟨hR_, hA_, hg_, hk_0, hk_1, hB_, hZ_⟩
  dsimp only at hR_ hA_ hg_
  obtain ⟨Aw, cw, ev_⟩ := Kd.R_slice hR_
  subst ev_
  have Rw := Aside0.mk hR_
  have Kgw := Aside0.mk hA_
  have Zgw := Aside0.mk hg_
  have HB := Aside0.mk hB_
  have HZw := Aside0.mk hZ_
  have Kgb0 := Aside0.mk hk_0
  have Kgb1 := Aside0.mk hk_1
  clear hR_ hA_ hg_ hB_ hZ_ hk_0 hk_1
  have hHeld : w1.cell? ⟨gb0, 0, none⟩ = some (.int .i64 a0_0) ∧ w1.cell? ⟨gb0, 1, none⟩ = some (.int .i64 a0_1) ∧ w1.cell? ⟨gb0, 2, none⟩ = some (.int .i64 a0_2) ∧ w1.cell? ⟨gb0, 3, none⟩ = some (.slice A0_3 l0_3.length c0_3) ∧ w1.cell? ⟨gb1, 0, none⟩ = some (.int .i64 a1_0) ∧ w1.cell? ⟨gb1, 1, none⟩ = some (.int .i64 a1_1) ∧ w1.cell? ⟨gb1, 2, none⟩ = some (.int .i64 a1_2) ∧ w1.cell? ⟨gb1, 3, none⟩ = some (.int .i64 a1_3) ∧ w1.cell? ⟨gb1, 4, none⟩ = some (.int .i64 a1_4) ∧ w1.cell? ⟨gb1, 5, none⟩ = some (.slice A1_5 l1_5.length c1_5) := ⟨((blk_cell Kgb0.out 0).trans rfl), ((blk_cell Kgb0.out 1).trans rfl), ((blk_cell Kgb0.out 2).trans rfl), ((blk_cell Kgb0.out 3).trans rfl), ((blk_cell Kgb1.out 0).trans rfl), ((blk_cell Kgb1.out 1).trans rfl), ((blk_cell Kgb1.out 2).trans rfl), ((blk_cell Kgb1.out 3).trans rfl), ((blk_cell Kgb1.out 4).trans rfl), ((blk_cell Kgb1.out 5).trans rfl)⟩
  refine norm_ (a' := ?_) ?_ ?_
  rotate_left
  · simp only [putAll, Act.put, List.setIfInBounds_toArray, List.set_cons_zero, List.set_cons_succ]
    rfl
  refine one_ (i := 9) (N := none) #[true, true, true, true, true, true, true, true, true, true, false] rfl rfl (by kernel_rfl) (by decide) (fun K hK => ?_)
  have qgw0 := blk_frozen Kgw.out 0
  have qgw1 := blk_frozen Kgw.out 1
  have qgw2 := blk_frozen Kgw.out 2
  have qgw3 := blk_frozen Kgw.out 3
  have cgw0 := (blk_cell Kgw.out 0).trans rfl
  have cgw1 := (blk_cell Kgw.out 1).trans rfl
  have cgw2 := (blk_cell Kgw.out 2).trans rfl
  have cgw3 := (blk_cell Kgw.out 3).trans rfl
  refine skip_ (w1 := ?_) (by rfl) rfl ?_ ?_
  rotate_left
  · go_simp
    rfl
  clear qgw0 cgw0 qgw1 cgw1 qgw2 cgw2 qgw3 cgw3
  have Kgb0_ := Aside0.mk (blk_far (p := ⟨gw, 3, none⟩) (blk_far (p := ⟨gw, 2, none⟩) (blk_far (p := ⟨gw, 1, none⟩) (blk_far (p := ⟨gw, 0, none⟩) Kgb0.out (show gb0 ≠ gw by have := Zgw.out; have := QKgb0.out; omega) (.int .i64 v0)) (show gb0 ≠ gw by have := Zgw.out; have := QKgb0.out; omega) (.int .i64 v1)) (show gb0 ≠ gw by have := Zgw.out; have := QKgb0.out; omega) (.int .i64 v2)) (show gb0 ≠ gw by have := Zgw.out; have := QKgb0.out; omega) (.slice Aw v3.length cw))
  have Kgb1_ := Aside0.mk (blk_far (p := ⟨gw, 3, none⟩) (blk_far (p := ⟨gw, 2, none⟩) (blk_far (p := ⟨gw, 1, none⟩) (blk_far (p := ⟨gw, 0, none⟩) Kgb1.out (show gb1 ≠ gw by have := Zgw.out; have := QKgb1.out; omega) (.int .i64 v0)) (show gb1 ≠ gw by have := Zgw.out; have := QKgb1.out; omega) (.int .i64 v1)) (show gb1 ≠ gw by have := Zgw.out; have := QKgb1.out; omega) (.int .i64 v2)) (show gb1 ≠ gw by have := Zgw.out; have := QKgb1.out; omega) (.slice Aw v3.length cw))
  refine hK.out _ _ ⟨((blk_cell Kgb0_.out 0).trans rfl), ((blk_cell Kgb0_.out 1).trans rfl), ((blk_cell Kgb0_.out 2).trans rfl), ((blk_cell Kgb0_.out 3).trans rfl), ((blk_cell Kgb1_.out 0).trans rfl), ((blk_cell Kgb1_.out 1).trans rfl), ((blk_cell Kgb1_.out 2).trans rfl), ((blk_cell Kgb1_.out 3).trans rfl), ((blk_cell Kgb1_.out 4).trans rfl), ((blk_cell Kgb1_.out 5).trans rfl)⟩ (fun hHeld => ?_)
  clear hK K
  refine pure_ (i := 10) (N := some 7) (v := ?_) (a' := ?_) #[true, true, true, true, true, true, true, true, true, true, true] rfl rfl (by kernel_rfl) (fun _ _ _ h => h) (Or.inl ⟨by rfl, ?_⟩) ?_ ?_
  rotate_left
  · intro w'
    go_simp
    with_reducible rfl
  rotate_left
  · simp only [Act.put, List.setIfInBounds_toArray, List.set_cons_zero, List.set_cons_succ, i64_w, i32_w]
    rfl
  refine done_ (by kernel_rfl) ?_
  obtain ⟨w15, hw15⟩ : ∃ W, W = ((((w1.setCell ⟨gw, 0, none⟩ (.int .i64 v0)).setCell ⟨gw, 1, none⟩ (.int .i64 v1)).setCell ⟨gw, 2, none⟩ (.int .i64 v2)).setCell ⟨gw, 3, none⟩ (.slice Aw v3.length cw)) := ⟨_, rfl⟩
  rw [← hw15]
  have HGgw := Aside0.mk (Nat.le_trans HB.out.size (Nat.le_refl _))
  replace HB := Aside0.mk (show Below w.heap.size w w15 from by rw [hw15]; exact (below_set (below_set (below_set (below_set HB.out (Nat.le_trans HBSw.out Zgw.out)) (Nat.le_trans HBSw.out Zgw.out)) (Nat.le_trans HBSw.out Zgw.out)) (Nat.le_trans HBSw.out Zgw.out)))
  have NZw := Aside0.mk (show wz1.heap.size ≤ w15.heap.size from by rw [hw15]; exact Nat.le_trans HZw.out (by simp [World.setCell]))
  have ZLgw := Aside0.mk (show gw < w15.heap.size from by rw [hw15]; exact Nat.lt_of_lt_of_le (blk_lt Kgw.out) (by simp [World.setCell]))
  replace Rw := Aside0.mk (show Kd.R (Kd.int .i64) 3 w15 w.heap.size (fun k_ => wz1.heap.size ≤ k_ ∧ k_ < w15.heap.size) (.slice Aw v3.length cw) v3 from by rw [hw15]; exact Kd.R_mono (Kd.R_far (Kd.R_far (Kd.R_far (Kd.R_far (Kd.R_types Rw.out Kgw.out (by decide)) (fun k hk => hk.2) _) (fun k hk => hk.2) _) (fun k hk => hk.2) _) (fun k hk => hk.2) _) (fun k hk => ⟨hk.1.1, Nat.lt_of_lt_of_le hk.1.2 (by simp [World.setCell])⟩))
  replace Kgb0 := Aside0.mk (show w15.heap[gb0]? = some (.cells #[.int .i64 a0_0, .int .i64 a0_1, .int .i64 a0_2, .slice A0_3 l0_3.length c0_3] 24 (0, 0)) from by rw [hw15]; exact Kgb0_.out)
  replace Kgb1 := Aside0.mk (show w15.heap[gb1]? = some (.cells #[.int .i64 a1_0, .int .i64 a1_1, .int .i64 a1_2, .int .i64 a1_3, .int .i64 a1_4, .slice A1_5 l1_5.length c1_5] 57 (0, 0)) from by rw [hw15]; exact Kgb1_.out)
  replace Kgw := Aside0.mk (show w15.heap[gw]? = some (.cells #[.int .i64 v0, .int .i64 v1, .int .i64 v2, .slice Aw v3.length cw] 28 (0, 0)) from by rw [hw15]; refine blk_put (cs := #[.int .i64 v0, .int .i64 v1, .int .i64 v2, .slice none 0 0]) ?_ 3 _ rfl; refine blk_put (cs := #[.int .i64 v0, .int .i64 v1, .int .i64 0, .slice none 0 0]) ?_ 2 _ rfl; refine blk_put (cs := #[.int .i64 v0, .int .i64 0, .int .i64 0, .slice none 0 0]) ?_ 1 _ rfl; refine blk_put (cs := #[.int .i64 0, .int .i64 0, .int .i64 0, .slice none 0 0]) ?_ 0 _ rfl; exact Kgw.out)
  clear hw15
  have cgb0w15_0 : w15.cell? ⟨gb0, 0, none⟩ = some (.int .i64 a0_0) := (blk_cell Kgb0.out 0).trans rfl; have cgb0w15_1 : w15.cell? ⟨gb0, 1, none⟩ = some (.int .i64 a0_1) := (blk_cell Kgb0.out 1).trans rfl; have cgb0w15_2 : w15.cell? ⟨gb0, 2, none⟩ = some (.int .i64 a0_2) := (blk_cell Kgb0.out 2).trans rfl; have cgb0w15_3 : w15.cell? ⟨gb0, 3, none⟩ = some (.slice A0_3 l0_3.length c0_3) := (blk_cell Kgb0.out 3).trans rfl
  go_upto_region 10 with (first
    | (go_at_call 13; (with_reducible refine (laws_toImage.calls k a0_0 a0_1 a0_2 A0_3 c0_3 l0_3 x0_0 x0_1 x0_2 x0_3 w15 (Kd.C_below HR0.out HB.out) HC0.out HT0.out).mono ?_); rintro e w16 ⟨v_, rfl, hr, hb⟩; obtain ⟨Ax0, cx0, ev_⟩ := Kd.R_slice hr; subst ev_; have Rx0 := Aside0.mk (Kd.R_lower (Kd.R_mono (Kd.R_bound hr) (fun k_ hk_ => (⟨hk_.2.1, hk_.2.2.1⟩ : w15.heap.size ≤ k_ ∧ k_ < w16.heap.size))) HB.out.size); replace HB := Aside0.mk (below_then HB.out HB.out.size hb); replace Kgb0 := Aside0.mk (blk_below Kgb0.out hb); replace Kgb1 := Aside0.mk (blk_below Kgb1.out hb); replace Kgw := Aside0.mk (blk_below Kgw.out hb); replace Rw := Aside0.mk (Kd.R_below Rw.out hb); have Zw16 := Aside0.mk hb.size; clear hr hb))
  try clear cgb0w15_0 cgb0w15_1 cgb0w15_2 cgb0w15_3
  obtain ⟨w17, hw17⟩ : ∃ W, W = w16.alloc (.cells #[.int .i64 x0_0, .int .i64 x0_1, .int .i64 x0_2, .slice Ax0 x0_3.length cx0] 28) := ⟨_, rfl⟩
  obtain ⟨gx0, hgx0⟩ : ∃ g, g = w16.heap.size := ⟨_, rfl⟩
  rw [← hw17, ← hgx0]
  have Kgx0 := Aside0.mk (show w17.heap[gx0]? = some (.cells #[.int .i64 x0_0, .int .i64 x0_1, .int .i64 x0_2, .slice Ax0 x0_3.length cx0] 28 (0, 0)) from by rw [hw17, hgx0]; exact blk_new _ _)
  replace HB := Aside0.mk (show Below w.heap.size w w17 from by rw [hw17]; exact below_alloc HB.out _)
  replace Kgb0 := Aside0.mk (show w17.heap[gb0]? = some (.cells #[.int .i64 a0_0, .int .i64 a0_1, .int .i64 a0_2, .slice A0_3 l0_3.length c0_3] 24 (0, 0)) from by rw [hw17]; exact blk_alloc Kgb0.out _)
  replace Kgb1 := Aside0.mk (show w17.heap[gb1]? = some (.cells #[.int .i64 a1_0, .int .i64 a1_1, .int .i64 a1_2, .int .i64 a1_3, .int .i64 a1_4, .slice A1_5 l1_5.length c1_5] 57 (0, 0)) from by rw [hw17]; exact blk_alloc Kgb1.out _)
  replace Kgw := Aside0.mk (show w17.heap[gw]? = some (.cells #[.int .i64 v0, .int .i64 v1, .int .i64 v2, .slice Aw v3.length cw] 28 (0, 0)) from by rw [hw17]; exact blk_alloc Kgw.out _)
  replace Rw := Aside0.mk (show Kd.R (Kd.int .i64) 3 w17 w.heap.size (fun k_ => wz1.heap.size ≤ k_ ∧ k_ < w15.heap.size) (.slice Aw v3.length cw) v3 from by rw [hw17]; exact Kd.R_alloc Rw.out _)
  replace Rx0 := Aside0.mk (show Kd.R (Kd.int .i64) 3 w17 w.heap.size (fun k_ => w15.heap.size ≤ k_ ∧ k_ < w16.heap.size) (.slice Ax0 x0_3.length cx0) x0_3 from by rw [hw17]; exact Kd.R_alloc Rx0.out _)
  have Zw17 := Aside0.mk (show w16.heap.size < w17.heap.size from by rw [hw17]; simp [World.size_alloc])
  have Zgx0 := Aside0.mk (show w16.heap.size ≤ gx0 from Nat.le_of_eq hgx0.symm)
  have ZLgx0 := Aside0.mk (blk_lt Kgx0.out)
  clear hw17 hgx0
  have cgb1w17_0 : w17.cell? ⟨gb1, 0, none⟩ = some (.int .i64 a1_0) := (blk_cell Kgb1.out 0).trans rfl; have cgb1w17_1 : w17.cell? ⟨gb1, 1, none⟩ = some (.int .i64 a1_1) := (blk_cell Kgb1.out 1).trans rfl; have cgb1w17_2 : w17.cell? ⟨gb1, 2, none⟩ = some (.int .i64 a1_2) := (blk_cell Kgb1.out 2).trans rfl; have cgb1w17_3 : w17.cell? ⟨gb1, 3, none⟩ = some (.int .i64 a1_3) := (blk_cell Kgb1.out 3).trans rfl; have cgb1w17_4 : w17.cell? ⟨gb1, 4, none⟩ = some (.int .i64 a1_4) := (blk_cell Kgb1.out 4).trans rfl; have cgb1w17_5 : w17.cell? ⟨gb1, 5, none⟩ = some (.slice A1_5 l1_5.length c1_5) := (blk_cell Kgb1.out 5).trans rfl
  go_upto_region 11 with (first
    | (go_at_call 33; (with_reducible refine (laws_toStep.calls k a1_0 a1_1 a1_2 a1_3 a1_4 A1_5 c1_5 l1_5 x1_0 x1_1 x1_2 x1_3 x1_4 x1_5 w17 (Kd.C_below HR1.out HB.out) HC1.out HT1.out).mono ?_); rintro e w18 ⟨v_, rfl, hr, hb⟩; obtain ⟨Ax1, cx1, ev_⟩ := Kd.R_slice hr; subst ev_; have Rx1 := Aside0.mk (Kd.R_lower (Kd.R_mono (Kd.R_bound hr) (fun k_ hk_ => (⟨hk_.2.1, hk_.2.2.1⟩ : w17.heap.size ≤ k_ ∧ k_ < w18.heap.size))) HB.out.size); replace HB := Aside0.mk (below_then HB.out HB.out.size hb); replace Kgb0 := Aside0.mk (blk_below Kgb0.out hb); replace Kgb1 := Aside0.mk (blk_below Kgb1.out hb); replace Kgw := Aside0.mk (blk_below Kgw.out hb); replace Kgx0 := Aside0.mk (blk_below Kgx0.out hb); replace Rw := Aside0.mk (Kd.R_below Rw.out hb); replace Rx0 := Aside0.mk (Kd.R_below Rx0.out hb); have Zw18 := Aside0.mk hb.size; clear hr hb))
  try clear cgb1w17_0 cgb1w17_1 cgb1w17_2 cgb1w17_3 cgb1w17_4 cgb1w17_5
  obtain ⟨w19, hw19⟩ : ∃ W, W = w18.alloc (.cells #[.int .i64 x1_0, .int .i64 x1_1, .int .i64 x1_2, .int .i64 x1_3, .int .i64 x1_4, .slice Ax1 x1_5.length cx1] 43) := ⟨_, rfl⟩
  obtain ⟨gx1, hgx1⟩ : ∃ g, g = w18.heap.size := ⟨_, rfl⟩
  rw [← hw19, ← hgx1]
  have Kgx1 := Aside0.mk (show w19.heap[gx1]? = some (.cells #[.int .i64 x1_0, .int .i64 x1_1, .int .i64 x1_2, .int .i64 x1_3, .int .i64 x1_4, .slice Ax1 x1_5.length cx1] 43 (0, 0)) from by rw [hw19, hgx1]; exact blk_new _ _)
  replace HB := Aside0.mk (show Below w.heap.size w w19 from by rw [hw19]; exact below_alloc HB.out _)
  replace Kgb0 := Aside0.mk (show w19.heap[gb0]? = some (.cells #[.int .i64 a0_0, .int .i64 a0_1, .int .i64 a0_2, .slice A0_3 l0_3.length c0_3] 24 (0, 0)) from by rw [hw19]; exact blk_alloc Kgb0.out _)
  replace Kgb1 := Aside0.mk (show w19.heap[gb1]? = some (.cells #[.int .i64 a1_0, .int .i64 a1_1, .int .i64 a1_2, .int .i64 a1_3, .int .i64 a1_4, .slice A1_5 l1_5.length c1_5] 57 (0, 0)) from by rw [hw19]; exact blk_alloc Kgb1.out _)
  replace Kgw := Aside0.mk (show w19.heap[gw]? = some (.cells #[.int .i64 v0, .int .i64 v1, .int .i64 v2, .slice Aw v3.length cw] 28 (0, 0)) from by rw [hw19]; exact blk_alloc Kgw.out _)
  replace Kgx0 := Aside0.mk (show w19.heap[gx0]? = some (.cells #[.int .i64 x0_0, .int .i64 x0_1, .int .i64 x0_2, .slice Ax0 x0_3.length cx0] 28 (0, 0)) from by rw [hw19]; exact blk_alloc Kgx0.out _)
  replace Rw := Aside0.mk (show Kd.R (Kd.int .i64) 3 w19 w.heap.size (fun k_ => wz1.heap.size ≤ k_ ∧ k_ < w15.heap.size) (.slice Aw v3.length cw) v3 from by rw [hw19]; exact Kd.R_alloc Rw.out _)
  replace Rx0 := Aside0.mk (show Kd.R (Kd.int .i64) 3 w19 w.heap.size (fun k_ => w15.heap.size ≤ k_ ∧ k_ < w16.heap.size) (.slice Ax0 x0_3.length cx0) x0_3 from by rw [hw19]; exact Kd.R_alloc Rx0.out _)
  replace Rx1 := Aside0.mk (show Kd.R (Kd.int .i64) 3 w19 w.heap.size (fun k_ => w17.heap.size ≤ k_ ∧ k_ < w18.heap.size) (.slice Ax1 x1_5.length cx1) x1_5 from by rw [hw19]; exact Kd.R_alloc Rx1.out _)
  have Zw19 := Aside0.mk (show w18.heap.size < w19.heap.size from by rw [hw19]; simp [World.size_alloc])
  have Zgx1 := Aside0.mk (show w18.heap.size ≤ gx1 from Nat.le_of_eq hgx1.symm)
  have ZLgx1 := Aside0.mk (blk_lt Kgx1.out)
  clear hw19 hgx1
  have cgx0w19_0 : w19.cell? ⟨gx0, 0, none⟩ = some (.int .i64 x0_0) := (blk_cell Kgx0.out 0).trans rfl; have cgx0w19_1 : w19.cell? ⟨gx0, 1, none⟩ = some (.int .i64 x0_1) := (blk_cell Kgx0.out 1).trans rfl; have cgx0w19_2 : w19.cell? ⟨gx0, 2, none⟩ = some (.int .i64 x0_2) := (blk_cell Kgx0.out 2).trans rfl; have cgx0w19_3 : w19.cell? ⟨gx0, 3, none⟩ = some (.slice Ax0 x0_3.length cx0) := (blk_cell Kgx0.out 3).trans rfl
  have cgx1w19_0 : w19.cell? ⟨gx1, 0, none⟩ = some (.int .i64 x1_0) := (blk_cell Kgx1.out 0).trans rfl; have cgx1w19_1 : w19.cell? ⟨gx1, 1, none⟩ = some (.int .i64 x1_1) := (blk_cell Kgx1.out 1).trans rfl; have cgx1w19_2 : w19.cell? ⟨gx1, 2, none⟩ = some (.int .i64 x1_2) := (blk_cell Kgx1.out 2).trans rfl; have cgx1w19_3 : w19.cell? ⟨gx1, 3, none⟩ = some (.int .i64 x1_3) := (blk_cell Kgx1.out 3).trans rfl; have cgx1w19_4 : w19.cell? ⟨gx1, 4, none⟩ = some (.int .i64 x1_4) := (blk_cell Kgx1.out 4).trans rfl; have cgx1w19_5 : w19.cell? ⟨gx1, 5, none⟩ = some (.slice Ax1 x1_5.length cx1) := (blk_cell Kgx1.out 5).trans rfl
  go_upto_region 12 with (first
    | (go_at_call 22; (with_reducible refine (impl_DoStep.calls x0_0 x0_1 x0_2 Ax0 cx0 x0_3 x1_0 x1_1 x1_2 x1_3 x1_4 Ax1 cx1 x1_5 v0 v1 v2 v3 vok w19 (Kd.R_reads' Rx0.out).2.2 (Kd.R_reads' Rx0.out).2.1 (Kd.R_reads' Rx1.out).2.2 (Kd.R_reads' Rx1.out).2.1 HIM.out).mono ?_); rintro e w20 ⟨v_, rfl, hr, hb⟩; obtain ⟨Ag, cg, ev_⟩ := Kd.R_slice hr; subst ev_; have Rg := Aside0.mk (Kd.R_lower (Kd.R_mono (Kd.R_bound hr) (fun k_ hk_ => (⟨hk_.2.1, hk_.2.2.1⟩ : w19.heap.size ≤ k_ ∧ k_ < w20.heap.size))) HB.out.size); replace HB := Aside0.mk (below_then HB.out HB.out.size hb); replace Kgb0 := Aside0.mk (blk_below Kgb0.out hb); replace Kgb1 := Aside0.mk (blk_below Kgb1.out hb); replace Kgw := Aside0.mk (blk_below Kgw.out hb); replace Kgx0 := Aside0.mk (blk_below Kgx0.out hb); replace Kgx1 := Aside0.mk (blk_below Kgx1.out hb); replace Rw := Aside0.mk (Kd.R_below Rw.out hb); replace Rx0 := Aside0.mk (Kd.R_below Rx0.out hb); replace Rx1 := Aside0.mk (Kd.R_below Rx1.out hb); have Zw20 := Aside0.mk hb.size; clear hr hb))
  try clear cgx0w19_0 cgx0w19_1 cgx0w19_2 cgx0w19_3 cgx1w19_0 cgx1w19_1 cgx1w19_2 cgx1w19_3 cgx1w19_4 cgx1w19_5
  obtain ⟨w21, hw21⟩ : ∃ W, W = w20.alloc (.cells #[.int .i64 v0, .int .i64 v1, .int .i64 v2, .slice Ag v3.length cg] 28) := ⟨_, rfl⟩
  obtain ⟨gg, hgg⟩ : ∃ g, g = w20.heap.size := ⟨_, rfl⟩
  rw [← hw21, ← hgg]
  have Kgg := Aside0.mk (show w21.heap[gg]? = some (.cells #[.int .i64 v0, .int .i64 v1, .int .i64 v2, .slice Ag v3.length cg] 28 (0, 0)) from by rw [hw21, hgg]; exact blk_new _ _)
  replace HB := Aside0.mk (show Below w.heap.size w w21 from by rw [hw21]; exact below_alloc HB.out _)
  replace Kgb0 := Aside0.mk (show w21.heap[gb0]? = some (.cells #[.int .i64 a0_0, .int .i64 a0_1, .int .i64 a0_2, .slice A0_3 l0_3.length c0_3] 24 (0, 0)) from by rw [hw21]; exact blk_alloc Kgb0.out _)
  replace Kgb1 := Aside0.mk (show w21.heap[gb1]? = some (.cells #[.int .i64 a1_0, .int .i64 a1_1, .int .i64 a1_2, .int .i64 a1_3, .int .i64 a1_4, .slice A1_5 l1_5.length c1_5] 57 (0, 0)) from by rw [hw21]; exact blk_alloc Kgb1.out _)
  replace Kgw := Aside0.mk (show w21.heap[gw]? = some (.cells #[.int .i64 v0, .int .i64 v1, .int .i64 v2, .slice Aw v3.length cw] 28 (0, 0)) from by rw [hw21]; exact blk_alloc Kgw.out _)
  replace Kgx0 := Aside0.mk (show w21.heap[gx0]? = some (.cells #[.int .i64 x0_0, .int .i64 x0_1, .int .i64 x0_2, .slice Ax0 x0_3.length cx0] 28 (0, 0)) from by rw [hw21]; exact blk_alloc Kgx0.out _)
  replace Kgx1 := Aside0.mk (show w21.heap[gx1]? = some (.cells #[.int .i64 x1_0, .int .i64 x1_1, .int .i64 x1_2, .int .i64 x1_3, .int .i64 x1_4, .slice Ax1 x1_5.length cx1] 43 (0, 0)) from by rw [hw21]; exact blk_alloc Kgx1.out _)
  replace Rw := Aside0.mk (show Kd.R (Kd.int .i64) 3 w21 w.heap.size (fun k_ => wz1.heap.size ≤ k_ ∧ k_ < w15.heap.size) (.slice Aw v3.length cw) v3 from by rw [hw21]; exact Kd.R_alloc Rw.out _)
  replace Rx0 := Aside0.mk (show Kd.R (Kd.int .i64) 3 w21 w.heap.size (fun k_ => w15.heap.size ≤ k_ ∧ k_ < w16.heap.size) (.slice Ax0 x0_3.length cx0) x0_3 from by rw [hw21]; exact Kd.R_alloc Rx0.out _)
  replace Rx1 := Aside0.mk (show Kd.R (Kd.int .i64) 3 w21 w.heap.size (fun k_ => w17.heap.size ≤ k_ ∧ k_ < w18.heap.size) (.slice Ax1 x1_5.length cx1) x1_5 from by rw [hw21]; exact Kd.R_alloc Rx1.out _)
  replace Rg := Aside0.mk (show Kd.R (Kd.int .i64) 3 w21 w.heap.size (fun k_ => w19.heap.size ≤ k_ ∧ k_ < w20.heap.size) (.slice Ag v3.length cg) v3 from by rw [hw21]; exact Kd.R_alloc Rg.out _)
  have Zw21 := Aside0.mk (show w20.heap.size < w21.heap.size from by rw [hw21]; simp [World.size_alloc])
  have Zgg := Aside0.mk (show w20.heap.size ≤ gg from Nat.le_of_eq hgg.symm)
  have ZLgg := Aside0.mk (blk_lt Kgg.out)
  clear hw21 hgg
  have hbn : (vok != vok) = false := by simp
  have cggw21_0 : w21.cell? ⟨gg, 0, none⟩ = some (.int .i64 v0) := (blk_cell Kgg.out 0).trans rfl; have cggw21_1 : w21.cell? ⟨gg, 1, none⟩ = some (.int .i64 v1) := (blk_cell Kgg.out 1).trans rfl; have cggw21_2 : w21.cell? ⟨gg, 2, none⟩ = some (.int .i64 v2) := (blk_cell Kgg.out 2).trans rfl; have cggw21_3 : w21.cell? ⟨gg, 3, none⟩ = some (.slice Ag v3.length cg) := (blk_cell Kgg.out 3).trans rfl
  have cgww21_0 : w21.cell? ⟨gw, 0, none⟩ = some (.int .i64 v0) := (blk_cell Kgw.out 0).trans rfl; have cgww21_1 : w21.cell? ⟨gw, 1, none⟩ = some (.int .i64 v1) := (blk_cell Kgw.out 1).trans rfl; have cgww21_2 : w21.cell? ⟨gw, 2, none⟩ = some (.int .i64 v2) := (blk_cell Kgw.out 2).trans rfl; have cgww21_3 : w21.cell? ⟨gw, 3, none⟩ = some (.slice Aw v3.length cw) := (blk_cell Kgw.out 3).trans rfl
  go_upto_region 14 with (first
    | (go_at_call 16; (with_reducible refine (laws_eqImage.calls k v0 v1 v2 Ag cg v3 v0 v1 v2 Aw cw v3 true w21 (Kd.R_reads' Rg.out).2.2 (Kd.R_reads' Rg.out).2.1 (Kd.R_reads' Rw.out).2.2 (Kd.R_reads' Rw.out).2.1 HEV.out rfl).mono ?_); rintro e w22 ⟨rfl, hb⟩; replace HB := Aside0.mk (below_then HB.out HB.out.size hb); replace Kgb0 := Aside0.mk (blk_below Kgb0.out hb); replace Kgb1 := Aside0.mk (blk_below Kgb1.out hb); replace Kgw := Aside0.mk (blk_below Kgw.out hb); replace Kgx0 := Aside0.mk (blk_below Kgx0.out hb); replace Kgx1 := Aside0.mk (blk_below Kgx1.out hb); replace Kgg := Aside0.mk (blk_below Kgg.out hb); replace Rw := Aside0.mk (Kd.R_below Rw.out hb); replace Rx0 := Aside0.mk (Kd.R_below Rx0.out hb); replace Rx1 := Aside0.mk (Kd.R_below Rx1.out hb); replace Rg := Aside0.mk (Kd.R_below Rg.out hb); have Zw22 := Aside0.mk hb.size; clear hb))
  try clear cggw21_0 cggw21_1 cggw21_2 cggw21_3 cgww21_0 cgww21_1 cgww21_2 cgww21_3
  replace HB := Aside0.mk (below_drew HB.out)
  replace Kgb0 := Aside0.mk (blk_below Kgb0.out (below_drew (Below.refl _ _)))
  replace Kgb1 := Aside0.mk (blk_below Kgb1.out (below_drew (Below.refl _ _)))
  replace Kgw := Aside0.mk (blk_below Kgw.out (below_drew (Below.refl _ _)))
  replace Kgx0 := Aside0.mk (blk_below Kgx0.out (below_drew (Below.refl _ _)))
  replace Kgx1 := Aside0.mk (blk_below Kgx1.out (below_drew (Below.refl _ _)))
  replace Kgg := Aside0.mk (blk_below Kgg.out (below_drew (Below.refl _ _)))
  replace Rw := Aside0.mk (Kd.R_drew Rw.out)
  replace Rx0 := Aside0.mk (Kd.R_drew Rx0.out)
  replace Rx1 := Aside0.mk (Kd.R_drew Rx1.out)
  replace Rg := Aside0.mk (Kd.R_drew Rg.out)
  refine start_ (n := 5) (S := fun w' => w'.cell? ⟨gx0, 0, none⟩ = some (.int .i64 x0_0) ∧ w'.cell? ⟨gx0, 1, none⟩ = some (.int .i64 x0_1) ∧ w'.cell? ⟨gx0, 2, none⟩ = some (.int .i64 x0_2) ∧ w'.cell? ⟨gx0, 3, none⟩ = some (.slice Ax0 x0_3.length cx0) ∧ w'.cell? ⟨gb0, 0, none⟩ = some (.int .i64 a0_0) ∧ w'.cell? ⟨gb0, 1, none⟩ = some (.int .i64 a0_1) ∧ w'.cell? ⟨gb0, 2, none⟩ = some (.int .i64 a0_2) ∧ w'.cell? ⟨gb0, 3, none⟩ = some (.slice A0_3 l0_3.length c0_3)) (ds := []) #[false, false, false, false, false] (by kernel_rfl) rfl rfl ⟨((blk_cell Kgx0.out 0).trans rfl), ((blk_cell Kgx0.out 1).trans rfl), ((blk_cell Kgx0.out 2).trans rfl), ((blk_cell Kgx0.out 3).trans rfl), ((blk_cell Kgb0.out 0).trans rfl), ((blk_cell Kgb0.out 1).trans rfl), ((blk_cell Kgb0.out 2).trans rfl), ((blk_cell Kgb0.out 3).trans rfl)⟩ (fun hHeld => ?_)
  refine take_ (i := 0) (N := some 54) (v := ?_) (a' := ?_) #[true, false, false, false, false] rfl rfl (by kernel_rfl) (fun _ _ _ h => h) (Or.inl ⟨by rfl, ?_⟩) hHeld ?_ ?_
  rotate_left
  · rintro w' ⟨s0, s1, s2, s3, s4, s5, s6, s7⟩
    go_simp
    with_reducible rfl
  rotate_left
  · simp only [Act.put, List.setIfInBounds_toArray, List.set_cons_zero, List.set_cons_succ, i64_w, i32_w]
    rfl
  refine take_ (i := 1) (N := some 55) (v := ?_) (a' := ?_) #[true, true, false, false, false] rfl rfl (by kernel_rfl) (fun _ _ _ h => h) (Or.inl ⟨by rfl, ?_⟩) hHeld ?_ ?_
  rotate_left
  · rintro w' ⟨s0, s1, s2, s3, s4, s5, s6, s7⟩
    go_simp
    with_reducible rfl
  rotate_left
  · simp only [Act.put, List.setIfInBounds_toArray, List.set_cons_zero, List.set_cons_succ, i64_w, i32_w]
    rfl
  refine one_ (i := 2) (N := some 56) #[true, true, true, false, false] rfl rfl (by kernel_rfl) (by decide) (fun K hK => ?_)
  refine goes_ Try.func13 (by kernel_rfl) rfl #[.agg #[.int .i64 a0_0, .int .i64 a0_1, .int .i64 a0_2, .slice A0_3 l0_3.length c0_3]] (by rfl) rfl rfl (by simp only [List.map_toArray, List.map_cons, List.map_nil]; rfl) ?_
  with_reducible refine (laws_toImage.calls k a0_0 a0_1 a0_2 A0_3 c0_3 l0_3 x0_0 x0_1 x0_2 x0_3 _ (Kd.C_below HR0.out HB.out) HC0.out HT0.out).mono ?_
  rintro e w23 ⟨vt_, rfl, hr_, hb_⟩
  refine ⟨_, rfl, ?_⟩
  obtain ⟨At_, ct_, rfl, hl_, hC_⟩ := Kd.R_reads hr_
  replace HB := Aside0.mk (below_then HB.out HB.out.size hb_)
  replace Kgb0 := Aside0.mk (blk_below Kgb0.out hb_)
  replace Kgb1 := Aside0.mk (blk_below Kgb1.out hb_)
  replace Kgw := Aside0.mk (blk_below Kgw.out hb_)
  replace Kgx0 := Aside0.mk (blk_below Kgx0.out hb_)
  replace Kgx1 := Aside0.mk (blk_below Kgx1.out hb_)
  replace Kgg := Aside0.mk (blk_below Kgg.out hb_)
  replace Rw := Aside0.mk (Kd.R_below Rw.out hb_)
  replace Rx0 := Aside0.mk (Kd.R_below Rx0.out hb_)
  replace Rx1 := Aside0.mk (Kd.R_below Rx1.out hb_)
  replace Rg := Aside0.mk (Kd.R_below Rg.out hb_)
  have Zw23 := Aside0.mk hb_.size
  have HT_ := Aside0.mk hC_
  have HL_ := Aside0.mk hl_
  clear hr_ hb_ hl_ hC_
  refine hK.out _ _ ⟨((blk_cell Kgx0.out 0).trans rfl), ((blk_cell Kgx0.out 1).trans rfl), ((blk_cell Kgx0.out 2).trans rfl), ((blk_cell Kgx0.out 3).trans rfl), ((blk_cell Kgb0.out 0).trans rfl), ((blk_cell Kgb0.out 1).trans rfl), ((blk_cell Kgb0.out 2).trans rfl), ((blk_cell Kgb0.out 3).trans rfl)⟩ (fun hHeld => ?_)
  clear hK K
  refine norm_ (a' := ?_) ?_ ?_
  rotate_left
  · show Act.put _ (some 56) _ = _
    simp only [Act.put, List.setIfInBounds_toArray, List.set_cons_zero, List.set_cons_succ, i64_w, i32_w]
    rfl
  refine one_ (i := 3) (N := some 57) #[true, true, true, true, false] rfl rfl (by kernel_rfl) (by decide) (fun K hK => ?_)
  refine goes_ Try.func16 (by kernel_rfl) rfl #[.agg #[.int .i64 x0_0, .int .i64 x0_1, .int .i64 x0_2, .slice Ax0 x0_3.length cx0], .agg #[.int .i64 x0_0, .int .i64 x0_1, .int .i64 x0_2, .slice At_ x0_3.length ct_]] (by rfl) rfl rfl (by simp only [List.map_toArray, List.map_cons, List.map_nil]; rfl) ?_
  with_reducible refine (laws_eqImage.calls k x0_0 x0_1 x0_2 Ax0 cx0 x0_3 x0_0 x0_1 x0_2 At_ ct_ x0_3 true _ (Kd.R_reads' Rx0.out).2.2 (Kd.R_reads' Rx0.out).2.1 HT_.out HL_.out HE0.out rfl).mono ?_
  rintro e w24 ⟨rfl, hb_⟩
  refine ⟨_, rfl, ?_⟩
  replace HB := Aside0.mk (below_then HB.out HB.out.size hb_)
  replace Kgb0 := Aside0.mk (blk_below Kgb0.out hb_)
  replace Kgb1 := Aside0.mk (blk_below Kgb1.out hb_)
  replace Kgw := Aside0.mk (blk_below Kgw.out hb_)
  replace Kgx0 := Aside0.mk (blk_below Kgx0.out hb_)
  replace Kgx1 := Aside0.mk (blk_below Kgx1.out hb_)
  replace Kgg := Aside0.mk (blk_below Kgg.out hb_)
  replace Rw := Aside0.mk (Kd.R_below Rw.out hb_)
  replace Rx0 := Aside0.mk (Kd.R_below Rx0.out hb_)
  replace Rx1 := Aside0.mk (Kd.R_below Rx1.out hb_)
  replace Rg := Aside0.mk (Kd.R_below Rg.out hb_)
  have Zw24 := Aside0.mk hb_.size
  clear hb_ HT_ HL_
  refine hK.out _ _ ⟨((blk_cell Kgx0.out 0).trans rfl), ((blk_cell Kgx0.out 1).trans rfl), ((blk_cell Kgx0.out 2).trans rfl), ((blk_cell Kgx0.out 3).trans rfl), ((blk_cell Kgb0.out 0).trans rfl), ((blk_cell Kgb0.out 1).trans rfl), ((blk_cell Kgb0.out 2).trans rfl), ((blk_cell Kgb0.out 3).trans rfl)⟩ (fun hHeld => ?_)
  clear hK K
  refine norm_ (a' := ?_) ?_ ?_
  rotate_left
  · show Act.put _ (some 57) _ = _
    simp only [Act.put, List.setIfInBounds_toArray, List.set_cons_zero, List.set_cons_succ, i64_w, i32_w]
    rfl
  refine pure_ (i := 4) (N := some 58) (v := ?_) (a' := ?_) #[true, true, true, true, true] rfl rfl (by kernel_rfl) (fun _ _ _ h => h) (Or.inl ⟨by rfl, ?_⟩) ?_ ?_
  rotate_left
  · intro w'
    go_simp
    with_reducible rfl
  rotate_left
  · simp only [Act.put, List.setIfInBounds_toArray, List.set_cons_zero, List.set_cons_succ, i64_w, i32_w]
    rfl
  refine done_ (by kernel_rfl) ?_
  clear hHeld
  go_upto_region 16 with (first
    | (fail))
  replace HB := Aside0.mk (below_drew HB.out)
  replace Kgb0 := Aside0.mk (blk_below Kgb0.out (below_drew (Below.refl _ _)))
  replace Kgb1 := Aside0.mk (blk_below Kgb1.out (below_drew (Below.refl _ _)))
  replace Kgw := Aside0.mk (blk_below Kgw.out (below_drew (Below.refl _ _)))
  replace Kgx0 := Aside0.mk (blk_below Kgx0.out (below_drew (Below.refl _ _)))
  replace Kgx1 := Aside0.mk (blk_below Kgx1.out (below_drew (Below.refl _ _)))
  replace Kgg := Aside0.mk (blk_below Kgg.out (below_drew (Below.refl _ _)))
  replace Rw := Aside0.mk (Kd.R_drew Rw.out)
  replace Rx0 := Aside0.mk (Kd.R_drew Rx0.out)
  replace Rx1 := Aside0.mk (Kd.R_drew Rx1.out)
  replace Rg := Aside0.mk (Kd.R_drew Rg.out)
  refine start_ (n := 5) (S := fun w' => w'.cell? ⟨gx1, 0, none⟩ = some (.int .i64 x1_0) ∧ w'.cell? ⟨gx1, 1, none⟩ = some (.int .i64 x1_1) ∧ w'.cell? ⟨gx1, 2, none⟩ = some (.int .i64 x1_2) ∧ w'.cell? ⟨gx1, 3, none⟩ = some (.int .i64 x1_3) ∧ w'.cell? ⟨gx1, 4, none⟩ = some (.int .i64 x1_4) ∧ w'.cell? ⟨gx1, 5, none⟩ = some (.slice Ax1 x1_5.length cx1) ∧ w'.cell? ⟨gb1, 0, none⟩ = some (.int .i64 a1_0) ∧ w'.cell? ⟨gb1, 1, none⟩ = some (.int .i64 a1_1) ∧ w'.cell? ⟨gb1, 2, none⟩ = some (.int .i64 a1_2) ∧ w'.cell? ⟨gb1, 3, none⟩ = some (.int .i64 a1_3) ∧ w'.cell? ⟨gb1, 4, none⟩ = some (.int .i64 a1_4) ∧ w'.cell? ⟨gb1, 5, none⟩ = some (.slice A1_5 l1_5.length c1_5)) (ds := []) #[false, false, false, false, false] (by kernel_rfl) rfl rfl ⟨((blk_cell Kgx1.out 0).trans rfl), ((blk_cell Kgx1.out 1).trans rfl), ((blk_cell Kgx1.out 2).trans rfl), ((blk_cell Kgx1.out 3).trans rfl), ((blk_cell Kgx1.out 4).trans rfl), ((blk_cell Kgx1.out 5).trans rfl), ((blk_cell Kgb1.out 0).trans rfl), ((blk_cell Kgb1.out 1).trans rfl), ((blk_cell Kgb1.out 2).trans rfl), ((blk_cell Kgb1.out 3).trans rfl), ((blk_cell Kgb1.out 4).trans rfl), ((blk_cell Kgb1.out 5).trans rfl)⟩ (fun hHeld => ?_)
  refine take_ (i := 0) (N := some 59) (v := ?_) (a' := ?_) #[true, false, false, false, false] rfl rfl (by kernel_rfl) (fun _ _ _ h => h) (Or.inl ⟨by rfl, ?_⟩) hHeld ?_ ?_
  rotate_left
  · rintro w' ⟨s0, s1, s2, s3, s4, s5, s6, s7, s8, s9, s10, s11⟩
    go_simp
    with_reducible rfl
  rotate_left
  · simp only [Act.put, List.setIfInBounds_toArray, List.set_cons_zero, List.set_cons_succ, i64_w, i32_w]
    rfl
  refine take_ (i := 1) (N := some 60) (v := ?_) (a' := ?_) #[true, true, false, false, false] rfl rfl (by kernel_rfl) (fun _ _ _ h => h) (Or.inl ⟨by rfl, ?_⟩) hHeld ?_ ?_
  rotate_left
  · rintro w' ⟨s0, s1, s2, s3, s4, s5, s6, s7, s8, s9, s10, s11⟩
    go_simp
    with_reducible rfl
  rotate_left
  · simp only [Act.put, List.setIfInBounds_toArray, List.set_cons_zero, List.set_cons_succ, i64_w, i32_w]
    rfl
  refine one_ (i := 2) (N := some 61) #[true, true, true, false, false] rfl rfl (by kernel_rfl) (by decide) (fun K hK => ?_)
  refine goes_ Try.func33 (by kernel_rfl) rfl #[.agg #[.int .i64 a1_0, .int .i64 a1_1, .int .i64 a1_2, .int .i64 a1_3, .int .i64 a1_4, .slice A1_5 l1_5.length c1_5]] (by rfl) rfl rfl (by simp only [List.map_toArray, List.map_cons, List.map_nil]; rfl) ?_
  with_reducible refine (laws_toStep.calls k a1_0 a1_1 a1_2 a1_3 a1_4 A1_5 c1_5 l1_5 x1_0 x1_1 x1_2 x1_3 x1_4 x1_5 _ (Kd.C_below HR1.out HB.out) HC1.out HT1.out).mono ?_
  rintro e w25 ⟨vt_, rfl, hr_, hb_⟩
  refine ⟨_, rfl, ?_⟩
  obtain ⟨At_, ct_, rfl, hl_, hC_⟩ := Kd.R_reads hr_
  replace HB := Aside0.mk (below_then HB.out HB.out.size hb_)
  replace Kgb0 := Aside0.mk (blk_below Kgb0.out hb_)
  replace Kgb1 := Aside0.mk (blk_below Kgb1.out hb_)
  replace Kgw := Aside0.mk (blk_below Kgw.out hb_)
  replace Kgx0 := Aside0.mk (blk_below Kgx0.out hb_)
  replace Kgx1 := Aside0.mk (blk_below Kgx1.out hb_)
  replace Kgg := Aside0.mk (blk_below Kgg.out hb_)
  replace Rw := Aside0.mk (Kd.R_below Rw.out hb_)
  replace Rx0 := Aside0.mk (Kd.R_below Rx0.out hb_)
  replace Rx1 := Aside0.mk (Kd.R_below Rx1.out hb_)
  replace Rg := Aside0.mk (Kd.R_below Rg.out hb_)
  have Zw25 := Aside0.mk hb_.size
  have HT_ := Aside0.mk hC_
  have HL_ := Aside0.mk hl_
  clear hr_ hb_ hl_ hC_
  refine hK.out _ _ ⟨((blk_cell Kgx1.out 0).trans rfl), ((blk_cell Kgx1.out 1).trans rfl), ((blk_cell Kgx1.out 2).trans rfl), ((blk_cell Kgx1.out 3).trans rfl), ((blk_cell Kgx1.out 4).trans rfl), ((blk_cell Kgx1.out 5).trans rfl), ((blk_cell Kgb1.out 0).trans rfl), ((blk_cell Kgb1.out 1).trans rfl), ((blk_cell Kgb1.out 2).trans rfl), ((blk_cell Kgb1.out 3).trans rfl), ((blk_cell Kgb1.out 4).trans rfl), ((blk_cell Kgb1.out 5).trans rfl)⟩ (fun hHeld => ?_)
  clear hK K
  refine norm_ (a' := ?_) ?_ ?_
  rotate_left
  · show Act.put _ (some 61) _ = _
    simp only [Act.put, List.setIfInBounds_toArray, List.set_cons_zero, List.set_cons_succ, i64_w, i32_w]
    rfl
  refine one_ (i := 3) (N := some 62) #[true, true, true, true, false] rfl rfl (by kernel_rfl) (by decide) (fun K hK => ?_)
  refine goes_ Try.func34 (by kernel_rfl) rfl #[.agg #[.int .i64 x1_0, .int .i64 x1_1, .int .i64 x1_2, .int .i64 x1_3, .int .i64 x1_4, .slice Ax1 x1_5.length cx1], .agg #[.int .i64 x1_0, .int .i64 x1_1, .int .i64 x1_2, .int .i64 x1_3, .int .i64 x1_4, .slice At_ x1_5.length ct_]] (by rfl) rfl rfl (by simp only [List.map_toArray, List.map_cons, List.map_nil]; rfl) ?_
  with_reducible refine (laws_eqStep.calls k x1_0 x1_1 x1_2 x1_3 x1_4 Ax1 cx1 x1_5 x1_0 x1_1 x1_2 x1_3 x1_4 At_ ct_ x1_5 true _ (Kd.R_reads' Rx1.out).2.2 (Kd.R_reads' Rx1.out).2.1 HT_.out HL_.out HE1.out rfl).mono ?_
  rintro e w26 ⟨rfl, hb_⟩
  refine ⟨_, rfl, ?_⟩
  replace HB := Aside0.mk (below_then HB.out HB.out.size hb_)
  replace Kgb0 := Aside0.mk (blk_below Kgb0.out hb_)
  replace Kgb1 := Aside0.mk (blk_below Kgb1.out hb_)
  replace Kgw := Aside0.mk (blk_below Kgw.out hb_)
  replace Kgx0 := Aside0.mk (blk_below Kgx0.out hb_)
  replace Kgx1 := Aside0.mk (blk_below Kgx1.out hb_)
  replace Kgg := Aside0.mk (blk_below Kgg.out hb_)
  replace Rw := Aside0.mk (Kd.R_below Rw.out hb_)
  replace Rx0 := Aside0.mk (Kd.R_below Rx0.out hb_)
  replace Rx1 := Aside0.mk (Kd.R_below Rx1.out hb_)
  replace Rg := Aside0.mk (Kd.R_below Rg.out hb_)
  have Zw26 := Aside0.mk hb_.size
  clear hb_ HT_ HL_
  refine hK.out _ _ ⟨((blk_cell Kgx1.out 0).trans rfl), ((blk_cell Kgx1.out 1).trans rfl), ((blk_cell Kgx1.out 2).trans rfl), ((blk_cell Kgx1.out 3).trans rfl), ((blk_cell Kgx1.out 4).trans rfl), ((blk_cell Kgx1.out 5).trans rfl), ((blk_cell Kgb1.out 0).trans rfl), ((blk_cell Kgb1.out 1).trans rfl), ((blk_cell Kgb1.out 2).trans rfl), ((blk_cell Kgb1.out 3).trans rfl), ((blk_cell Kgb1.out 4).trans rfl), ((blk_cell Kgb1.out 5).trans rfl)⟩ (fun hHeld => ?_)
  clear hK K
  refine norm_ (a' := ?_) ?_ ?_
  rotate_left
  · show Act.put _ (some 62) _ = _
    simp only [Act.put, List.setIfInBounds_toArray, List.set_cons_zero, List.set_cons_succ, i64_w, i32_w]
    rfl
  refine pure_ (i := 4) (N := some 63) (v := ?_) (a' := ?_) #[true, true, true, true, true] rfl rfl (by kernel_rfl) (fun _ _ _ h => h) (Or.inl ⟨by rfl, ?_⟩) ?_ ?_
  rotate_left
  · intro w'
    go_simp
    with_reducible rfl
  rotate_left
  · simp only [Act.put, List.setIfInBounds_toArray, List.set_cons_zero, List.set_cons_succ, i64_w, i32_w]
    rfl
  refine done_ (by kernel_rfl) ?_
  clear hHeld
  go_upto_region 18 with (first
    | (fail))
  have Zb0 := Aside0.mk QKgb0.out; have Zb1 := Aside0.mk QKgb1.out
  have z0_ := NZw.out; have z1_ := Zgw.out; have z2_ := ZLgw.out; have z3_ := Zw16.out; have z4_ := Zw17.out; have z5_ := Zgx0.out; have z6_ := ZLgx0.out; have z7_ := Zw18.out; have z8_ := Zw19.out; have z9_ := Zgx1.out; have z10_ := ZLgx1.out; have z11_ := Zw20.out; have z12_ := Zw21.out; have z13_ := Zgg.out; have z14_ := ZLgg.out; have z15_ := Zw22.out; have z16_ := Zw23.out; have z17_ := Zw24.out; have z18_ := Zw25.out; have z19_ := Zw26.out; have z20_ := Zb0.out; have z21_ := Zb1.out
  have cgx0w26_0 : w26.cell? ⟨gx0, 0, none⟩ = some (.int .i64 x0_0) := (blk_cell Kgx0.out 0).trans rfl; have cgx0w26_1 : w26.cell? ⟨gx0, 1, none⟩ = some (.int .i64 x0_1) := (blk_cell Kgx0.out 1).trans rfl; have cgx0w26_2 : w26.cell? ⟨gx0, 2, none⟩ = some (.int .i64 x0_2) := (blk_cell Kgx0.out 2).trans rfl; have cgx0w26_3 : w26.cell? ⟨gx0, 3, none⟩ = some (.slice Ax0 x0_3.length cx0) := (blk_cell Kgx0.out 3).trans rfl
  go_upto_region 20 with (first
    | (go_at_call 18; (with_reducible refine (laws_markImage.calls k x0_0 x0_1 x0_2 (fun k_ => w15.heap.size ≤ k_ ∧ k_ < w16.heap.size) (.slice Ax0 x0_3.length cx0) x0_3 1 k0 y0 w w26 HB.out Rx0.out HM0.out).mono ?_); rintro e w27 ⟨rfl, hr, hb, hK⟩; replace Kgb0 := Aside0.mk ((hK.2 gb0 (blk_lt Kgb0.out) (by have b_ := blk_lt Kgb0.out; rintro ⟨h1_, h2_⟩; omega)).trans Kgb0.out); replace Kgb1 := Aside0.mk ((hK.2 gb1 (blk_lt Kgb1.out) (by have b_ := blk_lt Kgb1.out; rintro ⟨h1_, h2_⟩; omega)).trans Kgb1.out); replace Kgw := Aside0.mk ((hK.2 gw (blk_lt Kgw.out) (by have b_ := blk_lt Kgw.out; rintro ⟨h1_, h2_⟩; omega)).trans Kgw.out); replace Kgx0 := Aside0.mk ((hK.2 gx0 (blk_lt Kgx0.out) (by have b_ := blk_lt Kgx0.out; rintro ⟨h1_, h2_⟩; omega)).trans Kgx0.out); replace Kgx1 := Aside0.mk ((hK.2 gx1 (blk_lt Kgx1.out) (by have b_ := blk_lt Kgx1.out; rintro ⟨h1_, h2_⟩; omega)).trans Kgx1.out); replace Kgg := Aside0.mk ((hK.2 gg (blk_lt Kgg.out) (by have b_ := blk_lt Kgg.out; rintro ⟨h1_, h2_⟩; omega)).trans Kgg.out); replace Rw := Aside0.mk (Kd.R_kept Rw.out hK (by rintro k_ ⟨h1_, h2_⟩ ⟨h3_, h4_⟩; omega)); replace Rx1 := Aside0.mk (Kd.R_kept Rx1.out hK (by rintro k_ ⟨h1_, h2_⟩ ⟨h3_, h4_⟩; omega)); replace Rg := Aside0.mk (Kd.R_kept Rg.out hK (by rintro k_ ⟨h1_, h2_⟩ ⟨h3_, h4_⟩; omega)); replace HB := Aside0.mk hb; replace Rx0 := Aside0.mk hr; have Zw27 := Aside0.mk hK.1; clear hr hb hK))
  try clear cgx0w26_0 cgx0w26_1 cgx0w26_2 cgx0w26_3
  clear z0_ z1_ z2_ z3_ z4_ z5_ z6_ z7_ z8_ z9_ z10_ z11_ z12_ z13_ z14_ z15_ z16_ z17_ z18_ z19_ z20_ z21_
  have z0_ := NZw.out; have z1_ := Zgw.out; have z2_ := ZLgw.out; have z3_ := Zw16.out; have z4_ := Zw17.out; have z5_ := Zgx0.out; have z6_ := ZLgx0.out; have z7_ := Zw18.out; have z8_ := Zw19.out; have z9_ := Zgx1.out; have z10_ := ZLgx1.out; have z11_ := Zw20.out; have z12_ := Zw21.out; have z13_ := Zgg.out; have z14_ := ZLgg.out; have z15_ := Zw22.out; have z16_ := Zw23.out; have z17_ := Zw24.out; have z18_ := Zw25.out; have z19_ := Zw26.out; have z20_ := Zb0.out; have z21_ := Zb1.out; have z22_ := Zw27.out
  have cgx1w27_0 : w27.cell? ⟨gx1, 0, none⟩ = some (.int .i64 x1_0) := (blk_cell Kgx1.out 0).trans rfl; have cgx1w27_1 : w27.cell? ⟨gx1, 1, none⟩ = some (.int .i64 x1_1) := (blk_cell Kgx1.out 1).trans rfl; have cgx1w27_2 : w27.cell? ⟨gx1, 2, none⟩ = some (.int .i64 x1_2) := (blk_cell Kgx1.out 2).trans rfl; have cgx1w27_3 : w27.cell? ⟨gx1, 3, none⟩ = some (.int .i64 x1_3) := (blk_cell Kgx1.out 3).trans rfl; have cgx1w27_4 : w27.cell? ⟨gx1, 4, none⟩ = some (.int .i64 x1_4) := (blk_cell Kgx1.out 4).trans rfl; have cgx1w27_5 : w27.cell? ⟨gx1, 5, none⟩ = some (.slice Ax1 x1_5.length cx1) := (blk_cell Kgx1.out 5).trans rfl
  go_upto_region 21 with (first
    | (go_at_call 35; (with_reducible refine (laws_markStep.calls k x1_0 x1_1 x1_2 x1_3 x1_4 (fun k_ => w17.heap.size ≤ k_ ∧ k_ < w18.heap.size) (.slice Ax1 x1_5.length cx1) x1_5 k0 k1 y1 w w27 HB.out Rx1.out HM1.out).mono ?_); rintro e w28 ⟨rfl, hr, hb, hK⟩; replace Kgb0 := Aside0.mk ((hK.2 gb0 (blk_lt Kgb0.out) (by have b_ := blk_lt Kgb0.out; rintro ⟨h1_, h2_⟩; omega)).trans Kgb0.out); replace Kgb1 := Aside0.mk ((hK.2 gb1 (blk_lt Kgb1.out) (by have b_ := blk_lt Kgb1.out; rintro ⟨h1_, h2_⟩; omega)).trans Kgb1.out); replace Kgw := Aside0.mk ((hK.2 gw (blk_lt Kgw.out) (by have b_ := blk_lt Kgw.out; rintro ⟨h1_, h2_⟩; omega)).trans Kgw.out); replace Kgx0 := Aside0.mk ((hK.2 gx0 (blk_lt Kgx0.out) (by have b_ := blk_lt Kgx0.out; rintro ⟨h1_, h2_⟩; omega)).trans Kgx0.out); replace Kgx1 := Aside0.mk ((hK.2 gx1 (blk_lt Kgx1.out) (by have b_ := blk_lt Kgx1.out; rintro ⟨h1_, h2_⟩; omega)).trans Kgx1.out); replace Kgg := Aside0.mk ((hK.2 gg (blk_lt Kgg.out) (by have b_ := blk_lt Kgg.out; rintro ⟨h1_, h2_⟩; omega)).trans Kgg.out); replace Rw := Aside0.mk (Kd.R_kept Rw.out hK (by rintro k_ ⟨h1_, h2_⟩ ⟨h3_, h4_⟩; omega)); replace Rg := Aside0.mk (Kd.R_kept Rg.out hK (by rintro k_ ⟨h1_, h2_⟩ ⟨h3_, h4_⟩; omega)); replace HB := Aside0.mk hb; replace Rx1 := Aside0.mk hr; have Zw28 := Aside0.mk hK.1; clear hr hb hK))
  try clear cgx1w27_0 cgx1w27_1 cgx1w27_2 cgx1w27_3 cgx1w27_4 cgx1w27_5
  clear z0_ z1_ z2_ z3_ z4_ z5_ z6_ z7_ z8_ z9_ z10_ z11_ z12_ z13_ z14_ z15_ z16_ z17_ z18_ z19_ z20_ z21_ z22_
  have cggw28_0 : w28.cell? ⟨gg, 0, none⟩ = some (.int .i64 v0) := (blk_cell Kgg.out 0).trans rfl; have cggw28_1 : w28.cell? ⟨gg, 1, none⟩ = some (.int .i64 v1) := (blk_cell Kgg.out 1).trans rfl; have cggw28_2 : w28.cell? ⟨gg, 2, none⟩ = some (.int .i64 v2) := (blk_cell Kgg.out 2).trans rfl; have cggw28_3 : w28.cell? ⟨gg, 3, none⟩ = some (.slice Ag v3.length cg) := (blk_cell Kgg.out 3).trans rfl
  have cgww28_0 : w28.cell? ⟨gw, 0, none⟩ = some (.int .i64 v0) := (blk_cell Kgw.out 0).trans rfl; have cgww28_1 : w28.cell? ⟨gw, 1, none⟩ = some (.int .i64 v1) := (blk_cell Kgw.out 1).trans rfl; have cgww28_2 : w28.cell? ⟨gw, 2, none⟩ = some (.int .i64 v2) := (blk_cell Kgw.out 2).trans rfl; have cgww28_3 : w28.cell? ⟨gw, 3, none⟩ = some (.slice Aw v3.length cw) := (blk_cell Kgw.out 3).trans rfl
  go_upto_region 23 with (first
    | (go_at_call 16; (with_reducible refine (laws_eqImage.calls k v0 v1 v2 Ag cg v3 v0 v1 v2 Aw cw v3 true w28 (Kd.R_reads' Rg.out).2.2 (Kd.R_reads' Rg.out).2.1 (Kd.R_reads' Rw.out).2.2 (Kd.R_reads' Rw.out).2.1 HEV.out rfl).mono ?_); rintro e w29 ⟨rfl, hb⟩; replace HB := Aside0.mk (below_then HB.out HB.out.size hb); replace Kgb0 := Aside0.mk (blk_below Kgb0.out hb); replace Kgb1 := Aside0.mk (blk_below Kgb1.out hb); replace Kgw := Aside0.mk (blk_below Kgw.out hb); replace Kgx0 := Aside0.mk (blk_below Kgx0.out hb); replace Kgx1 := Aside0.mk (blk_below Kgx1.out hb); replace Kgg := Aside0.mk (blk_below Kgg.out hb); replace Rw := Aside0.mk (Kd.R_below Rw.out hb); replace Rg := Aside0.mk (Kd.R_below Rg.out hb); have Zw29 := Aside0.mk hb.size; clear hb))
  try clear cggw28_0 cggw28_1 cggw28_2 cggw28_3 cgww28_0 cgww28_1 cgww28_2 cgww28_3
  have z0_ := NZw.out; have z1_ := Zgw.out; have z2_ := ZLgw.out; have z3_ := Zw16.out; have z4_ := Zw17.out; have z5_ := Zgx0.out; have z6_ := ZLgx0.out; have z7_ := Zw18.out; have z8_ := Zw19.out; have z9_ := Zgx1.out; have z10_ := ZLgx1.out; have z11_ := Zw20.out; have z12_ := Zw21.out; have z13_ := Zgg.out; have z14_ := ZLgg.out; have z15_ := Zw22.out; have z16_ := Zw23.out; have z17_ := Zw24.out; have z18_ := Zw25.out; have z19_ := Zw26.out; have z20_ := Zb0.out; have z21_ := Zb1.out; have z22_ := Zw27.out; have z23_ := Zw28.out; have z24_ := Zw29.out
  have cggw29_0 : w29.cell? ⟨gg, 0, none⟩ = some (.int .i64 v0) := (blk_cell Kgg.out 0).trans rfl; have cggw29_1 : w29.cell? ⟨gg, 1, none⟩ = some (.int .i64 v1) := (blk_cell Kgg.out 1).trans rfl; have cggw29_2 : w29.cell? ⟨gg, 2, none⟩ = some (.int .i64 v2) := (blk_cell Kgg.out 2).trans rfl; have cggw29_3 : w29.cell? ⟨gg, 3, none⟩ = some (.slice Ag v3.length cg) := (blk_cell Kgg.out 3).trans rfl
  go_upto_region 25 with (first
    | (go_at_call 18; (with_reducible refine (laws_markImage.calls k v0 v1 v2 (fun k_ => w19.heap.size ≤ k_ ∧ k_ < w20.heap.size) (.slice Ag v3.length cg) v3 1 m u w w29 HB.out Rg.out HMR.out).mono ?_); rintro e w30 ⟨rfl, hr, hb, hK⟩; replace Kgb0 := Aside0.mk ((hK.2 gb0 (blk_lt Kgb0.out) (by have b_ := blk_lt Kgb0.out; rintro ⟨h1_, h2_⟩; omega)).trans Kgb0.out); replace Kgb1 := Aside0.mk ((hK.2 gb1 (blk_lt Kgb1.out) (by have b_ := blk_lt Kgb1.out; rintro ⟨h1_, h2_⟩; omega)).trans Kgb1.out); replace Kgw := Aside0.mk ((hK.2 gw (blk_lt Kgw.out) (by have b_ := blk_lt Kgw.out; rintro ⟨h1_, h2_⟩; omega)).trans Kgw.out); replace Kgx0 := Aside0.mk ((hK.2 gx0 (blk_lt Kgx0.out) (by have b_ := blk_lt Kgx0.out; rintro ⟨h1_, h2_⟩; omega)).trans Kgx0.out); replace Kgx1 := Aside0.mk ((hK.2 gx1 (blk_lt Kgx1.out) (by have b_ := blk_lt Kgx1.out; rintro ⟨h1_, h2_⟩; omega)).trans Kgx1.out); replace Kgg := Aside0.mk ((hK.2 gg (blk_lt Kgg.out) (by have b_ := blk_lt Kgg.out; rintro ⟨h1_, h2_⟩; omega)).trans Kgg.out); replace Rw := Aside0.mk (Kd.R_kept Rw.out hK (by rintro k_ ⟨h1_, h2_⟩ ⟨h3_, h4_⟩; omega)); replace HB := Aside0.mk hb; replace Rg := Aside0.mk hr; have Zw30 := Aside0.mk hK.1; clear hr hb hK))
  try clear cggw29_0 cggw29_1 cggw29_2 cggw29_3
  clear z0_ z1_ z2_ z3_ z4_ z5_ z6_ z7_ z8_ z9_ z10_ z11_ z12_ z13_ z14_ z15_ z16_ z17_ z18_ z19_ z20_ z21_ z22_ z23_ z24_
  have eu := Aside0.mk (Kd.R_reads' Rg.out).1
  replace Kgg := Aside0.mk (show w30.heap[gg]? = some (.cells #[.int .i64 v0, .int .i64 v1, .int .i64 v2, .slice Ag u.length cg] 28 (0, 0)) from by rw [← eu.out]; exact Kgg.out)
  replace Rg := Aside0.mk (show Kd.R (Kd.int .i64) 3 w30 w.heap.size (fun k_ => 0 ≤ k_ ∧ k_ < w30.heap.size) (.slice Ag u.length cg) u from by rw [← eu.out]; exact Kd.R_mono (Kd.R_bound Rg.out) (fun k_ hk_ => ⟨Nat.zero_le _, hk_.2.2.1⟩))
  clear eu
  have cggw30_0 : w30.cell? ⟨gg, 0, none⟩ = some (.int .i64 v0) := (blk_cell Kgg.out 0).trans rfl; have cggw30_1 : w30.cell? ⟨gg, 1, none⟩ = some (.int .i64 v1) := (blk_cell Kgg.out 1).trans rfl; have cggw30_2 : w30.cell? ⟨gg, 2, none⟩ = some (.int .i64 v2) := (blk_cell Kgg.out 2).trans rfl; have cggw30_3 : w30.cell? ⟨gg, 3, none⟩ = some (.slice Ag u.length cg) := (blk_cell Kgg.out 3).trans rfl
  go_upto_region 31 with (first
    | (go_at_call 20; (with_reducible refine (laws_heldImage.calls k v0 v1 v2 Ag cg u 1 m w30 (Kd.R_reads' Rg.out).2.2 (Kd.R_reads' Rg.out).2.1 HHR.out).mono ?_); rintro e w31 ⟨rfl, hb⟩; replace HB := Aside0.mk (below_then HB.out HB.out.size hb); replace Kgb0 := Aside0.mk (blk_below Kgb0.out hb); replace Kgb1 := Aside0.mk (blk_below Kgb1.out hb); replace Kgw := Aside0.mk (blk_below Kgw.out hb); replace Kgg := Aside0.mk (blk_below Kgg.out hb); replace Rw := Aside0.mk (Kd.R_below Rw.out hb); replace Rg := Aside0.mk (Kd.R_below Rg.out hb); have Zw31 := Aside0.mk hb.size; clear hb))
  try clear cggw30_0 cggw30_1 cggw30_2 cggw30_3
  have HBSh := Aside0.mk HB.out.size
  have HZh := Aside0.mk (Nat.le_refl w31.heap.size)
  replace HB := Aside0.mk (below_drew HB.out)
  replace Kgb0 := Aside0.mk (blk_below Kgb0.out (below_drew (Below.refl _ _)))
  replace Kgb1 := Aside0.mk (blk_below Kgb1.out (below_drew (Below.refl _ _)))
  replace Kgw := Aside0.mk (blk_below Kgw.out (below_drew (Below.refl _ _)))
  replace Kgg := Aside0.mk (blk_below Kgg.out (below_drew (Below.refl _ _)))
  replace Rw := Aside0.mk (Kd.R_drew Rw.out)
  replace Rg := Aside0.mk (Kd.R_drew Rg.out)
  replace HZh := Aside0.mk (show w31.heap.size ≤ w31.drew.heap.size from HZh.out)
  have QKgb0 := Aside0.mk (show gb0 < w31.heap.size from blk_lt Kgb0.out)
  have QKgb1 := Aside0.mk (show gb1 < w31.heap.size from blk_lt Kgb1.out)
  have QKgw := Aside0.mk (show gw < w31.heap.size from blk_lt Kgw.out)
  have QKgg := Aside0.mk (show gg < w31.heap.size from blk_lt Kgg.out)
  refine start_ (n := 11) (S := fun w' => w'.cell? ⟨gb0, 0, none⟩ = some (.int .i64 a0_0) ∧ w'.cell? ⟨gb0, 1, none⟩ = some (.int .i64 a0_1) ∧ w'.cell? ⟨gb0, 2, none⟩ = some (.int .i64 a0_2) ∧ w'.cell? ⟨gb0, 3, none⟩ = some (.slice A0_3 l0_3.length c0_3) ∧ w'.cell? ⟨gb1, 0, none⟩ = some (.int .i64 a1_0) ∧ w'.cell? ⟨gb1, 1, none⟩ = some (.int .i64 a1_1) ∧ w'.cell? ⟨gb1, 2, none⟩ = some (.int .i64 a1_2) ∧ w'.cell? ⟨gb1, 3, none⟩ = some (.int .i64 a1_3) ∧ w'.cell? ⟨gb1, 4, none⟩ = some (.int .i64 a1_4) ∧ w'.cell? ⟨gb1, 5, none⟩ = some (.slice A1_5 l1_5.length c1_5)) (ds := []) #[false, false, false, false, false, false, false, false, false, false, false] (by kernel_rfl) rfl rfl ⟨((blk_cell Kgb0.out 0).trans rfl), ((blk_cell Kgb0.out 1).trans rfl), ((blk_cell Kgb0.out 2).trans rfl), ((blk_cell Kgb0.out 3).trans rfl), ((blk_cell Kgb1.out 0).trans rfl), ((blk_cell Kgb1.out 1).trans rfl), ((blk_cell Kgb1.out 2).trans rfl), ((blk_cell Kgb1.out 3).trans rfl), ((blk_cell Kgb1.out 4).trans rfl), ((blk_cell Kgb1.out 5).trans rfl)⟩ (fun hHeld => ?_)
  refine take_ (i := 0) (N := some 95) (v := ?_) (a' := ?_) #[true, false, false, false, false, false, false, false, false, false, false] rfl rfl (by kernel_rfl) (fun _ _ _ h => h) (Or.inl ⟨by rfl, ?_⟩) hHeld ?_ ?_
  rotate_left
  · rintro w' ⟨s0, s1, s2, s3, s4, s5, s6, s7, s8, s9⟩
    go_simp
    with_reducible rfl
  rotate_left
  · simp only [Act.put, List.setIfInBounds_toArray, List.set_cons_zero, List.set_cons_succ, i64_w, i32_w]
    rfl
  refine take_ (i := 2) (N := some 97) (v := ?_) (a' := ?_) #[true, false, true, false, false, false, false, false, false, false, false] rfl rfl (by kernel_rfl) (fun _ _ _ h => h) (Or.inl ⟨by rfl, ?_⟩) hHeld ?_ ?_
  rotate_left
  · rintro w' ⟨s0, s1, s2, s3, s4, s5, s6, s7, s8, s9⟩
    go_simp
    with_reducible rfl
  rotate_left
  · simp only [Act.put, List.setIfInBounds_toArray, List.set_cons_zero, List.set_cons_succ, i64_w, i32_w]
    rfl
  refine join_ (σ := Value × Value × Value × Nat) 2 #[true, true, true, true, true, true, true, true, true, false, false] (fun s_ => [(96, .agg #[.int .i64 x0_0, .int .i64 x0_1, .int .i64 x0_2, s_.1]), (98, .agg #[.int .i64 x1_0, .int .i64 x1_1, .int .i64 x1_2, .int .i64 x1_3, .int .i64 x1_4, s_.2.1]), (99, .tuple #[.agg #[.int .i64 v0, .int .i64 v1, .int .i64 v2, s_.2.2.1], .bool vok]), (94, .tuple #[.agg #[.int .i64 v0, .int .i64 v1, .int .i64 v2, s_.2.2.1], .bool vok]), (100, .agg #[.int .i64 v0, .int .i64 v1, .int .i64 v2, s_.2.2.1]), (101, .bool vok), (15, .pointer (some ⟨s_.2.2.2, 0, none⟩))]) (fun s_ w' => Kd.R (Kd.int .i64) 3 w' w.heap.size (fun k_ => w31.heap.size ≤ k_ ∧ k_ < w'.heap.size) (s_.2.2.1) v3 ∧ w'.heap[s_.2.2.2]? = some (.cells #[.int .i64 0, .int .i64 0, .int .i64 0, .slice none 0 0] 28 (0, 0)) ∧ w31.heap.size ≤ s_.2.2.2 ∧ w'.heap[gb0]? = some (.cells #[.int .i64 a0_0, .int .i64 a0_1, .int .i64 a0_2, .slice A0_3 l0_3.length c0_3] 24 (0, 0)) ∧ w'.heap[gb1]? = some (.cells #[.int .i64 a1_0, .int .i64 a1_1, .int .i64 a1_2, .int .i64 a1_3, .int .i64 a1_4, .slice A1_5 l1_5.length c1_5] 57 (0, 0)) ∧ w'.heap[gw]? = some (.cells #[.int .i64 v0, .int .i64 v1, .int .i64 v2, .slice Aw v3.length cw] 28 (0, 0)) ∧ w'.heap[gg]? = some (.cells #[.int .i64 v0, .int .i64 v1, .int .i64 v2, .slice Ag u.length cg] 28 (0, 0)) ∧ Kd.R (Kd.int .i64) 3 w' w.heap.size (fun k_ => wz1.heap.size ≤ k_ ∧ k_ < w15.heap.size) (.slice Aw v3.length cw) v3 ∧ Kd.R (Kd.int .i64) 3 w' w.heap.size (fun k_ => 0 ≤ k_ ∧ k_ < w30.heap.size) (.slice Ag u.length cg) u ∧ Below w.heap.size w w' ∧ w31.heap.size ≤ w'.heap.size) ?_ ?_
  rotate_left
  · intro hCont
    refine two_ (i := 1) (j := 8) (Ni := some 96) (Nj := some 15) #[true, true, true, false, false, false, false, false, false, false, false] #[true, false, true, false, false, false, false, false, true, false, false] rfl rfl rfl rfl (by kernel_rfl) (by decide) (by decide) (fun K hK => ?_) (fun K hK => ?_)
    · skip
      refine goes_ Try.func13 (by kernel_rfl) rfl #[.agg #[.int .i64 a0_0, .int .i64 a0_1, .int .i64 a0_2, .slice A0_3 l0_3.length c0_3]] (by rfl) rfl rfl (by simp only [List.map_toArray, List.map_cons, List.map_nil]; rfl) ?_
      with_reducible refine (laws_toImage.calls k a0_0 a0_1 a0_2 A0_3 c0_3 l0_3 x0_0 x0_1 x0_2 x0_3 _ (Kd.C_below HR0.out HB.out) HC0.out HT0.out).mono ?_
      rintro e w33 ⟨vt_, rfl, hr_, hb_⟩
      refine ⟨_, rfl, ?_⟩
      replace HB := Aside0.mk (below_then HB.out HB.out.size hb_)
      replace Kgb0 := Aside0.mk (blk_below Kgb0.out hb_)
      replace Kgb1 := Aside0.mk (blk_below Kgb1.out hb_)
      replace Kgw := Aside0.mk (blk_below Kgw.out hb_)
      replace Kgg := Aside0.mk (blk_below Kgg.out hb_)
      replace Rw := Aside0.mk (Kd.R_below Rw.out hb_)
      replace Rg := Aside0.mk (Kd.R_below Rg.out hb_)
      replace HZh := Aside0.mk (Nat.le_trans HZh.out hb_.size)
      obtain ⟨At0, ct0, rfl, hl_, hC_⟩ := Kd.R_reads hr_
      have HT_0 := Aside0.mk hC_
      have HL_0 := Aside0.mk hl_
      clear hr_ hb_ hl_ hC_
      refine hK.out _ _ ⟨((blk_cell Kgb0.out 0).trans rfl), ((blk_cell Kgb0.out 1).trans rfl), ((blk_cell Kgb0.out 2).trans rfl), ((blk_cell Kgb0.out 3).trans rfl), ((blk_cell Kgb1.out 0).trans rfl), ((blk_cell Kgb1.out 1).trans rfl), ((blk_cell Kgb1.out 2).trans rfl), ((blk_cell Kgb1.out 3).trans rfl), ((blk_cell Kgb1.out 4).trans rfl), ((blk_cell Kgb1.out 5).trans rfl)⟩ (fun hHeld => ?_)
      clear hK K
      refine norm_ (a' := ?_) ?_ ?_
      rotate_left
      · show Act.put _ (some 96) _ = _
        simp only [Act.put, List.setIfInBounds_toArray, List.set_cons_zero, List.set_cons_succ, i64_w, i32_w]
        rfl
      refine two_ (i := 3) (j := 8) (Ni := some 98) (Nj := some 15) #[true, true, true, true, false, false, false, false, false, false, false] #[true, true, true, false, false, false, false, false, true, false, false] rfl rfl rfl rfl (by kernel_rfl) (by decide) (by decide) (fun K hK => ?_) (fun K hK => ?_)
      · skip
        refine goes_ Try.func33 (by kernel_rfl) rfl #[.agg #[.int .i64 a1_0, .int .i64 a1_1, .int .i64 a1_2, .int .i64 a1_3, .int .i64 a1_4, .slice A1_5 l1_5.length c1_5]] (by rfl) rfl rfl (by simp only [List.map_toArray, List.map_cons, List.map_nil]; rfl) ?_
        with_reducible refine (laws_toStep.calls k a1_0 a1_1 a1_2 a1_3 a1_4 A1_5 c1_5 l1_5 x1_0 x1_1 x1_2 x1_3 x1_4 x1_5 _ (Kd.C_below HR1.out HB.out) HC1.out HT1.out).mono ?_
        rintro e w34 ⟨vt_, rfl, hr_, hb_⟩
        refine ⟨_, rfl, ?_⟩
        replace HB := Aside0.mk (below_then HB.out HB.out.size hb_)
        replace Kgb0 := Aside0.mk (blk_below Kgb0.out hb_)
        replace Kgb1 := Aside0.mk (blk_below Kgb1.out hb_)
        replace Kgw := Aside0.mk (blk_below Kgw.out hb_)
        replace Kgg := Aside0.mk (blk_below Kgg.out hb_)
        replace Rw := Aside0.mk (Kd.R_below Rw.out hb_)
        replace Rg := Aside0.mk (Kd.R_below Rg.out hb_)
        replace HT_0 := Aside0.mk (Kd.C_below HT_0.out hb_)
        replace HZh := Aside0.mk (Nat.le_trans HZh.out hb_.size)
        obtain ⟨At1, ct1, rfl, hl_, hC_⟩ := Kd.R_reads hr_
        have HT_1 := Aside0.mk hC_
        have HL_1 := Aside0.mk hl_
        clear hr_ hb_ hl_ hC_
        refine hK.out _ _ ⟨((blk_cell Kgb0.out 0).trans rfl), ((blk_cell Kgb0.out 1).trans rfl), ((blk_cell Kgb0.out 2).trans rfl), ((blk_cell Kgb0.out 3).trans rfl), ((blk_cell Kgb1.out 0).trans rfl), ((blk_cell Kgb1.out 1).trans rfl), ((blk_cell Kgb1.out 2).trans rfl), ((blk_cell Kgb1.out 3).trans rfl), ((blk_cell Kgb1.out 4).trans rfl), ((blk_cell Kgb1.out 5).trans rfl)⟩ (fun hHeld => ?_)
        clear hK K
        refine norm_ (a' := ?_) ?_ ?_
        rotate_left
        · show Act.put _ (some 98) _ = _
          simp only [Act.put, List.setIfInBounds_toArray, List.set_cons_zero, List.set_cons_succ, i64_w, i32_w]
          rfl
        refine two_ (i := 4) (j := 8) (Ni := some 99) (Nj := some 15) #[true, true, true, true, true, false, false, false, false, false, false] #[true, true, true, true, false, false, false, false, true, false, false] rfl rfl rfl rfl (by kernel_rfl) (by decide) (by decide) (fun K hK => ?_) (fun K hK => ?_)
        · skip
          refine goes_ Try.func22 (by kernel_rfl) rfl #[.agg #[.int .i64 x0_0, .int .i64 x0_1, .int .i64 x0_2, .slice At0 x0_3.length ct0], .agg #[.int .i64 x1_0, .int .i64 x1_1, .int .i64 x1_2, .int .i64 x1_3, .int .i64 x1_4, .slice At1 x1_5.length ct1]] (by rfl) rfl rfl (by simp only [List.map_toArray, List.map_cons, List.map_nil]; rfl) ?_
          with_reducible refine (impl_DoStep.calls x0_0 x0_1 x0_2 At0 ct0 x0_3 x1_0 x1_1 x1_2 x1_3 x1_4 At1 ct1 x1_5 v0 v1 v2 v3 vok _ HT_0.out HL_0.out HT_1.out HL_1.out HIM.out).mono ?_
          rintro e w35 ⟨vw_, rfl, hr_, hb_⟩
          refine ⟨_, rfl, ?_⟩
          have HZp_ := HZh
          have HBp_ := HB
          replace HB := Aside0.mk (below_then HB.out HB.out.size hb_)
          replace Kgb0 := Aside0.mk (blk_below Kgb0.out hb_)
          replace Kgb1 := Aside0.mk (blk_below Kgb1.out hb_)
          replace Kgw := Aside0.mk (blk_below Kgw.out hb_)
          replace Kgg := Aside0.mk (blk_below Kgg.out hb_)
          replace Rw := Aside0.mk (Kd.R_below Rw.out hb_)
          replace Rg := Aside0.mk (Kd.R_below Rg.out hb_)
          replace HT_0 := Aside0.mk (Kd.C_below HT_0.out hb_)
          replace HT_1 := Aside0.mk (Kd.C_below HT_1.out hb_)
          replace HZh := Aside0.mk (Nat.le_trans HZh.out hb_.size)
          have Rh := Aside0.mk (Kd.R_lower (Kd.R_mono (Kd.R_bound hr_) (fun k_ hk_ => (⟨Nat.le_trans HZp_.out hk_.2.1, hk_.2.2.1⟩ : w31.heap.size ≤ k_ ∧ k_ < w35.heap.size))) HBp_.out.size)
          clear hr_ hb_ HZp_ HBp_
          refine hK.out _ _ ⟨((blk_cell Kgb0.out 0).trans rfl), ((blk_cell Kgb0.out 1).trans rfl), ((blk_cell Kgb0.out 2).trans rfl), ((blk_cell Kgb0.out 3).trans rfl), ((blk_cell Kgb1.out 0).trans rfl), ((blk_cell Kgb1.out 1).trans rfl), ((blk_cell Kgb1.out 2).trans rfl), ((blk_cell Kgb1.out 3).trans rfl), ((blk_cell Kgb1.out 4).trans rfl), ((blk_cell Kgb1.out 5).trans rfl)⟩ (fun hHeld => ?_)
          clear hK K
          refine norm_ (a' := ?_) ?_ ?_
          rotate_left
          · show Act.put _ (some 99) _ = _
            simp only [Act.put, List.setIfInBounds_toArray, List.set_cons_zero, List.set_cons_succ, i64_w, i32_w]
            rfl
          refine pure_ (i := 5) (N := some 94) (v := ?_) (a' := ?_) #[true, true, true, true, true, true, false, false, false, false, false] rfl rfl (by kernel_rfl) (fun _ _ _ h => h) (Or.inl ⟨by rfl, ?_⟩) ?_ ?_
          rotate_left
          · intro w'
            go_simp
            with_reducible rfl
          rotate_left
          · simp only [Act.put, List.setIfInBounds_toArray, List.set_cons_zero, List.set_cons_succ, i64_w, i32_w]
            rfl
          refine pure_ (i := 6) (N := some 100) (v := ?_) (a' := ?_) #[true, true, true, true, true, true, true, false, false, false, false] rfl rfl (by kernel_rfl) (fun _ _ _ h => h) (Or.inl ⟨by rfl, ?_⟩) ?_ ?_
          rotate_left
          · intro w'
            go_simp
            with_reducible rfl
          rotate_left
          · simp only [Act.put, List.setIfInBounds_toArray, List.set_cons_zero, List.set_cons_succ, i64_w, i32_w]
            rfl
          refine pure_ (i := 7) (N := some 101) (v := ?_) (a' := ?_) #[true, true, true, true, true, true, true, true, false, false, false] rfl rfl (by kernel_rfl) (fun _ _ _ h => h) (Or.inl ⟨by rfl, ?_⟩) ?_ ?_
          rotate_left
          · intro w'
            go_simp
            with_reducible rfl
          rotate_left
          · simp only [Act.put, List.setIfInBounds_toArray, List.set_cons_zero, List.set_cons_succ, i64_w, i32_w]
            rfl
          refine one_ (i := 8) (N := some 15) #[true, true, true, true, true, true, true, true, true, false, false] rfl rfl (by kernel_rfl) (by decide) (fun K hK => ?_)
          refine value_ (w1 := ?_) (v := ?_) (by rfl) rfl ?_ ?_
          rotate_left 2
          · go_simp
            constructor
            · rfl
            · rfl
          replace HB := Aside0.mk (below_alloc HB.out (.cells #[.int .i64 0, .int .i64 0, .int .i64 0, .slice none 0 0] 28))
          replace Kgb0 := Aside0.mk (blk_alloc Kgb0.out (.cells #[.int .i64 0, .int .i64 0, .int .i64 0, .slice none 0 0] 28))
          replace Kgb1 := Aside0.mk (blk_alloc Kgb1.out (.cells #[.int .i64 0, .int .i64 0, .int .i64 0, .slice none 0 0] 28))
          replace Kgw := Aside0.mk (blk_alloc Kgw.out (.cells #[.int .i64 0, .int .i64 0, .int .i64 0, .slice none 0 0] 28))
          replace Kgg := Aside0.mk (blk_alloc Kgg.out (.cells #[.int .i64 0, .int .i64 0, .int .i64 0, .slice none 0 0] 28))
          replace Rw := Aside0.mk (Kd.R_alloc Rw.out (.cells #[.int .i64 0, .int .i64 0, .int .i64 0, .slice none 0 0] 28))
          replace Rg := Aside0.mk (Kd.R_alloc Rg.out (.cells #[.int .i64 0, .int .i64 0, .int .i64 0, .slice none 0 0] 28))
          replace HT_0 := Aside0.mk (Kd.C_alloc HT_0.out (.cells #[.int .i64 0, .int .i64 0, .int .i64 0, .slice none 0 0] 28))
          replace HT_1 := Aside0.mk (Kd.C_alloc HT_1.out (.cells #[.int .i64 0, .int .i64 0, .int .i64 0, .slice none 0 0] 28))
          replace Rh := Aside0.mk (Kd.R_mono (Kd.R_bound (Kd.R_alloc Rh.out (.cells #[.int .i64 0, .int .i64 0, .int .i64 0, .slice none 0 0] 28))) (fun k_ hk_ => (⟨hk_.1.1, hk_.2.2.1⟩ : w31.heap.size ≤ k_ ∧ k_ < (w35.alloc (.cells #[.int .i64 0, .int .i64 0, .int .i64 0, .slice none 0 0] 28)).heap.size)))
          have KA_ := Aside0.mk (blk_new w35 (.cells #[.int .i64 0, .int .i64 0, .int .i64 0, .slice none 0 0] 28 (0, 0)))
          have GA_ := HZh
          replace HZh := Aside0.mk (Nat.le_trans HZh.out (below_alloc (Below.refl _ _) (.cells #[.int .i64 0, .int .i64 0, .int .i64 0, .slice none 0 0] 28)).size)
          refine hK.out _ _ ⟨((blk_cell Kgb0.out 0).trans rfl), ((blk_cell Kgb0.out 1).trans rfl), ((blk_cell Kgb0.out 2).trans rfl), ((blk_cell Kgb0.out 3).trans rfl), ((blk_cell Kgb1.out 0).trans rfl), ((blk_cell Kgb1.out 1).trans rfl), ((blk_cell Kgb1.out 2).trans rfl), ((blk_cell Kgb1.out 3).trans rfl), ((blk_cell Kgb1.out 4).trans rfl), ((blk_cell Kgb1.out 5).trans rfl)⟩ (fun hHeld => ?_)
          clear hK K
          refine norm_ (a' := ?_) ?_ ?_
          rotate_left
          · show Act.put _ (some 15) _ = _
            simp only [Act.put, List.setIfInBounds_toArray, List.set_cons_zero, List.set_cons_succ, i64_w, i32_w]
            rfl
          exact norm_ (by first | (simp only [putAll, Act.put, List.setIfInBounds_toArray, List.set_cons_zero, List.set_cons_succ]; done) | (simp only [putAll, Act.put, List.setIfInBounds_toArray, List.set_cons_zero, List.set_cons_succ]; rfl)) (hCont (.slice At0 x0_3.length ct0, .slice At1 x1_5.length ct1, vw_, w35.heap.size) _ ⟨Rh.out, KA_.out, GA_.out, Kgb0.out, Kgb1.out, Kgw.out, Kgg.out, Rw.out, Rg.out, HB.out, HZh.out⟩)
        · skip
          refine value_ (w1 := ?_) (v := ?_) (by rfl) rfl ?_ ?_
          rotate_left 2
          · go_simp
            constructor
            · rfl
            · rfl
          replace HB := Aside0.mk (below_alloc HB.out (.cells #[.int .i64 0, .int .i64 0, .int .i64 0, .slice none 0 0] 28))
          replace Kgb0 := Aside0.mk (blk_alloc Kgb0.out (.cells #[.int .i64 0, .int .i64 0, .int .i64 0, .slice none 0 0] 28))
          replace Kgb1 := Aside0.mk (blk_alloc Kgb1.out (.cells #[.int .i64 0, .int .i64 0, .int .i64 0, .slice none 0 0] 28))
          replace Kgw := Aside0.mk (blk_alloc Kgw.out (.cells #[.int .i64 0, .int .i64 0, .int .i64 0, .slice none 0 0] 28))
          replace Kgg := Aside0.mk (blk_alloc Kgg.out (.cells #[.int .i64 0, .int .i64 0, .int .i64 0, .slice none 0 0] 28))
          replace Rw := Aside0.mk (Kd.R_alloc Rw.out (.cells #[.int .i64 0, .int .i64 0, .int .i64 0, .slice none 0 0] 28))
          replace Rg := Aside0.mk (Kd.R_alloc Rg.out (.cells #[.int .i64 0, .int .i64 0, .int .i64 0, .slice none 0 0] 28))
          replace HT_0 := Aside0.mk (Kd.C_alloc HT_0.out (.cells #[.int .i64 0, .int .i64 0, .int .i64 0, .slice none 0 0] 28))
          replace HT_1 := Aside0.mk (Kd.C_alloc HT_1.out (.cells #[.int .i64 0, .int .i64 0, .int .i64 0, .slice none 0 0] 28))
          have KA_ := Aside0.mk (blk_new w34 (.cells #[.int .i64 0, .int .i64 0, .int .i64 0, .slice none 0 0] 28 (0, 0)))
          have GA_ := HZh
          replace HZh := Aside0.mk (Nat.le_trans HZh.out (below_alloc (Below.refl _ _) (.cells #[.int .i64 0, .int .i64 0, .int .i64 0, .slice none 0 0] 28)).size)
          refine hK.out _ _ ⟨((blk_cell Kgb0.out 0).trans rfl), ((blk_cell Kgb0.out 1).trans rfl), ((blk_cell Kgb0.out 2).trans rfl), ((blk_cell Kgb0.out 3).trans rfl), ((blk_cell Kgb1.out 0).trans rfl), ((blk_cell Kgb1.out 1).trans rfl), ((blk_cell Kgb1.out 2).trans rfl), ((blk_cell Kgb1.out 3).trans rfl), ((blk_cell Kgb1.out 4).trans rfl), ((blk_cell Kgb1.out 5).trans rfl)⟩ (fun hHeld => ?_)
          clear hK K
          refine norm_ (a' := ?_) ?_ ?_
          rotate_left
          · show Act.put _ (some 15) _ = _
            simp only [Act.put, List.setIfInBounds_toArray, List.set_cons_zero, List.set_cons_succ, i64_w, i32_w]
            rfl
          refine one_ (i := 4) (N := some 99) #[true, true, true, true, true, false, false, false, true, false, false] rfl rfl (by kernel_rfl) (by decide) (fun K hK => ?_)
          refine goes_ Try.func22 (by kernel_rfl) rfl #[.agg #[.int .i64 x0_0, .int .i64 x0_1, .int .i64 x0_2, .slice At0 x0_3.length ct0], .agg #[.int .i64 x1_0, .int .i64 x1_1, .int .i64 x1_2, .int .i64 x1_3, .int .i64 x1_4, .slice At1 x1_5.length ct1]] (by rfl) rfl rfl (by simp only [List.map_toArray, List.map_cons, List.map_nil]; rfl) ?_
          with_reducible refine (impl_DoStep.calls x0_0 x0_1 x0_2 At0 ct0 x0_3 x1_0 x1_1 x1_2 x1_3 x1_4 At1 ct1 x1_5 v0 v1 v2 v3 vok _ HT_0.out HL_0.out HT_1.out HL_1.out HIM.out).mono ?_
          rintro e w38 ⟨vw_, rfl, hr_, hb_⟩
          refine ⟨_, rfl, ?_⟩
          have HZp_ := HZh
          have HBp_ := HB
          replace HB := Aside0.mk (below_then HB.out HB.out.size hb_)
          replace Kgb0 := Aside0.mk (blk_below Kgb0.out hb_)
          replace Kgb1 := Aside0.mk (blk_below Kgb1.out hb_)
          replace Kgw := Aside0.mk (blk_below Kgw.out hb_)
          replace Kgg := Aside0.mk (blk_below Kgg.out hb_)
          replace Rw := Aside0.mk (Kd.R_below Rw.out hb_)
          replace Rg := Aside0.mk (Kd.R_below Rg.out hb_)
          replace HT_0 := Aside0.mk (Kd.C_below HT_0.out hb_)
          replace HT_1 := Aside0.mk (Kd.C_below HT_1.out hb_)
          replace KA_ := Aside0.mk (blk_below KA_.out hb_)
          replace HZh := Aside0.mk (Nat.le_trans HZh.out hb_.size)
          have Rh := Aside0.mk (Kd.R_lower (Kd.R_mono (Kd.R_bound hr_) (fun k_ hk_ => (⟨Nat.le_trans HZp_.out hk_.2.1, hk_.2.2.1⟩ : w31.heap.size ≤ k_ ∧ k_ < w38.heap.size))) HBp_.out.size)
          clear hr_ hb_ HZp_ HBp_
          refine hK.out _ _ ⟨((blk_cell Kgb0.out 0).trans rfl), ((blk_cell Kgb0.out 1).trans rfl), ((blk_cell Kgb0.out 2).trans rfl), ((blk_cell Kgb0.out 3).trans rfl), ((blk_cell Kgb1.out 0).trans rfl), ((blk_cell Kgb1.out 1).trans rfl), ((blk_cell Kgb1.out 2).trans rfl), ((blk_cell Kgb1.out 3).trans rfl), ((blk_cell Kgb1.out 4).trans rfl), ((blk_cell Kgb1.out 5).trans rfl)⟩ (fun hHeld => ?_)
          clear hK K
          refine norm_ (a' := ?_) ?_ ?_
          rotate_left
          · show Act.put _ (some 99) _ = _
            simp only [Act.put, List.setIfInBounds_toArray, List.set_cons_zero, List.set_cons_succ, i64_w, i32_w]
            rfl
          refine pure_ (i := 5) (N := some 94) (v := ?_) (a' := ?_) #[true, true, true, true, true, true, false, false, true, false, false] rfl rfl (by kernel_rfl) (fun _ _ _ h => h) (Or.inl ⟨by rfl, ?_⟩) ?_ ?_
          rotate_left
          · intro w'
            go_simp
            with_reducible rfl
          rotate_left
          · simp only [Act.put, List.setIfInBounds_toArray, List.set_cons_zero, List.set_cons_succ, i64_w, i32_w]
            rfl
          refine pure_ (i := 6) (N := some 100) (v := ?_) (a' := ?_) #[true, true, true, true, true, true, true, false, true, false, false] rfl rfl (by kernel_rfl) (fun _ _ _ h => h) (Or.inl ⟨by rfl, ?_⟩) ?_ ?_
          rotate_left
          · intro w'
            go_simp
            with_reducible rfl
          rotate_left
          · simp only [Act.put, List.setIfInBounds_toArray, List.set_cons_zero, List.set_cons_succ, i64_w, i32_w]
            rfl
          refine pure_ (i := 7) (N := some 101) (v := ?_) (a' := ?_) #[true, true, true, true, true, true, true, true, true, false, false] rfl rfl (by kernel_rfl) (fun _ _ _ h => h) (Or.inl ⟨by rfl, ?_⟩) ?_ ?_
          rotate_left
          · intro w'
            go_simp
            with_reducible rfl
          rotate_left
          · simp only [Act.put, List.setIfInBounds_toArray, List.set_cons_zero, List.set_cons_succ, i64_w, i32_w]
            rfl
          exact norm_ (by first | (simp only [putAll, Act.put, List.setIfInBounds_toArray, List.set_cons_zero, List.set_cons_succ]; done) | (simp only [putAll, Act.put, List.setIfInBounds_toArray, List.set_cons_zero, List.set_cons_succ]; rfl)) (hCont (.slice At0 x0_3.length ct0, .slice At1 x1_5.length ct1, vw_, w34.heap.size) _ ⟨Rh.out, KA_.out, GA_.out, Kgb0.out, Kgb1.out, Kgw.out, Kgg.out, Rw.out, Rg.out, HB.out, HZh.out⟩)
      · skip
        refine value_ (w1 := ?_) (v := ?_) (by rfl) rfl ?_ ?_
        rotate_left 2
        · go_simp
          constructor
          · rfl
          · rfl
        replace HB := Aside0.mk (below_alloc HB.out (.cells #[.int .i64 0, .int .i64 0, .int .i64 0, .slice none 0 0] 28))
        replace Kgb0 := Aside0.mk (blk_alloc Kgb0.out (.cells #[.int .i64 0, .int .i64 0, .int .i64 0, .slice none 0 0] 28))
        replace Kgb1 := Aside0.mk (blk_alloc Kgb1.out (.cells #[.int .i64 0, .int .i64 0, .int .i64 0, .slice none 0 0] 28))
        replace Kgw := Aside0.mk (blk_alloc Kgw.out (.cells #[.int .i64 0, .int .i64 0, .int .i64 0, .slice none 0 0] 28))
        replace Kgg := Aside0.mk (blk_alloc Kgg.out (.cells #[.int .i64 0, .int .i64 0, .int .i64 0, .slice none 0 0] 28))
        replace Rw := Aside0.mk (Kd.R_alloc Rw.out (.cells #[.int .i64 0, .int .i64 0, .int .i64 0, .slice none 0 0] 28))
        replace Rg := Aside0.mk (Kd.R_alloc Rg.out (.cells #[.int .i64 0, .int .i64 0, .int .i64 0, .slice none 0 0] 28))
        replace HT_0 := Aside0.mk (Kd.C_alloc HT_0.out (.cells #[.int .i64 0, .int .i64 0, .int .i64 0, .slice none 0 0] 28))
        have KA_ := Aside0.mk (blk_new w33 (.cells #[.int .i64 0, .int .i64 0, .int .i64 0, .slice none 0 0] 28 (0, 0)))
        have GA_ := HZh
        replace HZh := Aside0.mk (Nat.le_trans HZh.out (below_alloc (Below.refl _ _) (.cells #[.int .i64 0, .int .i64 0, .int .i64 0, .slice none 0 0] 28)).size)
        refine hK.out _ _ ⟨((blk_cell Kgb0.out 0).trans rfl), ((blk_cell Kgb0.out 1).trans rfl), ((blk_cell Kgb0.out 2).trans rfl), ((blk_cell Kgb0.out 3).trans rfl), ((blk_cell Kgb1.out 0).trans rfl), ((blk_cell Kgb1.out 1).trans rfl), ((blk_cell Kgb1.out 2).trans rfl), ((blk_cell Kgb1.out 3).trans rfl), ((blk_cell Kgb1.out 4).trans rfl), ((blk_cell Kgb1.out 5).trans rfl)⟩ (fun hHeld => ?_)
        clear hK K
        refine norm_ (a' := ?_) ?_ ?_
        rotate_left
        · show Act.put _ (some 15) _ = _
          simp only [Act.put, List.setIfInBounds_toArray, List.set_cons_zero, List.set_cons_succ, i64_w, i32_w]
          rfl
        refine one_ (i := 3) (N := some 98) #[true, true, true, true, false, false, false, false, true, false, false] rfl rfl (by kernel_rfl) (by decide) (fun K hK => ?_)
        refine goes_ Try.func33 (by kernel_rfl) rfl #[.agg #[.int .i64 a1_0, .int .i64 a1_1, .int .i64 a1_2, .int .i64 a1_3, .int .i64 a1_4, .slice A1_5 l1_5.length c1_5]] (by rfl) rfl rfl (by simp only [List.map_toArray, List.map_cons, List.map_nil]; rfl) ?_
        with_reducible refine (laws_toStep.calls k a1_0 a1_1 a1_2 a1_3 a1_4 A1_5 c1_5 l1_5 x1_0 x1_1 x1_2 x1_3 x1_4 x1_5 _ (Kd.C_below HR1.out HB.out) HC1.out HT1.out).mono ?_
        rintro e w40 ⟨vt_, rfl, hr_, hb_⟩
        refine ⟨_, rfl, ?_⟩
        replace HB := Aside0.mk (below_then HB.out HB.out.size hb_)
        replace Kgb0 := Aside0.mk (blk_below Kgb0.out hb_)
        replace Kgb1 := Aside0.mk (blk_below Kgb1.out hb_)
        replace Kgw := Aside0.mk (blk_below Kgw.out hb_)
        replace Kgg := Aside0.mk (blk_below Kgg.out hb_)
        replace Rw := Aside0.mk (Kd.R_below Rw.out hb_)
        replace Rg := Aside0.mk (Kd.R_below Rg.out hb_)
        replace HT_0 := Aside0.mk (Kd.C_below HT_0.out hb_)
        replace KA_ := Aside0.mk (blk_below KA_.out hb_)
        replace HZh := Aside0.mk (Nat.le_trans HZh.out hb_.size)
        obtain ⟨At1, ct1, rfl, hl_, hC_⟩ := Kd.R_reads hr_
        have HT_1 := Aside0.mk hC_
        have HL_1 := Aside0.mk hl_
        clear hr_ hb_ hl_ hC_
        refine hK.out _ _ ⟨((blk_cell Kgb0.out 0).trans rfl), ((blk_cell Kgb0.out 1).trans rfl), ((blk_cell Kgb0.out 2).trans rfl), ((blk_cell Kgb0.out 3).trans rfl), ((blk_cell Kgb1.out 0).trans rfl), ((blk_cell Kgb1.out 1).trans rfl), ((blk_cell Kgb1.out 2).trans rfl), ((blk_cell Kgb1.out 3).trans rfl), ((blk_cell Kgb1.out 4).trans rfl), ((blk_cell Kgb1.out 5).trans rfl)⟩ (fun hHeld => ?_)
        clear hK K
        refine norm_ (a' := ?_) ?_ ?_
        rotate_left
        · show Act.put _ (some 98) _ = _
          simp only [Act.put, List.setIfInBounds_toArray, List.set_cons_zero, List.set_cons_succ, i64_w, i32_w]
          rfl
        refine one_ (i := 4) (N := some 99) #[true, true, true, true, true, false, false, false, true, false, false] rfl rfl (by kernel_rfl) (by decide) (fun K hK => ?_)
        refine goes_ Try.func22 (by kernel_rfl) rfl #[.agg #[.int .i64 x0_0, .int .i64 x0_1, .int .i64 x0_2, .slice At0 x0_3.length ct0], .agg #[.int .i64 x1_0, .int .i64 x1_1, .int .i64 x1_2, .int .i64 x1_3, .int .i64 x1_4, .slice At1 x1_5.length ct1]] (by rfl) rfl rfl (by simp only [List.map_toArray, List.map_cons, List.map_nil]; rfl) ?_
        with_reducible refine (impl_DoStep.calls x0_0 x0_1 x0_2 At0 ct0 x0_3 x1_0 x1_1 x1_2 x1_3 x1_4 At1 ct1 x1_5 v0 v1 v2 v3 vok _ HT_0.out HL_0.out HT_1.out HL_1.out HIM.out).mono ?_
        rintro e w41 ⟨vw_, rfl, hr_, hb_⟩
        refine ⟨_, rfl, ?_⟩
        have HZp_ := HZh
        have HBp_ := HB
        replace HB := Aside0.mk (below_then HB.out HB.out.size hb_)
        replace Kgb0 := Aside0.mk (blk_below Kgb0.out hb_)
        replace Kgb1 := Aside0.mk (blk_below Kgb1.out hb_)
        replace Kgw := Aside0.mk (blk_below Kgw.out hb_)
        replace Kgg := Aside0.mk (blk_below Kgg.out hb_)
        replace Rw := Aside0.mk (Kd.R_below Rw.out hb_)
        replace Rg := Aside0.mk (Kd.R_below Rg.out hb_)
        replace HT_0 := Aside0.mk (Kd.C_below HT_0.out hb_)
        replace HT_1 := Aside0.mk (Kd.C_below HT_1.out hb_)
        replace KA_ := Aside0.mk (blk_below KA_.out hb_)
        replace HZh := Aside0.mk (Nat.le_trans HZh.out hb_.size)
        have Rh := Aside0.mk (Kd.R_lower (Kd.R_mono (Kd.R_bound hr_) (fun k_ hk_ => (⟨Nat.le_trans HZp_.out hk_.2.1, hk_.2.2.1⟩ : w31.heap.size ≤ k_ ∧ k_ < w41.heap.size))) HBp_.out.size)
        clear hr_ hb_ HZp_ HBp_
        refine hK.out _ _ ⟨((blk_cell Kgb0.out 0).trans rfl), ((blk_cell Kgb0.out 1).trans rfl), ((blk_cell Kgb0.out 2).trans rfl), ((blk_cell Kgb0.out 3).trans rfl), ((blk_cell Kgb1.out 0).trans rfl), ((blk_cell Kgb1.out 1).trans rfl), ((blk_cell Kgb1.out 2).trans rfl), ((blk_cell Kgb1.out 3).trans rfl), ((blk_cell Kgb1.out 4).trans rfl), ((blk_cell Kgb1.out 5).trans rfl)⟩ (fun hHeld => ?_)
        clear hK K
        refine norm_ (a' := ?_) ?_ ?_
        rotate_left
        · show Act.put _ (some 99) _ = _
          simp only [Act.put, List.setIfInBounds_toArray, List.set_cons_zero, List.set_cons_succ, i64_w, i32_w]
          rfl
        refine pure_ (i := 5) (N := some 94) (v := ?_) (a' := ?_) #[true, true, true, true, true, true, false, false, true, false, false] rfl rfl (by kernel_rfl) (fun _ _ _ h => h) (Or.inl ⟨by rfl, ?_⟩) ?_ ?_
        rotate_left
        · intro w'
          go_simp
          with_reducible rfl
        rotate_left
        · simp only [Act.put, List.setIfInBounds_toArray, List.set_cons_zero, List.set_cons_succ, i64_w, i32_w]
          rfl
        refine pure_ (i := 6) (N := some 100) (v := ?_) (a' := ?_) #[true, true, true, true, true, true, true, false, true, false, false] rfl rfl (by kernel_rfl) (fun _ _ _ h => h) (Or.inl ⟨by rfl, ?_⟩) ?_ ?_
        rotate_left
        · intro w'
          go_simp
          with_reducible rfl
        rotate_left
        · simp only [Act.put, List.setIfInBounds_toArray, List.set_cons_zero, List.set_cons_succ, i64_w, i32_w]
          rfl
        refine pure_ (i := 7) (N := some 101) (v := ?_) (a' := ?_) #[true, true, true, true, true, true, true, true, true, false, false] rfl rfl (by kernel_rfl) (fun _ _ _ h => h) (Or.inl ⟨by rfl, ?_⟩) ?_ ?_
        rotate_left
        · intro w'
          go_simp
          with_reducible rfl
        rotate_left
        · simp only [Act.put, List.setIfInBounds_toArray, List.set_cons_zero, List.set_cons_succ, i64_w, i32_w]
          rfl
        exact norm_ (by first | (simp only [putAll, Act.put, List.setIfInBounds_toArray, List.set_cons_zero, List.set_cons_succ]; done) | (simp only [putAll, Act.put, List.setIfInBounds_toArray, List.set_cons_zero, List.set_cons_succ]; rfl)) (hCont (.slice At0 x0_3.length ct0, .slice At1 x1_5.length ct1, vw_, w33.heap.size) _ ⟨Rh.out, KA_.out, GA_.out, Kgb0.out, Kgb1.out, Kgw.out, Kgg.out, Rw.out, Rg.out, HB.out, HZh.out⟩)
    · skip
      refine value_ (w1 := ?_) (v := ?_) (by rfl) rfl ?_ ?_
      rotate_left 2
      · go_simp
        constructor
        · rfl
        · rfl
      replace HB := Aside0.mk (below_alloc HB.out (.cells #[.int .i64 0, .int .i64 0, .int .i64 0, .slice none 0 0] 28))
      replace Kgb0 := Aside0.mk (blk_alloc Kgb0.out (.cells #[.int .i64 0, .int .i64 0, .int .i64 0, .slice none 0 0] 28))
      replace Kgb1 := Aside0.mk (blk_alloc Kgb1.out (.cells #[.int .i64 0, .int .i64 0, .int .i64 0, .slice none 0 0] 28))
      replace Kgw := Aside0.mk (blk_alloc Kgw.out (.cells #[.int .i64 0, .int .i64 0, .int .i64 0, .slice none 0 0] 28))
      replace Kgg := Aside0.mk (blk_alloc Kgg.out (.cells #[.int .i64 0, .int .i64 0, .int .i64 0, .slice none 0 0] 28))
      replace Rw := Aside0.mk (Kd.R_alloc Rw.out (.cells #[.int .i64 0, .int .i64 0, .int .i64 0, .slice none 0 0] 28))
      replace Rg := Aside0.mk (Kd.R_alloc Rg.out (.cells #[.int .i64 0, .int .i64 0, .int .i64 0, .slice none 0 0] 28))
      have KA_ := Aside0.mk (blk_new w31.drew (.cells #[.int .i64 0, .int .i64 0, .int .i64 0, .slice none 0 0] 28 (0, 0)))
      have GA_ := HZh
      replace HZh := Aside0.mk (Nat.le_trans HZh.out (below_alloc (Below.refl _ _) (.cells #[.int .i64 0, .int .i64 0, .int .i64 0, .slice none 0 0] 28)).size)
      refine hK.out _ _ ⟨((blk_cell Kgb0.out 0).trans rfl), ((blk_cell Kgb0.out 1).trans rfl), ((blk_cell Kgb0.out 2).trans rfl), ((blk_cell Kgb0.out 3).trans rfl), ((blk_cell Kgb1.out 0).trans rfl), ((blk_cell Kgb1.out 1).trans rfl), ((blk_cell Kgb1.out 2).trans rfl), ((blk_cell Kgb1.out 3).trans rfl), ((blk_cell Kgb1.out 4).trans rfl), ((blk_cell Kgb1.out 5).trans rfl)⟩ (fun hHeld => ?_)
      clear hK K
      refine norm_ (a' := ?_) ?_ ?_
      rotate_left
      · show Act.put _ (some 15) _ = _
        simp only [Act.put, List.setIfInBounds_toArray, List.set_cons_zero, List.set_cons_succ, i64_w, i32_w]
        rfl
      refine one_ (i := 1) (N := some 96) #[true, true, true, false, false, false, false, false, true, false, false] rfl rfl (by kernel_rfl) (by decide) (fun K hK => ?_)
      refine goes_ Try.func13 (by kernel_rfl) rfl #[.agg #[.int .i64 a0_0, .int .i64 a0_1, .int .i64 a0_2, .slice A0_3 l0_3.length c0_3]] (by rfl) rfl rfl (by simp only [List.map_toArray, List.map_cons, List.map_nil]; rfl) ?_
      refine (laws_toImage.calls k a0_0 a0_1 a0_2 A0_3 c0_3 l0_3 x0_0 x0_1 x0_2 x0_3 _ (Kd.C_below HR0.out HB.out) HC0.out HT0.out).mono ?_
      rintro e w43 ⟨vt_, rfl, hr_, hb_⟩
      refine ⟨_, rfl, ?_⟩
      replace HB := Aside0.mk (below_then HB.out HB.out.size hb_)
      replace Kgb0 := Aside0.mk (blk_below Kgb0.out hb_)
      replace Kgb1 := Aside0.mk (blk_below Kgb1.out hb_)
      replace Kgw := Aside0.mk (blk_below Kgw.out hb_)
      replace Kgg := Aside0.mk (blk_below Kgg.out hb_)
      replace Rw := Aside0.mk (Kd.R_below Rw.out hb_)
      replace Rg := Aside0.mk (Kd.R_below Rg.out hb_)
      replace KA_ := Aside0.mk (blk_below KA_.out hb_)
      replace HZh := Aside0.mk (Nat.le_trans HZh.out hb_.size)
      obtain ⟨At0, ct0, rfl, hl_, hC_⟩ := Kd.R_reads hr_
      have HT_0 := Aside0.mk hC_
      have HL_0 := Aside0.mk hl_
      clear hr_ hb_ hl_ hC_
      refine hK.out _ _ ⟨((blk_cell Kgb0.out 0).trans rfl), ((blk_cell Kgb0.out 1).trans rfl), ((blk_cell Kgb0.out 2).trans rfl), ((blk_cell Kgb0.out 3).trans rfl), ((blk_cell Kgb1.out 0).trans rfl), ((blk_cell Kgb1.out 1).trans rfl), ((blk_cell Kgb1.out 2).trans rfl), ((blk_cell Kgb1.out 3).trans rfl), ((blk_cell Kgb1.out 4).trans rfl), ((blk_cell Kgb1.out 5).trans rfl)⟩ (fun hHeld => ?_)
      clear hK K
      refine norm_ (a' := ?_) ?_ ?_
      rotate_left
      · show Act.put _ (some 96) _ = _
        simp only [Act.put, List.setIfInBounds_toArray, List.set_cons_zero, List.set_cons_succ, i64_w, i32_w]
        rfl
      refine one_ (i := 3) (N := some 98) #[true, true, true, true, false, false, false, false, true, false, false] rfl rfl (by kernel_rfl) (by decide) (fun K hK => ?_)
      refine goes_ Try.func33 (by kernel_rfl) rfl #[.agg #[.int .i64 a1_0, .int .i64 a1_1, .int .i64 a1_2, .int .i64 a1_3, .int .i64 a1_4, .slice A1_5 l1_5.length c1_5]] (by rfl) rfl rfl (by simp only [List.map_toArray, List.map_cons, List.map_nil]; rfl) ?_
      with_reducible refine (laws_toStep.calls k a1_0 a1_1 a1_2 a1_3 a1_4 A1_5 c1_5 l1_5 x1_0 x1_1 x1_2 x1_3 x1_4 x1_5 _ (Kd.C_below HR1.out HB.out) HC1.out HT1.out).mono ?_
      rintro e w44 ⟨vt_, rfl, hr_, hb_⟩
      refine ⟨_, rfl, ?_⟩
      replace HB := Aside0.mk (below_then HB.out HB.out.size hb_)
      replace Kgb0 := Aside0.mk (blk_below Kgb0.out hb_)
      replace Kgb1 := Aside0.mk (blk_below Kgb1.out hb_)
      replace Kgw := Aside0.mk (blk_below Kgw.out hb_)
      replace Kgg := Aside0.mk (blk_below Kgg.out hb_)
      replace Rw := Aside0.mk (Kd.R_below Rw.out hb_)
      replace Rg := Aside0.mk (Kd.R_below Rg.out hb_)
      replace HT_0 := Aside0.mk (Kd.C_below HT_0.out hb_)
      replace KA_ := Aside0.mk (blk_below KA_.out hb_)
      replace HZh := Aside0.mk (Nat.le_trans HZh.out hb_.size)
      obtain ⟨At1, ct1, rfl, hl_, hC_⟩ := Kd.R_reads hr_
      have HT_1 := Aside0.mk hC_
      have HL_1 := Aside0.mk hl_
      clear hr_ hb_ hl_ hC_
      refine hK.out _ _ ⟨((blk_cell Kgb0.out 0).trans rfl), ((blk_cell Kgb0.out 1).trans rfl), ((blk_cell Kgb0.out 2).trans rfl), ((blk_cell Kgb0.out 3).trans rfl), ((blk_cell Kgb1.out 0).trans rfl), ((blk_cell Kgb1.out 1).trans rfl), ((blk_cell Kgb1.out 2).trans rfl), ((blk_cell Kgb1.out 3).trans rfl), ((blk_cell Kgb1.out 4).trans rfl), ((blk_cell Kgb1.out 5).trans rfl)⟩ (fun hHeld => ?_)
      clear hK K
      refine norm_ (a' := ?_) ?_ ?_
      rotate_left
      · show Act.put _ (some 98) _ = _
        simp only [Act.put, List.setIfInBounds_toArray, List.set_cons_zero, List.set_cons_succ, i64_w, i32_w]
        rfl
      refine one_ (i := 4) (N := some 99) #[true, true, true, true, true, false, false, false, true, false, false] rfl rfl (by kernel_rfl) (by decide) (fun K hK => ?_)
      refine goes_ Try.func22 (by kernel_rfl) rfl #[.agg #[.int .i64 x0_0, .int .i64 x0_1, .int .i64 x0_2, .slice At0 x0_3.length ct0], .agg #[.int .i64 x1_0, .int .i64 x1_1, .int .i64 x1_2, .int .i64 x1_3, .int .i64 x1_4, .slice At1 x1_5.length ct1]] (by rfl) rfl rfl (by simp only [List.map_toArray, List.map_cons, List.map_nil]; rfl) ?_
      with_reducible refine (impl_DoStep.calls x0_0 x0_1 x0_2 At0 ct0 x0_3 x1_0 x1_1 x1_2 x1_3 x1_4 At1 ct1 x1_5 v0 v1 v2 v3 vok _ HT_0.out HL_0.out HT_1.out HL_1.out HIM.out).mono ?_
      rintro e w45 ⟨vw_, rfl, hr_, hb_⟩
      refine ⟨_, rfl, ?_⟩
      have HZp_ := HZh
      have HBp_ := HB
      replace HB := Aside0.mk (below_then HB.out HB.out.size hb_)
      replace Kgb0 := Aside0.mk (blk_below Kgb0.out hb_)
      replace Kgb1 := Aside0.mk (blk_below Kgb1.out hb_)
      replace Kgw := Aside0.mk (blk_below Kgw.out hb_)
      replace Kgg := Aside0.mk (blk_below Kgg.out hb_)
      replace Rw := Aside0.mk (Kd.R_below Rw.out hb_)
      replace Rg := Aside0.mk (Kd.R_below Rg.out hb_)
      replace HT_0 := Aside0.mk (Kd.C_below HT_0.out hb_)
      replace HT_1 := Aside0.mk (Kd.C_below HT_1.out hb_)
      replace KA_ := Aside0.mk (blk_below KA_.out hb_)
      replace HZh := Aside0.mk (Nat.le_trans HZh.out hb_.size)
      have Rh := Aside0.mk (Kd.R_lower (Kd.R_mono (Kd.R_bound hr_) (fun k_ hk_ => (⟨Nat.le_trans HZp_.out hk_.2.1, hk_.2.2.1⟩ : w31.heap.size ≤ k_ ∧ k_ < w45.heap.size))) HBp_.out.size)
      clear hr_ hb_ HZp_ HBp_
      refine hK.out _ _ ⟨((blk_cell Kgb0.out 0).trans rfl), ((blk_cell Kgb0.out 1).trans rfl), ((blk_cell Kgb0.out 2).trans rfl), ((blk_cell Kgb0.out 3).trans rfl), ((blk_cell Kgb1.out 0).trans rfl), ((blk_cell Kgb1.out 1).trans rfl), ((blk_cell Kgb1.out 2).trans rfl), ((blk_cell Kgb1.out 3).trans rfl), ((blk_cell Kgb1.out 4).trans rfl), ((blk_cell Kgb1.out 5).trans rfl)⟩ (fun hHeld => ?_)
      clear hK K
      refine norm_ (a' := ?_) ?_ ?_
      rotate_left
      · show Act.put _ (some 99) _ = _
        simp only [Act.put, List.setIfInBounds_toArray, List.set_cons_zero, List.set_cons_succ, i64_w, i32_w]
        rfl
      refine pure_ (i := 5) (N := some 94) (v := ?_) (a' := ?_) #[true, true, true, true, true, true, false, false, true, false, false] rfl rfl (by kernel_rfl) (fun _ _ _ h => h) (Or.inl ⟨by rfl, ?_⟩) ?_ ?_
      rotate_left
      · intro w'
        go_simp
        with_reducible rfl
      rotate_left
      · simp only [Act.put, List.setIfInBounds_toArray, List.set_cons_zero, List.set_cons_succ, i64_w, i32_w]
        rfl
      refine pure_ (i := 6) (N := some 100) (v := ?_) (a' := ?_) #[true, true, true, true, true, true, true, false, true, false, false] rfl rfl (by kernel_rfl) (fun _ _ _ h => h) (Or.inl ⟨by rfl, ?_⟩) ?_ ?_
      rotate_left
      · intro w'
        go_simp
        with_reducible rfl
      rotate_left
      · simp only [Act.put, List.setIfInBounds_toArray, List.set_cons_zero, List.set_cons_succ, i64_w, i32_w]
        rfl
      refine pure_ (i := 7) (N := some 101) (v := ?_) (a' := ?_) #[true, true, true, true, true, true, true, true, true, false, false] rfl rfl (by kernel_rfl) (fun _ _ _ h => h) (Or.inl ⟨by rfl, ?_⟩) ?_ ?_
      rotate_left
      · intro w'
        go_simp
        with_reducible rfl
      rotate_left
      · simp only [Act.put, List.setIfInBounds_toArray, List.set_cons_zero, List.set_cons_succ, i64_w, i32_w]
        rfl
      exact norm_ (by first | (simp only [putAll, Act.put, List.setIfInBounds_toArray, List.set_cons_zero, List.set_cons_succ]; done) | (simp only [putAll, Act.put, List.setIfInBounds_toArray, List.set_cons_zero, List.set_cons_succ]; rfl)) (hCont (.slice At0 x0_3.length ct0, .slice At1 x1_5.length ct1, vw_, w31.drew.heap.size) _ ⟨Rh.out, KA_.out, GA_.out, Kgb0.out, Kgb1.out, Kgw.out, Kgg.out, Rw.out, Rg.out, HB.out, HZh.out⟩)
  rintro ⟨vt0_h, vt1_h, vvh, gh⟩ w32 ⟨hR_, hA_, hg_, hk_0, hk_1, hk_2, hk_3, hr_0, hr_1, hB_, hZ_⟩
  dsimp only at hR_ hA_ hg_
  obtain ⟨Ah, ch, ev_⟩ := Kd.R_slice hR_
  subst ev_
  have Rh := Aside0.mk hR_
  have Kgh := Aside0.mk hA_
  have Zgh := Aside0.mk hg_
  have HB := Aside0.mk hB_
  have HZh := Aside0.mk hZ_
  have Kgb0 := Aside0.mk hk_0
  have Kgb1 := Aside0.mk hk_1
  have Kgw := Aside0.mk hk_2
  have Kgg := Aside0.mk hk_3
  have Rw := Aside0.mk hr_0
  have Rg := Aside0.mk hr_1
  clear hR_ hA_ hg_ hB_ hZ_ hk_0 hk_1 hk_2 hk_3 hr_0 hr_1
  have hHeld : w32.cell? ⟨gb0, 0, none⟩ = some (.int .i64 a0_0) ∧ w32.cell? ⟨gb0, 1, none⟩ = some (.int .i64 a0_1) ∧ w32.cell? ⟨gb0, 2, none⟩ = some (.int .i64 a0_2) ∧ w32.cell? ⟨gb0, 3, none⟩ = some (.slice A0_3 l0_3.length c0_3) ∧ w32.cell? ⟨gb1, 0, none⟩ = some (.int .i64 a1_0) ∧ w32.cell? ⟨gb1, 1, none⟩ = some (.int .i64 a1_1) ∧ w32.cell? ⟨gb1, 2, none⟩ = some (.int .i64 a1_2) ∧ w32.cell? ⟨gb1, 3, none⟩ = some (.int .i64 a1_3) ∧ w32.cell? ⟨gb1, 4, none⟩ = some (.int .i64 a1_4) ∧ w32.cell? ⟨gb1, 5, none⟩ = some (.slice A1_5 l1_5.length c1_5) := ⟨((blk_cell Kgb0.out 0).trans rfl), ((blk_cell Kgb0.out 1).trans rfl), ((blk_cell Kgb0.out 2).trans rfl), ((blk_cell Kgb0.out 3).trans rfl), ((blk_cell Kgb1.out 0).trans rfl), ((blk_cell Kgb1.out 1).trans rfl), ((blk_cell Kgb1.out 2).trans rfl), ((blk_cell Kgb1.out 3).trans rfl), ((blk_cell Kgb1.out 4).trans rfl), ((blk_cell Kgb1.out 5).trans rfl)⟩
  refine norm_ (a' := ?_) ?_ ?_
  rotate_left
  · simp only [putAll, Act.put, List.setIfInBounds_toArray, List.set_cons_zero, List.set_cons_succ]
    rfl
  refine one_ (i := 9) (N := none) #[true, true, true, true, true, true, true, true, true, true, false] rfl rfl (by kernel_rfl) (by decide) (fun K hK => ?_)
  have qgh0 := blk_frozen Kgh.out 0
  have qgh1 := blk_frozen Kgh.out 1
  have qgh2 := blk_frozen Kgh.out 2
  have qgh3 := blk_frozen Kgh.out 3
  have cgh0 := (blk_cell Kgh.out 0).trans rfl
  have cgh1 := (blk_cell Kgh.out 1).trans rfl
  have cgh2 := (blk_cell Kgh.out 2).trans rfl
  have cgh3 := (blk_cell Kgh.out 3).trans rfl
  refine skip_ (w1 := ?_) (by rfl) rfl ?_ ?_
  rotate_left
  · go_simp
    rfl
  clear qgh0 cgh0 qgh1 cgh1 qgh2 cgh2 qgh3 cgh3
  have Kgb0_ := Aside0.mk (blk_far (p := ⟨gh, 3, none⟩) (blk_far (p := ⟨gh, 2, none⟩) (blk_far (p := ⟨gh, 1, none⟩) (blk_far (p := ⟨gh, 0, none⟩) Kgb0.out (show gb0 ≠ gh by have := Zgh.out; have := QKgb0.out; omega) (.int .i64 v0)) (show gb0 ≠ gh by have := Zgh.out; have := QKgb0.out; omega) (.int .i64 v1)) (show gb0 ≠ gh by have := Zgh.out; have := QKgb0.out; omega) (.int .i64 v2)) (show gb0 ≠ gh by have := Zgh.out; have := QKgb0.out; omega) (.slice Ah v3.length ch))
  have Kgb1_ := Aside0.mk (blk_far (p := ⟨gh, 3, none⟩) (blk_far (p := ⟨gh, 2, none⟩) (blk_far (p := ⟨gh, 1, none⟩) (blk_far (p := ⟨gh, 0, none⟩) Kgb1.out (show gb1 ≠ gh by have := Zgh.out; have := QKgb1.out; omega) (.int .i64 v0)) (show gb1 ≠ gh by have := Zgh.out; have := QKgb1.out; omega) (.int .i64 v1)) (show gb1 ≠ gh by have := Zgh.out; have := QKgb1.out; omega) (.int .i64 v2)) (show gb1 ≠ gh by have := Zgh.out; have := QKgb1.out; omega) (.slice Ah v3.length ch))
  have Kgw_ := Aside0.mk (blk_far (p := ⟨gh, 3, none⟩) (blk_far (p := ⟨gh, 2, none⟩) (blk_far (p := ⟨gh, 1, none⟩) (blk_far (p := ⟨gh, 0, none⟩) Kgw.out (show gw ≠ gh by have := Zgh.out; have := QKgw.out; omega) (.int .i64 v0)) (show gw ≠ gh by have := Zgh.out; have := QKgw.out; omega) (.int .i64 v1)) (show gw ≠ gh by have := Zgh.out; have := QKgw.out; omega) (.int .i64 v2)) (show gw ≠ gh by have := Zgh.out; have := QKgw.out; omega) (.slice Ah v3.length ch))
  have Kgg_ := Aside0.mk (blk_far (p := ⟨gh, 3, none⟩) (blk_far (p := ⟨gh, 2, none⟩) (blk_far (p := ⟨gh, 1, none⟩) (blk_far (p := ⟨gh, 0, none⟩) Kgg.out (show gg ≠ gh by have := Zgh.out; have := QKgg.out; omega) (.int .i64 v0)) (show gg ≠ gh by have := Zgh.out; have := QKgg.out; omega) (.int .i64 v1)) (show gg ≠ gh by have := Zgh.out; have := QKgg.out; omega) (.int .i64 v2)) (show gg ≠ gh by have := Zgh.out; have := QKgg.out; omega) (.slice Ah v3.length ch))
  refine hK.out _ _ ⟨((blk_cell Kgb0_.out 0).trans rfl), ((blk_cell Kgb0_.out 1).trans rfl), ((blk_cell Kgb0_.out 2).trans rfl), ((blk_cell Kgb0_.out 3).trans rfl), ((blk_cell Kgb1_.out 0).trans rfl), ((blk_cell Kgb1_.out 1).trans rfl), ((blk_cell Kgb1_.out 2).trans rfl), ((blk_cell Kgb1_.out 3).trans rfl), ((blk_cell Kgb1_.out 4).trans rfl), ((blk_cell Kgb1_.out 5).trans rfl)⟩ (fun hHeld => ?_)
  clear hK K
  refine pure_ (i := 10) (N := some 16) (v := ?_) (a' := ?_) #[true, true, true, true, true, true, true, true, true, true, true] rfl rfl (by kernel_rfl) (fun _ _ _ h => h) (Or.inl ⟨by rfl, ?_⟩) ?_ ?_
  rotate_left
  · intro w'
    go_simp
    with_reducible rfl
  rotate_left
  · simp only [Act.put, List.setIfInBounds_toArray, List.set_cons_zero, List.set_cons_succ, i64_w, i32_w]
    rfl
  refine done_ (by kernel_rfl) ?_
  obtain ⟨w46, hw46⟩ : ∃ W, W = ((((w32.setCell ⟨gh, 0, none⟩ (.int .i64 v0)).setCell ⟨gh, 1, none⟩ (.int .i64 v1)).setCell ⟨gh, 2, none⟩ (.int .i64 v2)).setCell ⟨gh, 3, none⟩ (.slice Ah v3.length ch)) := ⟨_, rfl⟩
  rw [← hw46]
  have HGgh := Aside0.mk (Nat.le_trans HB.out.size (Nat.le_refl _))
  replace HB := Aside0.mk (show Below w.heap.size w w46 from by rw [hw46]; exact (below_set (below_set (below_set (below_set HB.out (Nat.le_trans HBSh.out Zgh.out)) (Nat.le_trans HBSh.out Zgh.out)) (Nat.le_trans HBSh.out Zgh.out)) (Nat.le_trans HBSh.out Zgh.out)))
  have NZh := Aside0.mk (show w31.heap.size ≤ w46.heap.size from by rw [hw46]; exact Nat.le_trans HZh.out (by simp [World.setCell]))
  have ZLgh := Aside0.mk (show gh < w46.heap.size from by rw [hw46]; exact Nat.lt_of_lt_of_le (blk_lt Kgh.out) (by simp [World.setCell]))
  replace Rh := Aside0.mk (show Kd.R (Kd.int .i64) 3 w46 w.heap.size (fun k_ => w31.heap.size ≤ k_ ∧ k_ < w46.heap.size) (.slice Ah v3.length ch) v3 from by rw [hw46]; exact Kd.R_mono (Kd.R_far (Kd.R_far (Kd.R_far (Kd.R_far (Kd.R_types Rh.out Kgh.out (by decide)) (fun k hk => hk.2) _) (fun k hk => hk.2) _) (fun k hk => hk.2) _) (fun k hk => hk.2) _) (fun k hk => ⟨hk.1.1, Nat.lt_of_lt_of_le hk.1.2 (by simp [World.setCell])⟩))
  replace Rw := Aside0.mk (show Kd.R (Kd.int .i64) 3 w46 w.heap.size (fun k_ => wz1.heap.size ≤ k_ ∧ k_ < w15.heap.size) (.slice Aw v3.length cw) v3 from by rw [hw46]; exact Kd.R_mono (Kd.R_far (Kd.R_far (Kd.R_far (Kd.R_far (Kd.R_types Rw.out Kgh.out (by decide)) (fun k hk => hk.2) _) (fun k hk => hk.2) _) (fun k hk => hk.2) _) (fun k hk => hk.2) _) (fun k hk => hk.1))
  replace Rg := Aside0.mk (show Kd.R (Kd.int .i64) 3 w46 w.heap.size (fun k_ => 0 ≤ k_ ∧ k_ < w30.heap.size) (.slice Ag u.length cg) u from by rw [hw46]; exact Kd.R_mono (Kd.R_far (Kd.R_far (Kd.R_far (Kd.R_far (Kd.R_types Rg.out Kgh.out (by decide)) (fun k hk => hk.2) _) (fun k hk => hk.2) _) (fun k hk => hk.2) _) (fun k hk => hk.2) _) (fun k hk => hk.1))
  replace Kgb0 := Aside0.mk (show w46.heap[gb0]? = some (.cells #[.int .i64 a0_0, .int .i64 a0_1, .int .i64 a0_2, .slice A0_3 l0_3.length c0_3] 24 (0, 0)) from by rw [hw46]; exact Kgb0_.out)
  replace Kgb1 := Aside0.mk (show w46.heap[gb1]? = some (.cells #[.int .i64 a1_0, .int .i64 a1_1, .int .i64 a1_2, .int .i64 a1_3, .int .i64 a1_4, .slice A1_5 l1_5.length c1_5] 57 (0, 0)) from by rw [hw46]; exact Kgb1_.out)
  replace Kgw := Aside0.mk (show w46.heap[gw]? = some (.cells #[.int .i64 v0, .int .i64 v1, .int .i64 v2, .slice Aw v3.length cw] 28 (0, 0)) from by rw [hw46]; exact Kgw_.out)
  replace Kgg := Aside0.mk (show w46.heap[gg]? = some (.cells #[.int .i64 v0, .int .i64 v1, .int .i64 v2, .slice Ag u.length cg] 28 (0, 0)) from by rw [hw46]; exact Kgg_.out)
  replace Kgh := Aside0.mk (show w46.heap[gh]? = some (.cells #[.int .i64 v0, .int .i64 v1, .int .i64 v2, .slice Ah v3.length ch] 28 (0, 0)) from by rw [hw46]; refine blk_put (cs := #[.int .i64 v0, .int .i64 v1, .int .i64 v2, .slice none 0 0]) ?_ 3 _ rfl; refine blk_put (cs := #[.int .i64 v0, .int .i64 v1, .int .i64 0, .slice none 0 0]) ?_ 2 _ rfl; refine blk_put (cs := #[.int .i64 v0, .int .i64 0, .int .i64 0, .slice none 0 0]) ?_ 1 _ rfl; refine blk_put (cs := #[.int .i64 0, .int .i64 0, .int .i64 0, .slice none 0 0]) ?_ 0 _ rfl; exact Kgh.out)
  clear hw46
  have cghw46_0 : w46.cell? ⟨gh, 0, none⟩ = some (.int .i64 v0) := (blk_cell Kgh.out 0).trans rfl; have cghw46_1 : w46.cell? ⟨gh, 1, none⟩ = some (.int .i64 v1) := (blk_cell Kgh.out 1).trans rfl; have cghw46_2 : w46.cell? ⟨gh, 2, none⟩ = some (.int .i64 v2) := (blk_cell Kgh.out 2).trans rfl; have cghw46_3 : w46.cell? ⟨gh, 3, none⟩ = some (.slice Ah v3.length ch) := (blk_cell Kgh.out 3).trans rfl
  have cgww46_0 : w46.cell? ⟨gw, 0, none⟩ = some (.int .i64 v0) := (blk_cell Kgw.out 0).trans rfl; have cgww46_1 : w46.cell? ⟨gw, 1, none⟩ = some (.int .i64 v1) := (blk_cell Kgw.out 1).trans rfl; have cgww46_2 : w46.cell? ⟨gw, 2, none⟩ = some (.int .i64 v2) := (blk_cell Kgw.out 2).trans rfl; have cgww46_3 : w46.cell? ⟨gw, 3, none⟩ = some (.slice Aw v3.length cw) := (blk_cell Kgw.out 3).trans rfl
  go_upto_region 34 with (first
    | (go_at_call 16; (with_reducible refine (laws_eqImage.calls k v0 v1 v2 Ah ch v3 v0 v1 v2 Aw cw v3 true w46 (Kd.R_reads' Rh.out).2.2 (Kd.R_reads' Rh.out).2.1 (Kd.R_reads' Rw.out).2.2 (Kd.R_reads' Rw.out).2.1 HEV.out rfl).mono ?_); rintro e w47 ⟨rfl, hb⟩; replace HB := Aside0.mk (below_then HB.out HB.out.size hb); replace Kgb0 := Aside0.mk (blk_below Kgb0.out hb); replace Kgb1 := Aside0.mk (blk_below Kgb1.out hb); replace Kgw := Aside0.mk (blk_below Kgw.out hb); replace Kgg := Aside0.mk (blk_below Kgg.out hb); replace Kgh := Aside0.mk (blk_below Kgh.out hb); replace Rw := Aside0.mk (Kd.R_below Rw.out hb); replace Rg := Aside0.mk (Kd.R_below Rg.out hb); replace Rh := Aside0.mk (Kd.R_below Rh.out hb); have Zw47 := Aside0.mk hb.size; clear hb))
  try clear cghw46_0 cghw46_1 cghw46_2 cghw46_3 cgww46_0 cgww46_1 cgww46_2 cgww46_3
  have cggw47_0 : w47.cell? ⟨gg, 0, none⟩ = some (.int .i64 v0) := (blk_cell Kgg.out 0).trans rfl; have cggw47_1 : w47.cell? ⟨gg, 1, none⟩ = some (.int .i64 v1) := (blk_cell Kgg.out 1).trans rfl; have cggw47_2 : w47.cell? ⟨gg, 2, none⟩ = some (.int .i64 v2) := (blk_cell Kgg.out 2).trans rfl; have cggw47_3 : w47.cell? ⟨gg, 3, none⟩ = some (.slice Ag u.length cg) := (blk_cell Kgg.out 3).trans rfl
  go_wp2_with (first
    | (go_at_call 20; (with_reducible refine (laws_heldImage.calls k v0 v1 v2 Ag cg u 1 m w47 (Kd.R_reads' Rg.out).2.2 (Kd.R_reads' Rg.out).2.1 HHR.out).mono ?_); rintro e w48 ⟨rfl, hb⟩; replace HB := Aside0.mk (below_then HB.out HB.out.size hb); replace Kgb0 := Aside0.mk (blk_below Kgb0.out hb); replace Kgb1 := Aside0.mk (blk_below Kgb1.out hb); replace Kgw := Aside0.mk (blk_below Kgw.out hb); replace Kgg := Aside0.mk (blk_below Kgg.out hb); replace Kgh := Aside0.mk (blk_below Kgh.out hb); replace Rw := Aside0.mk (Kd.R_below Rw.out hb); replace Rg := Aside0.mk (Kd.R_below Rg.out hb); replace Rh := Aside0.mk (Kd.R_below Rh.out hb); have Zw48 := Aside0.mk hb.size; clear hb))
  go_ret
  exact ⟨rfl, HB.out⟩
theorem laws_FnExactDoStep.calls (k : Nat) (a0_0 : Int) (a0_1 : Int) (a0_2 : Int) (A0_3 : Option Addr) (c0_3 : Nat) (l0_3 : List Int) (a1_0 : Int) (a1_1 : Int) (a1_2 : Int) (a1_3 : Int) (a1_4 : Int) (A1_5 : Option Addr) (c1_5 : Nat) (l1_5 : List Int) (r : Bool) (w : World) (hr0 : Kd.C (Kd.int .i64) w A0_3 l0_3.length l0_3) (hc0 : l0_3.length ≤ c0_3) (hr1 : Kd.C (Kd.int .i64) w A1_5 l1_5.length l1_5) (hc1 : l1_5.length ≤ c1_5) (h : laws_FnExactDoStep.f k a0_0 a0_1 a0_2 l0_3 a1_0 a1_1 a1_2 a1_3 a1_4 l1_5 = some r) : Calls Try.prog 6 #[.agg #[.int .i64 a0_0, .int .i64 a0_1, .int .i64 a0_2, .slice A0_3 l0_3.length c0_3], .agg #[.int .i64 a1_0, .int .i64 a1_1, .int .i64 a1_2, .int .i64 a1_3, .int .i64 a1_4, .slice A1_5 l1_5.length c1_5]] w fun e w' => e = .returned (.bool r) ∧ Below w.heap.size w w' := by
  unfold laws_FnExactDoStep.f at h
  by_cases hg : laws_FnExactDoStep.Goes k a0_0 a0_1 a0_2 l0_3 a1_0 a1_1 a1_2 a1_3 a1_4 l1_5
  · rw [if_pos hg] at h
    obtain rfl : true = r := Option.some.inj h
    clear h
    unfold laws_FnExactDoStep.Goes at hg
    rcases hg with ⟨s0, hs0, hn0⟩ | ⟨s0, s1, hs0, hn0, hs1, hn1⟩ | ⟨s0, s1, x0_0, x0_1, x0_2, x0_3, x1_0, x1_1, x1_2, x1_3, x1_4, x1_5, v0, v1, v2, v3, vok, k0, y0, k1, y1, m, u, HS0, HN0, HS1, HN1, HT0, HT1, HSP, HIM, HEV, HE0, HE1, HM0, HM1, HKN, HMR, HHR, HMN⟩
    · exact laws_FnExactDoStep.big0 k a0_0 a0_1 a0_2 A0_3 c0_3 l0_3 a1_0 a1_1 a1_2 a1_3 a1_4 A1_5 c1_5 l1_5 w hr0 hc0 hr1 hc1 s0 hs0 hn0
    · exact laws_FnExactDoStep.big1 k a0_0 a0_1 a0_2 A0_3 c0_3 l0_3 a1_0 a1_1 a1_2 a1_3 a1_4 A1_5 c1_5 l1_5 w hr0 hc0 hr1 hc1 s0 s1 hs0 hn0 hs1 hn1
    · exact laws_FnExactDoStep.way k a0_0 a0_1 a0_2 A0_3 c0_3 l0_3 a1_0 a1_1 a1_2 a1_3 a1_4 A1_5 c1_5 l1_5 w hr0 hc0 hr1 hc1 s0 s1 x0_0 x0_1 x0_2 x0_3 x1_0 x1_1 x1_2 x1_3 x1_4 x1_5 v0 v1 v2 v3 vok k0 y0 k1 y1 m u HS0 HN0 HS1 HN1 HT0 HT1 HSP HIM HEV HE0 HE1 HM0 HM1 HKN HMR HHR HMN
  · rw [if_neg hg] at h; cases h
end Go.Proofs.Ytgccpcnakkioiaa.Q

/- What an argument's reading as data tells: numbers, bools, slices and structs of them, by their kinds. -/
namespace Go.Proofs.Ytgccpcnakkioiaa.Q
open Go.RowKit Go.Proofs.YtgccpcnakkioiaaW.PrintWords Go.Proofs.YtgccpcnakkioiaaW.PrintLast Go.Proofs.YtgccpcnakkioiaaW.PrintMore
attribute [local go_sem] max2_int min2_int max_two min_two max_three min_three max_four min_four
set_option linter.unusedVariables false
set_option linter.unusedSimpArgs false
open Go.ChangeShapes Go.WideShapes Go.Deep

/-- A number of 64 bits. -/
def I64 (n : Int) : Prop := -9223372036854775808 ≤ n ∧ n ≤ 9223372036854775807
theorem i64_of (n : Int) (h : (Lit.int .i64 n).wf = true) : I64 n := by
  simp only [Lit.wf, Bool.and_eq_true, decide_eq_true_eq] at h
  have e1 : IntKind.min .i64 = -9223372036854775808 := by decide
  have e2 : IntKind.max .i64 = 9223372036854775807 := by decide
  unfold I64
  omega
/-- Whatever reads at type t as data is a y of this kind, of which Q holds. -/
def Opens {α : Type} (P : Program) (t : TypeId) (d : Kd α) (Q : α → Prop) : Prop :=
  ∀ (H : Type) (enc : TypeId × Value → H) (w : World) (fuel : Nat) (cs : List Value) (x : DataW H × List MemPlace),
    DataW.trod enc P w 0 (fun _ => true) true fuel t cs = some x → ∃ y : α, d.K w y cs ∧ Q y
section
variable {P : Program} {t : TypeId} {α β : Type}
theorem opens_i64 (ht : P.underlying t = some (.int .i64)) : Opens P t (Kd.int .i64) I64 := by
  intro H enc w fuel cs x h
  obtain ⟨n, rfl, _, hw⟩ := DataW.trod_int ht h
  exact ⟨n, rfl, i64_of n hw⟩
theorem opens_bool (ht : P.underlying t = some .bool) : Opens P t Kd.bool (fun _ => True) := by
  intro H enc w fuel cs x h
  obtain ⟨b, rfl, _⟩ := DataW.trod_bool ht h
  exact ⟨b, rfl, trivial⟩
theorem opens_slice {e : TypeId} {d : Kd α} {Q : α → Prop} (ht : P.underlying t = some (.slice e)) (hc : P.cellsOf e = d.sz) (ho : Opens P e d Q) :
    Opens P t (Kd.slice e d) (fun l => ∀ x ∈ l, Q x) := by
  intro H enc w fuel cs x h
  rcases open_slice ht h with ⟨rfl, _⟩ | ⟨a, len, cap, m, n, D, Pl, rfl, _, hl, hm, hmm, _, hi⟩
  · exact ⟨[], ⟨none, 0, rfl, Nat.le_refl _, rfl, by simp, fun h0 => absurd h0 (by simp)⟩, fun x hx => absurd hx (by simp)⟩
  · have hmc : m = cap := by simpa using hmm
    subst hmc
    have each : ∀ i, i < len → ∃ y : α, (∃ c, c.length = d.sz ∧ d.K w y c ∧ ∀ j u, c[j]? = some u → w.cell? (a.add (i * d.sz + j)) = some u) ∧ Q y := by
      intro i hil
      obtain ⟨cs', hcs, htr⟩ := hi i (by omega)
      rw [hc] at hcs
      obtain ⟨_, hcl, hat⟩ := World.cells?_some hcs
      obtain ⟨y, hK, hQ⟩ := ho H enc w n cs' _ htr
      refine ⟨y, ⟨cs', hcl, hK, fun j u hu => ?_⟩, hQ⟩
      have hj : j < d.sz := by rw [← hcl]; exact (List.getElem?_eq_some_iff.1 hu).1
      rw [← Go.Deep.add_add, hat j hj, hu]
    have hY : ∃ ys : List α, ys.length = len ∧ ∀ i, i < len → ∃ y, ys[i]? = some y ∧ (∃ c, c.length = d.sz ∧ d.K w y c ∧ ∀ j u, c[j]? = some u → w.cell? (a.add (i * d.sz + j)) = some u) ∧ Q y := by
      have key : ∀ q, q ≤ len → ∃ ys : List α, ys.length = q ∧ ∀ i, i < q → ∃ y, ys[i]? = some y ∧ (∃ c, c.length = d.sz ∧ d.K w y c ∧ ∀ j u, c[j]? = some u → w.cell? (a.add (i * d.sz + j)) = some u) ∧ Q y := by
        intro q
        induction q with
        | zero => intro _; exact ⟨[], rfl, fun i hi' => absurd hi' (by omega)⟩
        | succ q ih =>
          intro hq
          obtain ⟨ys, hyl, hys⟩ := ih (by omega)
          obtain ⟨y, hy⟩ := each q (by omega)
          refine ⟨ys ++ [y], by simp [hyl], fun i hi' => ?_⟩
          by_cases e : i = q
          · subst e
            exact ⟨y, by rw [List.getElem?_append_right (by omega)]; simp [hyl], hy⟩
          · obtain ⟨z, hz, hz2⟩ := hys i (by omega)
            exact ⟨z, by rw [List.getElem?_append_left (by omega)]; exact hz, hz2⟩
      exact key len (Nat.le_refl _)
    obtain ⟨ys, hyl, hys⟩ := hY
    refine ⟨ys, ⟨some a, m, by rw [hyl], by omega, rfl, by rw [hyl]; simp only [maxLen] at hm; omega, fun _ => ⟨a, rfl, fun j p hj => ?_⟩⟩, fun x hx => ?_⟩
    · have hjl : j < len := by rw [← hyl]; exact (List.getElem?_eq_some_iff.1 hj).1
      obtain ⟨y, hy, hc2, _⟩ := hys j hjl
      rw [hy] at hj
      obtain rfl := Option.some.inj hj
      exact hc2
    · obtain ⟨j, hj, rfl⟩ := List.getElem_of_mem hx
      obtain ⟨y, hy, _, hq⟩ := hys j (by omega)
      rw [List.getElem?_eq_getElem hj] at hy
      obtain rfl := Option.some.inj hy
      exact hq
/-- Fields in line, from the cell 'off' on. -/
def OpensF (P : Program) (fs : List Field) (off : Nat) (d : Kd α) (Q : α → Prop) : Prop :=
  ∀ (H : Type) (enc : TypeId × Value → H) (w : World) (n : Nat) (cs : List Value), cs.length = off + d.sz →
    (∀ f ∈ fs, ∃ x, DataW.trod enc P w 0 (fun _ => true) true n f.type ((cs.drop f.offset).take (P.cellsOf f.type)) = some x) → ∃ y : α, d.K w y (cs.drop off) ∧ Q y
theorem opensF_one {f : Field} {off : Nat} {d : Kd α} {Q : α → Prop} (ho : f.offset = off) (hc : P.cellsOf f.type = d.sz) (h : Opens P f.type d Q) : OpensF P [f] off d Q := by
  intro H enc w n cs hl hf
  obtain ⟨x, hx⟩ := hf f (by simp)
  rw [ho, hc, List.take_of_length_le (by rw [List.length_drop]; omega)] at hx
  exact h H enc w n _ _ hx
theorem opensF_cons {f : Field} {fs : List Field} {off : Nat} {d : Kd α} {Q : α → Prop} {d' : Kd β} {Q' : β → Prop} (ho : f.offset = off) (hc : P.cellsOf f.type = d.sz) (h : Opens P f.type d Q) (h' : OpensF P fs (off + d.sz) d' Q') :
    OpensF P (f :: fs) off (Kd.pair d d') (fun p => Q p.1 ∧ Q' p.2) := by
  intro H enc w n cs hl hf
  have hl' : cs.length = off + (d.sz + d'.sz) := hl
  obtain ⟨x, hx⟩ := hf f (by simp)
  rw [ho, hc] at hx
  obtain ⟨y, hK, hQ⟩ := h H enc w n _ _ hx
  obtain ⟨y', hK', hQ'⟩ := h' H enc w n cs (by omega) (fun g hg => hf g (by simp [hg]))
  refine ⟨(y, y'), ⟨(cs.drop off).take d.sz, cs.drop (off + d.sz), ?_, hK, hK'⟩, hQ, hQ'⟩
  rw [← List.drop_drop, List.take_append_drop]
theorem opens_struct {fs : Array Field} {d : Kd α} {Q : α → Prop} (ht : P.underlying t = some (.struct fs)) (hc : P.cellsOf t = d.sz) (h : OpensF P fs.toList 0 d Q) : Opens P t d Q := by
  intro H enc w fuel cs x hx
  obtain ⟨xs, n, _, _, hcl, hxl, hg⟩ := DataW.trod_struct ht hx
  obtain ⟨y, hK, hQ⟩ := h H enc w n cs (by omega) (fun f hf => by
    obtain ⟨i, hi, rfl⟩ := List.getElem_of_mem hf
    have hi' : i < fs.size := by simpa using hi
    have h1 := hg i (fs.toList[i]) (by simp [hi'])
    rw [List.getElem?_eq_getElem (by omega)] at h1
    exact ⟨_, h1⟩)
  exact ⟨y, by simpa using hK, hQ⟩
theorem opens_iso {d : Kd α} {Q : α → Prop} (f : β → α) (g : α → β) (hfg : ∀ a, f (g a) = a) (h : Opens P t d Q) : Opens P t (Kd.iso d f) (fun b => Q (f b)) := by
  intro H enc w fuel cs x hx
  obtain ⟨y, hK, hQ⟩ := h H enc w fuel cs x hx
  refine ⟨g y, ?_, ?_⟩
  · show d.K w (f (g y)) cs
    rw [hfg]; exact hK
  · show Q (f (g y))
    rw [hfg]; exact hQ
end
end Go.Proofs.Ytgccpcnakkioiaa.Q

/- What is known of structs that came in. -/
namespace Go.Proofs.Ytgccpcnakkioiaa.Q
open Go.RowKit Go.Proofs.YtgccpcnakkioiaaW.PrintWords Go.Proofs.YtgccpcnakkioiaaW.PrintLast Go.Proofs.YtgccpcnakkioiaaW.PrintMore
attribute [local go_sem] max2_int min2_int max_two min_two max_three min_three max_four min_four
set_option linter.unusedVariables false
set_option linter.unusedSimpArgs false
def wf24 (x : S24) : Prop := I64 x.f0 ∧ I64 x.f1 ∧ I64 x.f2 ∧ (∀ y ∈ x.f3, I64 y)
theorem o24 : Opens Try.prog 24 k24 wf24 :=
  opens_iso (fun x : S24 => (x.f0, x.f1, x.f2, x.f3)) (fun p => (⟨p.1, p.2.1, p.2.2.1, p.2.2.2⟩ : S24)) (fun _ => rfl) (opens_struct Try.underlying24 (by kernel_rfl) (opensF_cons rfl (by kernel_rfl) (opens_i64 Try.underlying3) (opensF_cons rfl (by kernel_rfl) (opens_i64 Try.underlying3) (opensF_cons rfl (by kernel_rfl) (opens_i64 Try.underlying3) (opensF_one rfl (by kernel_rfl) (opens_slice Try.underlying22 (by kernel_rfl) (opens_i64 Try.underlying3)))))))
def wf55 (x : S55) : Prop := I64 x.f0 ∧ I64 x.f1 ∧ I64 x.f2 ∧ I64 x.f3
theorem o55 : Opens Try.prog 55 k55 wf55 :=
  opens_iso (fun x : S55 => (x.f0, x.f1, x.f2, x.f3)) (fun p => (⟨p.1, p.2.1, p.2.2.1, p.2.2.2⟩ : S55)) (fun _ => rfl) (opens_struct Try.underlying55 (by kernel_rfl) (opensF_cons rfl (by kernel_rfl) (opens_i64 Try.underlying3) (opensF_cons rfl (by kernel_rfl) (opens_i64 Try.underlying3) (opensF_cons rfl (by kernel_rfl) (opens_i64 Try.underlying3) (opensF_one rfl (by kernel_rfl) (opens_i64 Try.underlying3))))))
def wf57 (x : S57) : Prop := I64 x.f0 ∧ wf55 x.f1 ∧ (∀ y ∈ x.f2, I64 y)
theorem o57 : Opens Try.prog 57 k57 wf57 :=
  opens_iso (fun x : S57 => (x.f0, x.f1, x.f2)) (fun p => (⟨p.1, p.2.1, p.2.2⟩ : S57)) (fun _ => rfl) (opens_struct Try.underlying57 (by kernel_rfl) (opensF_cons rfl (by kernel_rfl) (opens_i64 Try.underlying3) (opensF_cons rfl (by kernel_rfl) o55 (opensF_one rfl (by kernel_rfl) (opens_slice Try.underlying22 (by kernel_rfl) (opens_i64 Try.underlying3))))))

/- The statement over plain lists and numbers that is left of the law FnExactDoStep. -/
def laws_FnExactDoStep.Pure : Prop := ∀ (a0_0 : Int) (a0_1 : Int) (a0_2 : Int) (l0_3 : List Int) (a1_0 : Int) (a1_1 : Int) (a1_2 : Int) (a1_3 : Int) (a1_4 : Int) (l1_5 : List Int), I64 a0_0 → I64 a0_1 → I64 a0_2 → (∀ y ∈ l0_3, I64 y) → l0_3.length ≤ 9223372036854775807 → I64 a1_0 → I64 a1_1 → I64 a1_2 → I64 a1_3 → I64 a1_4 → (∀ y ∈ l1_5, I64 y) → l1_5.length ≤ 9223372036854775807 → ∃ k, laws_FnExactDoStep.f k a0_0 a0_1 a0_2 l0_3 a1_0 a1_1 a1_2 a1_3 a1_4 l1_5 = some true
end Go.Proofs.Ytgccpcnakkioiaa.Q

/- Images as pixels: lists of numbers cut into equal parts. -/
namespace Go.Proofs.Ytgccpcnakkioiaa.Pure
open Go.RowKit Go.Proofs.Ytgccpcnakkioiaa.Q Go.Proofs.YtgccpcnakkioiaaW.PrintWords Go.Proofs.YtgccpcnakkioiaaW.PrintLast Go.Proofs.YtgccpcnakkioiaaW.PrintMore
set_option linter.unusedVariables false
set_option linter.unusedSimpArgs false

/-- part i of a list that is cut into parts of n -/
def nx (n : Nat) (d : List Int) (i : Nat) : List Int := (d.drop (i * n)).take n
theorem nx_length {n m : Nat} {d : List Int} (hd : d.length = m * n) {i : Nat} (hi : i < m) : (nx n d i).length = n := by
  unfold nx
  have h : (i + 1) * n ≤ m * n := Nat.mul_le_mul_right n hi
  rw [Nat.add_mul, Nat.one_mul] at h
  rw [List.length_take, List.length_drop, hd]
  omega
theorem fm_length (f : Nat → List Int) (n : Nat) : ∀ m, (∀ i, i < m → (f i).length = n) → ((List.range m).flatMap f).length = m * n := by
  intro m
  induction m with
  | zero => intro _; simp
  | succ m ih =>
    intro h
    rw [List.range_succ, List.flatMap_append, List.length_append, ih (fun i hi => h i (by omega))]
    simp [h m (by omega), Nat.add_mul]
theorem fm_get (f : Nat → List Int) (n : Nat) : ∀ m, (∀ i, i < m → (f i).length = n) → ∀ i, i < m → nx n ((List.range m).flatMap f) i = f i := by
  intro m
  induction m with
  | zero => intro _ i hi; omega
  | succ m ih =>
    intro h i hi
    have hl := fm_length f n m (fun i hi => h i (by omega))
    rw [List.range_succ, List.flatMap_append]
    unfold nx
    by_cases c : i < m
    · have h1 : (i + 1) * n ≤ m * n := Nat.mul_le_mul_right n c
      rw [Nat.add_mul, Nat.one_mul] at h1
      rw [List.drop_append_of_le_length (by omega), List.take_append_of_le_length (by rw [List.length_drop]; omega)]
      exact ih (fun i hi => h i (by omega)) i c
    · have : i = m := by omega
      subst this
      rw [← hl, List.drop_left]
      simp only [List.flatMap_cons, List.flatMap_nil, List.append_nil]
      exact List.take_of_length_le (by rw [h i (by omega)]; exact Nat.le_refl _)
theorem fm_cut (n : Nat) : ∀ (m : Nat) (d : List Int), d.length = m * n → (List.range m).flatMap (nx n d) = d := by
  intro m
  induction m with
  | zero => intro d hd; simp at hd; simp [hd]
  | succ m ih =>
    intro d hd
    rw [Nat.add_mul, Nat.one_mul] at hd
    have h1 : (List.range m).flatMap (nx n d) = (List.range m).flatMap (nx n (d.take (m * n))) := by
      rw [List.flatMap_def, List.flatMap_def]
      congr 1
      refine List.map_congr_left (fun i hi => ?_)
      have hi' := List.mem_range.1 hi
      have h1 : (i + 1) * n ≤ m * n := Nat.mul_le_mul_right n hi'
      rw [Nat.add_mul, Nat.one_mul] at h1
      unfold nx
      rw [List.drop_take, List.take_take, Nat.min_eq_left (by omega)]
    rw [List.range_succ, List.flatMap_append, h1, ih _ (by rw [List.length_take]; omega)]
    simp only [List.flatMap_cons, List.flatMap_nil, List.append_nil]
    unfold nx
    rw [List.take_of_length_le (l := d.drop (m * n)) (by rw [List.length_drop]; omega), List.take_append_drop]
theorem ext_nx {n m : Nat} {d e : List Int} (hd : d.length = m * n) (he : e.length = m * n) (h : ∀ i, i < m → nx n d i = nx n e i) : d = e := by
  rw [← fm_cut n m d hd, ← fm_cut n m e he, List.flatMap_def, List.flatMap_def]
  congr 1
  exact List.map_congr_left (fun i hi => h i (List.mem_range.1 hi))
theorem imgD_congr {f g : Nat → Nat → List Int} {a b : Nat} (h : ∀ x y, x < a → y < b → f x y = g x y) : imgD f a b = imgD g a b := by
  unfold imgD rowD
  rw [List.flatMap_def, List.flatMap_def]
  congr 1
  refine List.map_congr_left (fun y hy => ?_)
  rw [List.flatMap_def, List.flatMap_def]
  congr 1
  exact List.map_congr_left (fun x hx => h x y (List.mem_range.1 hx) (List.mem_range.1 hy))
theorem rowD_length {px : Nat → Nat → List Int} {a n y : Nat} (h : ∀ x, x < a → (px x y).length = n) : (rowD px a y).length = a * n := fm_length _ n a h
theorem imgD_length {px : Nat → Nat → List Int} {a b n : Nat} (h : ∀ x y, x < a → y < b → (px x y).length = n) : (imgD px a b).length = (b * a) * n := by
  rw [Nat.mul_assoc]
  exact fm_length _ (a * n) b (fun y hy => rowD_length (fun x hx => h x y hx hy))
theorem nx_imgD {px : Nat → Nat → List Int} {a b n : Nat} (h : ∀ x y, x < a → y < b → (px x y).length = n) {x y : Nat} (hx : x < a) (hy : y < b) : nx n (imgD px a b) (y * a + x) = px x y := by
  have h1 := fm_get (rowD px a) (a * n) b (fun y hy => rowD_length (fun x hx => h x y hx hy)) y hy
  have h2 := fm_get (fun x => px x y) n a (fun x hx => h x y hx hy) x hx
  have h3 : (x + 1) * n ≤ a * n := Nat.mul_le_mul_right n hx
  rw [Nat.add_mul, Nat.one_mul] at h3
  show nx n ((List.range b).flatMap (rowD px a)) (y * a + x) = px x y
  rw [← h2]
  show _ = nx n (rowD px a y) x
  rw [← h1]
  unfold nx
  rw [List.drop_take, List.take_take, Nat.min_eq_left (by omega), List.drop_drop, Nat.add_mul, Nat.mul_assoc]
/-- where a pixel lies -/
theorem lin_lt {a b x y : Nat} (hx : x < a) (hy : y < b) : y * a + x < b * a := by
  have : (y + 1) * a ≤ b * a := Nat.mul_le_mul_right a hy
  rw [Nat.add_mul, Nat.one_mul] at this
  omega
theorem lin_ne {a x y x' y' : Nat} (hx : x < a) (hx' : x' < a) (h : y * a + x = y' * a + x') : x = x' ∧ y = y' := by
  have ha : 0 < a := by omega
  have e1 := congrArg (· % a) h
  have e2 := congrArg (· / a) h
  simp only [Nat.mul_comm _ a, Nat.mul_add_mod, Nat.mul_add_div ha, Nat.mod_eq_of_lt hx, Nat.mod_eq_of_lt hx', Nat.div_eq_of_lt hx, Nat.div_eq_of_lt hx', Nat.add_zero] at e1 e2
  exact ⟨e1, e2⟩
theorem lin_of {a b i : Nat} (h : i < b * a) : i % a < a ∧ i / a < b ∧ (i / a) * a + i % a = i := by
  have ha : 0 < a := by
    rcases Nat.eq_zero_or_pos a with rfl | h'
    · simp at h
    · exact h'
  refine ⟨Nat.mod_lt _ ha, (Nat.div_lt_iff_lt_mul ha).2 h, ?_⟩
  rw [Nat.mul_comm]; exact Nat.div_add_mod i a
theorem ext_img {n a b : Nat} {d e : List Int} (hd : d.length = (b * a) * n) (he : e.length = (b * a) * n) (h : ∀ x y, x < a → y < b → nx n d (y * a + x) = nx n e (y * a + x)) : d = e := by
  refine ext_nx hd he (fun i hi => ?_)
  obtain ⟨h1, h2, h3⟩ := lin_of hi
  rw [← h3]
  exact h _ _ h1 h2
/-- a part is overwritten -/
theorem nx_laid {n m : Nat} {d ys : List Int} (hd : d.length = m * n) (hy : ys.length = n) {j : Nat} (hj : j < m) {i : Nat} (hi : i < m) : nx n (laidOver d (j * n) ys) i = if i = j then ys else nx n d i := by
  have hj1 : (j + 1) * n ≤ m * n := Nat.mul_le_mul_right n hj
  have hi1 : (i + 1) * n ≤ m * n := Nat.mul_le_mul_right n hi
  rw [Nat.add_mul, Nat.one_mul] at hj1 hi1
  unfold nx laidOver
  have hlt : (d.take (j * n)).length = j * n := by rw [List.length_take]; omega
  by_cases c : i = j
  · subst c
    rw [if_pos rfl]
    have e1 : (d.take (i * n) ++ (ys ++ d.drop (i * n + ys.length))).drop (i * n) = ys ++ d.drop (i * n + ys.length) := by
      rw [List.drop_append, List.drop_eq_nil_of_le (by omega), hlt, Nat.sub_self, List.drop_zero, List.nil_append]
    rw [e1, ← hy, List.take_left]
  · rw [if_neg c]
    by_cases c2 : i < j
    · have h1 : (i + 1) * n ≤ j * n := Nat.mul_le_mul_right n c2
      rw [Nat.add_mul, Nat.one_mul] at h1
      rw [List.drop_append_of_le_length (by omega), List.take_append_of_le_length (by rw [List.length_drop]; omega), List.drop_take, List.take_take, Nat.min_eq_left (by omega)]
    · have h1 : (j + 1) * n ≤ i * n := Nat.mul_le_mul_right n (by omega)
      rw [Nat.add_mul, Nat.one_mul] at h1
      rw [← List.append_assoc, List.drop_append, List.drop_eq_nil_of_le (by rw [List.length_append, hlt, hy]; omega), List.nil_append, List.drop_drop, List.length_append, hlt, hy]
      congr 2
      omega
theorem nat_of {a b p : Int} {d : List Int} (hv : validI a b p d = true) : ∃ an bn pn : Nat, a = an ∧ b = bn ∧ p = pn ∧ 1 ≤ an ∧ an ≤ 16 ∧ 1 ≤ bn ∧ bn ≤ 16 ∧ 1 ≤ pn ∧ pn ≤ 4 ∧ d.length = (bn * an) * pn := by
  obtain ⟨hs, hl, _⟩ := (validI_iff a b p d).1 hv
  obtain ⟨an, rfl⟩ := Int.eq_ofNat_of_zero_le (show 0 ≤ a by omega)
  obtain ⟨bn, rfl⟩ := Int.eq_ofNat_of_zero_le (show 0 ≤ b by omega)
  obtain ⟨pn, rfl⟩ := Int.eq_ofNat_of_zero_le (show 0 ≤ p by omega)
  refine ⟨an, bn, pn, rfl, rfl, rfl, by omega, by omega, by omega, by omega, by omega, by omega, ?_⟩
  have : (d.length : Int) = ((an * bn * pn : Nat) : Int) := by rw [hl]; push_cast; rfl
  rw [Nat.mul_comm bn an]
  exact Int.ofNat.inj this
theorem small {an bn pn : Nat} (h1 : an ≤ 16) (h2 : bn ≤ 16) (h3 : pn ≤ 4) : (bn * an) * pn ≤ 1024 := by
  have := Nat.mul_le_mul (Nat.mul_le_mul h2 h1) h3
  omega
theorem pixJ_nat {an bn pn x y : Nat} (h1 : an ≤ 16) (h2 : bn ≤ 16) (h3 : pn ≤ 4) (hx : x < an) (hy : y < bn) : pixJ an pn x y = (((y * an + x) * pn : Nat) : Int) ∧ (y * an + x) * pn + pn ≤ (bn * an) * pn := by
  have hl := lin_lt hx hy
  have hm : (y * an + x + 1) * pn ≤ (bn * an) * pn := Nat.mul_le_mul_right pn hl
  rw [Nat.add_mul, Nat.one_mul] at hm
  have hs := small h1 h2 h3
  have hya : y * an ≤ 16 * 16 := Nat.mul_le_mul (by omega) (by omega)
  refine ⟨?_, hm⟩
  unfold pixJ
  have e1 : ((y : Int) * (an : Int)) = ((y * an : Nat) : Int) := by push_cast; rfl
  rw [e1, w64 (x := ((y * an : Nat) : Int)) (by omega) (by omega)]
  have e2 : ((y * an : Nat) : Int) + (x : Int) = ((y * an + x : Nat) : Int) := by push_cast; rfl
  rw [e2, w64 (x := ((y * an + x : Nat) : Int)) (by omega) (by omega)]
  have e3 : ((y * an + x : Nat) : Int) * (pn : Int) = (((y * an + x) * pn : Nat) : Int) := by push_cast; rfl
  rw [e3, w64 (by omega) (by omega)]
theorem pxAt_nat {an bn pn x y : Nat} (h1 : an ≤ 16) (h2 : bn ≤ 16) (h3 : pn ≤ 4) (hx : x < an) (hy : y < bn) (d : List Int) : pxAt an pn d x y = nx pn d (y * an + x) := by
  obtain ⟨hj, hm⟩ := pixJ_nat h1 h2 h3 hx hy
  have hs := small h1 h2 h3
  unfold pxAt pixT nx
  rw [hj, w64 (by omega) (by omega)]
  have : ((((y * an + x) * pn : Nat) : Int) + (pn : Int)).toNat = (y * an + x) * pn + pn := by omega
  rw [this, Int.toNat_natCast, List.drop_take]
  congr 1
  omega

/- What the reference does with pixels: reads, writes, parts and pastes. -/

/-- A loop whose rounds hand on a state: what follows it is left open. -/
theorem ev_run {σ ρ : Type} (n : Nat) (L : Nat → Nat → σ → Option ρ) (E : σ → Nat → Option ρ) (Inv : Nat → σ → Prop)
    (step : ∀ i s, i < n → Inv i s → ∃ s', Inv (i + 1) s' ∧ ∀ r, Ev (fun k => L k (i + 1) s') r → Ev (fun k => L k i s) r)
    (last : ∀ s, Inv n s → ∀ r, Ev (E s) r → Ev (fun k => L k n s) r) :
    ∀ d i s, i + d = n → Inv i s → ∃ s', Inv n s' ∧ ∀ r, Ev (E s') r → Ev (fun k => L k i s) r := by
  intro d
  induction d with
  | zero =>
    intro i s hi hinv
    have : i = n := by omega
    subst this
    exact ⟨s, hinv, last s hinv⟩
  | succ d ih =>
    intro i s hi hinv
    obtain ⟨s1, h1, h2⟩ := step i s (by omega) hinv
    obtain ⟨s2, h3, h4⟩ := ih (i + 1) s1 (by omega) h1
    exact ⟨s2, h3, fun r hr => h2 r (h4 r hr)⟩
theorem copyInts_px (l : List Int) (hl : l.length ≤ 1000000) : spec_copyInts.f l = some l := by
  unfold spec_copyInts.f
  simp only [Option.bind_some]
  rw [if_pos (by simp; omega)]
  simp
theorem laid_set (d ys : List Int) (j i : Nat) (hi : i < ys.length) (hj : j + ys.length ≤ d.length) : (laidOver d j (ys.take i)).set (j + i) ys[i] = laidOver d j (ys.take (i + 1)) := by
  have h1 : (ys.take i).length = i := by rw [List.length_take]; omega
  have h2 : (ys.take (i + 1)).length = i + 1 := by rw [List.length_take]; omega
  have h3 : (d.take j).length = j := by rw [List.length_take]; omega
  unfold laidOver
  rw [h1, h2, List.set_append_right _ _ (by omega), h3, Nat.add_sub_cancel_left, List.set_append_right _ _ (by omega), h1, Nat.sub_self, List.drop_eq_getElem_cons (show j + i < d.length by omega), List.set_cons_zero, List.take_succ_eq_append_getElem hi, List.append_assoc]
  rfl
theorem setPixel_ev {an bn pn x y : Nat} (h1 : an ≤ 16) (h2 : bn ≤ 16) (h3 : pn ≤ 4) (hx : x < an) (hy : y < bn) (d ys : List Int) (hd : d.length = (bn * an) * pn) (hys : ys.length = pn) :
    Ev (fun k => spec_setPixel.f k an bn pn d x y ys) (laidOver d ((y * an + x) * pn) ys) := by
  obtain ⟨hj, hm⟩ := pixJ_nat h1 h2 h3 hx hy
  have hs := small h1 h2 h3
  have hJ : wrap64 ((wrap64 ((wrap64 ((y : Int) * (an : Int))) + (x : Int))) * (pn : Int)) = (((y * an + x) * pn : Nat) : Int) := hj
  generalize hjj : (y * an + x) * pn = j at *
  have HJ := Aside0.mk hJ
  clear hJ hj hjj
  have key := ev_up pn (fun k i s => spec_setPixel.l0 k (x : Int) (y : Int) ys (i : Int) an bn pn s) (fun i s => s = laidOver d j (ys.take i)) (fun _ _ => laidOver d j ys)
    (by
      intro i s hi hinv
      subst hinv
      right
      refine ⟨_, fun k => ?_, laid_set d ys j i (by omega) (by omega), rfl⟩
      simp only [spec_setPixel.l0]
      have e : (((j : Nat) : Int) + (i : Int)) = ((j + i : Nat) : Int) := by push_cast; rfl
      have hl : (laidOver d j (ys.take i)).length = d.length := laidOver_length d j _ (by rw [List.length_take]; omega)
      rw [HJ.out, e, w64 (x := ((j + i : Nat) : Int)) (by omega) (by omega), hl, if_pos (by omega), if_pos (by omega), if_pos (by omega), if_pos (by omega), if_pos (by omega), rd_nat ys i (by omega), w64n i (by omega), Int.toNat_natCast])
    (by
      intro s hinv
      subst hinv
      refine Ev.step (f := fun _ => some (laidOver d j ys)) (fun k => ?_) (Ev.now _)
      simp only [spec_setPixel.l0]
      rw [if_neg (by omega), List.take_of_length_le (by omega)])
    pn 0 d (by omega) (by unfold laidOver; simp)
  unfold spec_setPixel.f
  exact key
theorem pixelAt_eq {an bn pn x y : Nat} (h1 : an ≤ 16) (h2 : bn ≤ 16) (h3 : pn ≤ 4) (hx : x < an) (hy : y < bn) (d : List Int) (hd : d.length = (bn * an) * pn) : spec_pixelAt.f an bn pn d x y = some (nx pn d (y * an + x)) := by
  obtain ⟨hj, hm⟩ := pixJ_nat h1 h2 h3 hx hy
  have hs := small h1 h2 h3
  have hJ : wrap64 ((wrap64 ((wrap64 ((y : Int) * (an : Int))) + (x : Int))) * (pn : Int)) = (((y * an + x) * pn : Nat) : Int) := hj
  have e : ((((y * an + x) * pn : Nat) : Int) + (pn : Int)) = (((y * an + x) * pn + pn : Nat) : Int) := by push_cast; rfl
  have HJ := Aside0.mk hJ
  clear hJ hj
  unfold spec_pixelAt.f nx
  generalize (y * an + x) * pn = j at *
  rw [HJ.out, e, w64 (x := ((j + pn : Nat) : Int)) (by omega) (by omega), if_pos (by omega), if_pos (by omega), if_pos (by omega), Int.toNat_natCast, Int.toNat_natCast, copyInts_px _ (by rw [List.length_drop, List.length_take]; omega)]
  simp only [Option.bind_some]
  congr 1
  rw [List.drop_take]
  congr 1
  omega
theorem newImg_eq {wn hn pn : Nat} (h1 : wn ≤ 16) (h2 : hn ≤ 16) (h3 : pn ≤ 4) : spec_newImage.f wn hn pn = some ((wn : Int), (hn : Int), (pn : Int), List.replicate ((hn * wn) * pn) 0) := by
  have hs := small h1 h2 h3
  have hw : hn * wn ≤ 16 * 16 := Nat.mul_le_mul h2 h1
  have e1 : (wn : Int) * (hn : Int) = ((hn * wn : Nat) : Int) := by rw [Nat.mul_comm]; push_cast; rfl
  have e2 : ((hn * wn : Nat) : Int) * (pn : Int) = (((hn * wn) * pn : Nat) : Int) := by push_cast; rfl
  unfold spec_newImage.f
  rw [e1, w64 (x := ((hn * wn : Nat) : Int)) (by omega) (by omega), e2, w64 (by omega) (by omega), if_pos (by omega), Int.toNat_natCast, if_pos (by omega)]
/-- a part of an image -/
def cropD (an pn : Nat) (d : List Int) (X Y wn hn : Nat) : List Int := imgD (fun x y => nx pn d ((Y + y) * an + (X + x))) wn hn
theorem cropD_len {an bn pn X Y wn hn : Nat} {d : List Int} (hd : d.length = (bn * an) * pn) (hX : X + wn ≤ an) (hY : Y + hn ≤ bn) : ∀ x y, x < wn → y < hn → (nx pn d ((Y + y) * an + (X + x))).length = pn := fun x y hx hy => nx_length hd (lin_lt (by omega) (by omega))
theorem crop_ev {an bn pn X Y wn hn : Nat} (h1 : an ≤ 16) (h2 : bn ≤ 16) (h3 : pn ≤ 4) (hX : X + wn ≤ an) (hY : Y + hn ≤ bn) (d : List Int) (hd : d.length = (bn * an) * pn) :
    Ev (fun k => spec_crop.f k an bn pn d X Y wn hn) ((wn : Int), (hn : Int), (pn : Int), cropD an pn d X Y wn hn) := by
  unfold spec_crop.f
  refine ev_now (newImg_eq (by omega) (by omega) h3) ?_
  have hlen := cropD_len hd hX hY
  have hfl : (cropD an pn d X Y wn hn).length = (hn * wn) * pn := imgD_length hlen
  have inner : ∀ (r : Nat), r < hn → ∀ s : List Int, (s.length = (hn * wn) * pn ∧ ∀ x y, x < wn → y < r → nx pn s (y * wn + x) = nx pn d ((Y + y) * an + (X + x))) →
      ∃ s' : List Int, (s'.length = (hn * wn) * pn ∧ ∀ x y, x < wn → y < r + 1 → nx pn s' (y * wn + x) = nx pn d ((Y + y) * an + (X + x))) ∧
        ∀ res, Ev (fun k => spec_crop.l0 k X Y wn hn ((r + 1 : Nat) : Int) an bn pn d wn hn pn s') res → Ev (fun k => spec_crop.l1 k X Y wn hn (r : Int) 0 an bn pn d wn hn pn s) res := by
    intro r hr s hs
    obtain ⟨s', h4, h5⟩ := ev_run wn (fun k c s => spec_crop.l1 k X Y wn hn (r : Int) (c : Int) an bn pn d wn hn pn s) (fun s k => spec_crop.l0 k X Y wn hn ((r + 1 : Nat) : Int) an bn pn d wn hn pn s)
      (fun c s => s.length = (hn * wn) * pn ∧ (∀ x y, x < wn → y < r → nx pn s (y * wn + x) = nx pn d ((Y + y) * an + (X + x))) ∧ ∀ x, x < c → nx pn s (r * wn + x) = nx pn d ((Y + r) * an + (X + x)))
      (by
        intro c s hc ⟨hsl, i1, i2⟩
        have hyl : (nx pn d ((Y + r) * an + (X + c))).length = pn := hlen c r hc hr
        have hlin := lin_lt hc hr
        have hm : (r * wn + c + 1) * pn ≤ (hn * wn) * pn := Nat.mul_le_mul_right pn hlin
        rw [Nat.add_mul, Nat.one_mul] at hm
        refine ⟨laidOver s ((r * wn + c) * pn) (nx pn d ((Y + r) * an + (X + c))), ⟨by rw [laidOver_length _ _ _ (by rw [hyl, hsl]; exact hm)]; exact hsl, ?_, ?_⟩, ?_⟩
        · intro x y hx hy
          rw [nx_laid hsl hyl hlin (lin_lt hx (by omega)), if_neg (fun e => by have := (lin_ne hx hc e).2; omega)]
          exact i1 x y hx hy
        · intro x hx
          rw [nx_laid hsl hyl hlin (lin_lt (by omega) hr)]
          by_cases e : x = c
          · subst e; rw [if_pos rfl]
          · rw [if_neg (by omega)]; exact i2 x (by omega)
        · intro res hres
          refine Ev.step (f := fun k => (spec_pixelAt.f an bn pn d ((X + c : Nat) : Int) ((Y + r : Nat) : Int)).bind fun t => (spec_setPixel.f k wn hn pn s (c : Int) (r : Int) t).bind fun u => spec_crop.l1 k X Y wn hn (r : Int) ((c + 1 : Nat) : Int) an bn pn d wn hn pn u) (fun k => ?_) (ev_now (pixelAt_eq h1 h2 h3 (by omega) (by omega) d hd) (ev_bind (setPixel_ev (by omega) (by omega) h3 hc hr s _ hsl hyl) hres))
          simp only [spec_crop.l1]
          rw [if_pos (by omega), w64 (x := (X : Int) + (c : Int)) (by omega) (by omega), w64 (x := (Y : Int) + (r : Int)) (by omega) (by omega), w64n c (by omega)]
          push_cast
          rfl)
      (by
        intro s _ res hres
        refine Ev.step (fun k => ?_) hres
        simp only [spec_crop.l1]
        rw [if_neg (by omega), w64n r (by omega)])
      wn 0 s (by omega) ⟨hs.1, hs.2, fun x hx => by omega⟩
    refine ⟨s', ⟨h4.1, fun x y hx hy => ?_⟩, h5⟩
    by_cases e : y = r
    · subst e; exact h4.2.2 x hx
    · exact h4.2.1 x y hx (by omega)
  obtain ⟨s', h4, h5⟩ := ev_run hn (fun k r s => spec_crop.l0 k X Y wn hn (r : Int) an bn pn d wn hn pn s) (fun s _ => some ((wn : Int), (hn : Int), (pn : Int), s))
    (fun r s => s.length = (hn * wn) * pn ∧ ∀ x y, x < wn → y < r → nx pn s (y * wn + x) = nx pn d ((Y + y) * an + (X + x)))
    (by
      intro r s hr hs
      obtain ⟨s', i1, i2⟩ := inner r hr s hs
      refine ⟨s', i1, fun res hres => Ev.step (fun k => ?_) (i2 res hres)⟩
      simp only [spec_crop.l0]
      rw [if_pos (by omega)])
    (by
      intro s _ res hres
      refine Ev.step (fun k => ?_) hres
      simp only [spec_crop.l0]
      rw [if_neg (by omega)])
    hn 0 (List.replicate ((hn * wn) * pn) 0) (by omega) ⟨by simp, fun x y hx hy => by omega⟩
  have e : s' = cropD an pn d X Y wn hn := ext_img h4.1 hfl (fun x y hx hy => by rw [h4.2 x y hx hy]; unfold cropD; rw [nx_imgD hlen hx hy])
  subst e
  exact h5 _ (Ev.now _)
/-- an image with another one over a part of it -/
def pastePx (an pn : Nat) (d : List Int) (X Y : Int) (wn hn : Nat) (e : List Int) (x y : Nat) : List Int :=
  if X ≤ (x : Int) ∧ (x : Int) < X + wn ∧ Y ≤ (y : Int) ∧ (y : Int) < Y + hn then nx pn e (((y : Int) - Y).toNat * wn + ((x : Int) - X).toNat) else nx pn d (y * an + x)
theorem pastePx_len {an bn pn wn hn : Nat} {d e : List Int} {X Y : Int} (hd : d.length = (bn * an) * pn) (he : e.length = (hn * wn) * pn) : ∀ x y, x < an → y < bn → (pastePx an pn d X Y wn hn e x y).length = pn := by
  intro x y hx hy
  unfold pastePx
  split
  · exact nx_length he (lin_lt (by omega) (by omega))
  · exact nx_length hd (lin_lt hx hy)
theorem onImage_eq {an bn : Nat} (h1 : 1 ≤ an ∧ an ≤ 16) (h2 : 1 ≤ bn ∧ bn ≤ 16) (p : Int) (d : List Int) (x y : Int) : spec_onImage.f an bn p d x y = some (decide (0 ≤ x ∧ x < an ∧ 0 ≤ y ∧ y < bn)) := by
  unfold spec_onImage.f
  rw [w64 (x := (an : Int) - 1) (by omega) (by omega), w64 (x := (bn : Int) - 1) (by omega) (by omega), spec_inRangeI_eq, spec_inRangeI_eq]
  simp only [Option.bind_some]
  by_cases c : 0 ≤ x ∧ x ≤ (an : Int) - 1
  · rw [if_pos (by simpa using c)]; congr 1; rw [Bool.eq_iff_iff]; simp; omega
  · rw [if_neg (by simpa using c), decide_eq_false (by omega)]
theorem paste_ev {an bn pn wn hn : Nat} {X Y : Int} (h1 : 1 ≤ an ∧ an ≤ 16) (h2 : 1 ≤ bn ∧ bn ≤ 16) (h3 : pn ≤ 4) (h4 : wn ≤ 16) (h5 : hn ≤ 16) (hX : -16 ≤ X ∧ X ≤ 16) (hY : -16 ≤ Y ∧ Y ≤ 16) (d e : List Int) (hd : d.length = (bn * an) * pn) (he : e.length = (hn * wn) * pn) :
    Ev (fun k => spec_paste.f k an bn pn d X Y wn hn pn e) (imgD (pastePx an pn d X Y wn hn e) an bn) := by
  unfold spec_paste.f
  have hlen := pastePx_len (X := X) (Y := Y) hd he
  let I : Nat → Nat → List Int → Prop := fun r c s => s.length = (bn * an) * pn ∧ ∀ x y : Nat, x < an → y < bn → nx pn s (y * an + x) = if X ≤ (x : Int) ∧ (x : Int) < X + wn ∧ Y ≤ (y : Int) ∧ (y : Int) < Y + hn ∧ ((y : Int) < Y + r ∨ ((y : Int) = Y + r ∧ (x : Int) < X + c)) then nx pn e (((y : Int) - Y).toNat * wn + ((x : Int) - X).toNat) else nx pn d (y * an + x)
  have inner : ∀ (r : Nat), r < hn → ∀ s : List Int, I r 0 s → ∃ s' : List Int, I (r + 1) 0 s' ∧
        ∀ res, Ev (fun k => spec_paste.l0 k X Y ((r + 1 : Nat) : Int) an bn pn s' wn hn pn e) res → Ev (fun k => spec_paste.l1 k X Y (r : Int) 0 an bn pn s wn hn pn e) res := by
    intro r hr s hs
    obtain ⟨s', i4, i5⟩ := ev_run wn (fun k c s => spec_paste.l1 k X Y (r : Int) (c : Int) an bn pn s wn hn pn e) (fun s k => spec_paste.l0 k X Y ((r + 1 : Nat) : Int) an bn pn s wn hn pn e) (fun c s => I r c s)
      (by
        intro c s hc ⟨hsl, i1⟩
        have w1 := w64 (x := X + (c : Int)) (by omega) (by omega)
        have w2 := w64 (x := Y + (r : Int)) (by omega) (by omega)
        by_cases on : 0 ≤ X + (c : Int) ∧ X + (c : Int) < an ∧ 0 ≤ Y + (r : Int) ∧ Y + (r : Int) < bn
        · obtain ⟨x0, hx0⟩ := Int.eq_ofNat_of_zero_le on.1
          obtain ⟨y0, hy0⟩ := Int.eq_ofNat_of_zero_le on.2.2.1
          have hx0a : x0 < an := by omega
          have hy0b : y0 < bn := by omega
          have hyl : (nx pn e (r * wn + c)).length = pn := nx_length he (lin_lt hc hr)
          have hlin := lin_lt hx0a hy0b
          have hm : (y0 * an + x0 + 1) * pn ≤ (bn * an) * pn := Nat.mul_le_mul_right pn hlin
          rw [Nat.add_mul, Nat.one_mul] at hm
          refine ⟨laidOver s ((y0 * an + x0) * pn) (nx pn e (r * wn + c)), ⟨by rw [laidOver_length _ _ _ (by rw [hyl, hsl]; exact hm)]; exact hsl, ?_⟩, ?_⟩
          · intro x y hx hy
            rw [nx_laid hsl hyl hlin (lin_lt hx hy)]
            by_cases q : x = x0 ∧ y = y0
            · obtain ⟨rfl, rfl⟩ := q
              rw [if_pos rfl, if_pos (by omega), show ((y : Int) - Y).toNat = r by omega, show ((x : Int) - X).toNat = c by omega]
            · rw [if_neg (fun z => q (lin_ne hx hx0a z)), i1 x y hx hy]
              by_cases z : X ≤ (x : Int) ∧ (x : Int) < X + wn ∧ Y ≤ (y : Int) ∧ (y : Int) < Y + hn ∧ ((y : Int) < Y + r ∨ ((y : Int) = Y + r ∧ (x : Int) < X + c))
              · rw [if_pos z, if_pos (by omega)]
              · rw [if_neg z, if_neg (by omega)]
          · intro res hres
            refine Ev.step (f := fun k => (spec_onImage.f an bn pn s (X + (c : Int)) (Y + (r : Int))).bind fun u => if u = true then ((spec_pixelAt.f wn hn pn e (c : Int) (r : Int)).bind fun t => (spec_setPixel.f k an bn pn s (X + (c : Int)) (Y + (r : Int)) t).bind fun v => spec_paste.l1 k X Y (r : Int) ((c + 1 : Nat) : Int) an bn pn v wn hn pn e) else spec_paste.l1 k X Y (r : Int) ((c + 1 : Nat) : Int) an bn pn s wn hn pn e) (fun k => ?_) (ev_now (onImage_eq h1 h2 _ _ _ _) (ev_pos (decide_eq_true on) (ev_now (pixelAt_eq h4 h5 h3 hc hr e he) (ev_bind ?_ hres))))
            · simp only [spec_paste.l1]
              rw [if_pos (by omega), w1, w2, w64n c (by omega)]
            · rw [hx0, hy0]
              exact setPixel_ev h1.2 h2.2 h3 hx0a hy0b s _ hsl hyl
        · refine ⟨s, ⟨hsl, fun x y hx hy => ?_⟩, ?_⟩
          · rw [i1 x y hx hy]
            by_cases z : X ≤ (x : Int) ∧ (x : Int) < X + wn ∧ Y ≤ (y : Int) ∧ (y : Int) < Y + hn ∧ ((y : Int) < Y + r ∨ ((y : Int) = Y + r ∧ (x : Int) < X + c))
            · rw [if_pos z, if_pos (by omega)]
            · rw [if_neg z, if_neg (by omega)]
          · intro res hres
            refine Ev.step (f := fun k => (spec_onImage.f an bn pn s (X + (c : Int)) (Y + (r : Int))).bind fun u => if u = true then ((spec_pixelAt.f wn hn pn e (c : Int) (r : Int)).bind fun t => (spec_setPixel.f k an bn pn s (X + (c : Int)) (Y + (r : Int)) t).bind fun v => spec_paste.l1 k X Y (r : Int) ((c + 1 : Nat) : Int) an bn pn v wn hn pn e) else spec_paste.l1 k X Y (r : Int) ((c + 1 : Nat) : Int) an bn pn s wn hn pn e) (fun k => ?_) (ev_now (onImage_eq h1 h2 _ _ _ _) (ev_neg (by simpa using on) hres))
            simp only [spec_paste.l1]
            rw [if_pos (by omega), w1, w2, w64n c (by omega)])
      (by
        intro s _ res hres
        refine Ev.step (fun k => ?_) hres
        simp only [spec_paste.l1]
        rw [if_neg (by omega), w64n r (by omega)])
      wn 0 s (by omega) hs
    refine ⟨s', ⟨i4.1, fun x y hx hy => ?_⟩, i5⟩
    rw [i4.2 x y hx hy]
    by_cases z : X ≤ (x : Int) ∧ (x : Int) < X + wn ∧ Y ≤ (y : Int) ∧ (y : Int) < Y + hn ∧ ((y : Int) < Y + r ∨ ((y : Int) = Y + r ∧ (x : Int) < X + wn))
    · rw [if_pos z, if_pos (by omega)]
    · rw [if_neg z, if_neg (by omega)]
  obtain ⟨s', i4, i5⟩ := ev_run hn (fun k r s => spec_paste.l0 k X Y (r : Int) an bn pn s wn hn pn e) (fun s _ => some s) (fun r s => I r 0 s)
    (by
      intro r s hr hs
      obtain ⟨s', i1, i2⟩ := inner r hr s hs
      refine ⟨s', i1, fun res hres => Ev.step (fun k => ?_) (i2 res hres)⟩
      simp only [spec_paste.l0]
      rw [if_pos (by omega)])
    (by
      intro s _ res hres
      refine Ev.step (fun k => ?_) hres
      simp only [spec_paste.l0]
      rw [if_neg (by omega)])
    hn 0 d (by omega) ⟨hd, fun x y hx hy => by rw [if_neg (by omega)]⟩
  have q : s' = imgD (pastePx an pn d X Y wn hn e) an bn := ext_img i4.1 (imgD_length hlen) (fun x y hx hy => by
    rw [i4.2 x y hx hy, nx_imgD hlen hx hy]
    unfold pastePx
    by_cases z : X ≤ (x : Int) ∧ (x : Int) < X + wn ∧ Y ≤ (y : Int) ∧ (y : Int) < Y + hn
    · rw [if_pos z, if_pos (by omega)]
    · rw [if_neg z, if_neg (by omega)])
  subst q
  exact i5 _ (Ev.now _)
end Go.Proofs.Ytgccpcnakkioiaa.Pure
