/- A part of the proof that the statement FnExactChangedRegionSaid holds, under no condition of its own: The program's ChangedRegion and the reference's return the same, and what is returned is held by nobody else: over lists of numbers alone. -/
import Derived.Test.YtbgohbinonkhfaaCFnExactChangedRegion1
import Derived.Shelf.Abstract
import Derived.Deep.WholeRow
import Derived.Deep.RegionWith
import Derived.OrdersHeld
import Derived.Deep.RegionHeld
import Derived.RegionTactic
import Derived.BigQuiet
import Derived.Deep.QuietTactic
namespace Go.Proofs.Ytbgohbinonkhfaa.Q
open Go.RowKit Go.Proofs.YtbgohbinonkhfaaW.PrintWords Go.Proofs.YtbgohbinonkhfaaW.PrintLast Go.Proofs.YtbgohbinonkhfaaW.PrintMore
attribute [local go_sem] max2_int min2_int max_two min_two max_three min_three max_four min_four
set_option linter.unusedVariables false
set_option linter.unusedSimpArgs false
/-! ### laws_toImage: function 13 -/
def laws_toImage.f (k : Nat) (a0_0 : Int) (a0_1 : Int) (a0_2 : Int) (l0_3 : List Int) : Option (Int × Int × Int × List Int) := (laws_toIntS.f k l0_3).bind fun t14004 => (some (a0_0, a0_1, a0_2, t14004))
theorem laws_toImage.mono : ∀ a0 a1 a2 a3 k, LeO (laws_toImage.f k a0 a1 a2 a3) (laws_toImage.f (k + 1) a0 a1 a2 a3) := by
  intro a0 a1 a2 a3 k
  unfold laws_toImage.f
  repeat' first
      | (with_reducible exact laws_toIntS.mono _ _)
      | (with_reducible exact LeO.refl _)
      | (with_reducible exact LeO.none _)
      | (with_reducible refine LeO.ite ?_ ?_)
      | (with_reducible refine LeO.bind ?_ (fun _ => ?_))
      | exact laws_toIntS.mono _ _
      | exact LeO.none _
      | refine LeO.ite ?_ ?_
      | refine LeO.bind ?_ (fun _ => ?_)
set_option maxHeartbeats 8000000 in
set_option maxRecDepth 100000 in
theorem laws_toImage.calls (k : Nat) (a0_0 : Int) (a0_1 : Int) (a0_2 : Int) (A0_3 : Option Addr) (c0_3 : Nat) (l0_3 : List Int) (r1 : Int) (r2 : Int) (r3 : Int) (r4 : List Int) (w : World) (hr0_3 : Kd.C (Kd.int .i64) w A0_3 l0_3.length l0_3) (hc0_3 : l0_3.length ≤ c0_3) (h : laws_toImage.f k a0_0 a0_1 a0_2 l0_3 = some (r1, r2, r3, r4)) :
    Calls Try.prog 13 #[.agg #[.int .i64 a0_0, .int .i64 a0_1, .int .i64 a0_2, .slice A0_3 l0_3.length c0_3]] w fun e w' => ∃ v3_ : Value, e = .returned (.agg #[.int .i64 r1, .int .i64 r2, .int .i64 r3, v3_]) ∧ Kd.R (Kd.int .i64) 3 w' w.heap.size (fun _ => True) v3_ r4 ∧ Below w.heap.size w w' := by
  have hu24 := Try.underlying24
  have hu28 := Try.underlying28
  have HR0_3 := Aside0.mk hr0_3
  have HC0_3 := Aside0.mk hc0_3
  clear hr0_3 hc0_3
  have HB := Aside0.mk (Below.refl w.heap.size w)
  have H : ((laws_toIntS.f k l0_3).bind fun t14004 => (some (a0_0, a0_1, a0_2, t14004))) = some (r1, r2, r3, r4) := h
  clear h
  replace H := Option.bind_eq_some_iff.mp H
  obtain ⟨t14004, A20, H⟩ := H
  replace H : (some (a0_0, a0_1, a0_2, t14004)) = some (r1, r2, r3, r4) := H
  have A2 := Aside0.mk A20
  clear A20
  simp only [Option.some.injEq, Prod.mk.injEq] at H
  obtain ⟨rfl, rfl, rfl, rfl⟩ := H
  go_enter Try.func13, Try.ntmps13
  go_wp2_with (first | ((with_reducible refine gate_dst (N := 1) rfl ?_); refine box_event ?hg (N := 1) ?hd (cs := #[.int .i64 a0_0, .int .i64 a0_1, .int .i64 a0_2, .slice A0_3 l0_3.length c0_3]) (t := 24) ?hr ?_; (case hd => rfl); (case hg => rfl); (case hr => first | (go_simp; done) | (go_simp; rfl)); intro gb14001 hg w3 hbox hb; have n0_ := Aside0.mk (below_step (by repeat (first | (with_reducible first | exact HB.out | apply below_alloc | apply pw_below_drewN | apply below_drew1) | exact HB.out)) hb); have n1_ := Aside0.mk (hbox); have n2_ := Aside0.mk ((by rw [hg]; exact (below_size (by repeat (first | (with_reducible first | exact HB.out | apply below_alloc | apply pw_below_drewN | apply below_drew1) | exact HB.out))) : w.heap.size ≤ gb14001)); have n3_ := Aside0.mk ((by rw [hg]; exact (below_size (by repeat (first | (with_reducible first | exact HB.out | apply below_alloc | apply pw_below_drewN | apply below_drew1) | exact HB.out))) : w.heap.size ≤ gb14001)); clear HB; have HB := n0_; have BK14001 := n1_; have GW14001 := n2_; have GE14001 := n3_; clear n0_ n1_ n2_ n3_; clear hb hbox hg) | ((with_reducible refine gate_dst (N := 2) rfl ?_); refine box_event ?hg (N := 2) ?hd (cs := #[.int .i64 0, .int .i64 0, .int .i64 0, .slice none 0 0]) (t := 28) ?hr ?_; (case hd => rfl); (case hg => rfl); (case hr => first | (go_simp; done) | (go_simp; rfl)); intro gb14002 hg w4 hbox hb; have n0_ := Aside0.mk (blk_below (g := gb14001) (o := .cells #[.int .i64 a0_0, .int .i64 a0_1, .int .i64 a0_2, .slice A0_3 l0_3.length c0_3] 24 (0, 0)) (by (with_reducible repeat (first | refine blk_drewN ?_ _ | refine blk_drew ?_ | refine blk_alloc ?_ _)); exact BK14001.out) hb); have n1_ := Aside0.mk (below_step (by repeat (first | (with_reducible first | exact HB.out | apply below_alloc | apply pw_below_drewN | apply below_drew1 | refine below_set ?_ GE14001.out) | exact HB.out)) hb); have n2_ := Aside0.mk (hbox); have n3_ := Aside0.mk ((by rw [hg]; exact (below_size (by repeat (first | (with_reducible first | exact HB.out | apply below_alloc | apply pw_below_drewN | apply below_drew1 | refine below_set ?_ GE14001.out) | exact HB.out))) : w.heap.size ≤ gb14002)); have n4_ := Aside0.mk ((by rw [hg]; exact (below_size (by repeat (first | (with_reducible first | exact HB.out | apply below_alloc | apply pw_below_drewN | apply below_drew1 | refine below_set ?_ GE14001.out) | exact HB.out))) : w.heap.size ≤ gb14002)); have n5_ := Aside0.mk ((by rw [hg]; exact Nat.ne_of_lt (blk_lt (g := gb14001) (o := .cells #[.int .i64 a0_0, .int .i64 a0_1, .int .i64 a0_2, .slice A0_3 l0_3.length c0_3] 24 (0, 0)) (by (with_reducible repeat (first | refine blk_drewN ?_ _ | refine blk_drew ?_ | refine blk_alloc ?_ _)); exact BK14001.out)) : gb14001 ≠ gb14002)); have n6_ := Aside0.mk ((by rw [hg]; exact Nat.ne_of_gt (blk_lt (g := gb14001) (o := .cells #[.int .i64 a0_0, .int .i64 a0_1, .int .i64 a0_2, .slice A0_3 l0_3.length c0_3] 24 (0, 0)) (by (with_reducible repeat (first | refine blk_drewN ?_ _ | refine blk_drew ?_ | refine blk_alloc ?_ _)); exact BK14001.out)) : gb14002 ≠ gb14001)); clear BK14001; clear HB; have BK14001 := n0_; have HB := n1_; have BK14002 := n2_; have GW14002 := n3_; have GE14002 := n4_; have NB14001_14002 := n5_; have NB14002_14001 := n6_; clear n0_ n1_ n2_ n3_ n4_ n5_ n6_; clear hb hbox hg) | ((with_reducible refine gate_dst (N := 3) rfl ?_); refine box_event ?hg (N := 3) ?hd (cs := #[.int .i64 0, .int .i64 0, .int .i64 0, .slice none 0 0]) (t := 28) ?hr ?_; (case hd => rfl); (case hg => rfl); (case hr => first | (go_simp; done) | (go_simp; rfl)); intro gb14003 hg w5 hbox hb; have n0_ := Aside0.mk (blk_below (g := gb14001) (o := .cells #[.int .i64 a0_0, .int .i64 a0_1, .int .i64 a0_2, .slice A0_3 l0_3.length c0_3] 24 (0, 0)) (by (with_reducible repeat (first | refine blk_drewN ?_ _ | refine blk_drew ?_ | refine blk_alloc ?_ _)); exact BK14001.out) hb); have n1_ := Aside0.mk (blk_below (g := gb14002) (o := .cells #[.int .i64 0, .int .i64 0, .int .i64 0, .slice none 0 0] 28 (0, 0)) (by (with_reducible repeat (first | refine blk_drewN ?_ _ | refine blk_drew ?_ | refine blk_alloc ?_ _)); exact BK14002.out) hb); have n2_ := Aside0.mk (below_step (by repeat (first | (with_reducible first | exact HB.out | apply below_alloc | apply pw_below_drewN | apply below_drew1 | refine below_set ?_ GE14001.out | refine below_set ?_ GE14002.out) | exact HB.out)) hb); have n3_ := Aside0.mk (hbox); have n4_ := Aside0.mk ((by rw [hg]; exact (below_size (by repeat (first | (with_reducible first | exact HB.out | apply below_alloc | apply pw_below_drewN | apply below_drew1 | refine below_set ?_ GE14001.out | refine below_set ?_ GE14002.out) | exact HB.out))) : w.heap.size ≤ gb14003)); have n5_ := Aside0.mk ((by rw [hg]; exact (below_size (by repeat (first | (with_reducible first | exact HB.out | apply below_alloc | apply pw_below_drewN | apply below_drew1 | refine below_set ?_ GE14001.out | refine below_set ?_ GE14002.out) | exact HB.out))) : w.heap.size ≤ gb14003)); have n6_ := Aside0.mk ((by rw [hg]; exact Nat.ne_of_lt (blk_lt (g := gb14001) (o := .cells #[.int .i64 a0_0, .int .i64 a0_1, .int .i64 a0_2, .slice A0_3 l0_3.length c0_3] 24 (0, 0)) (by (with_reducible repeat (first | refine blk_drewN ?_ _ | refine blk_drew ?_ | refine blk_alloc ?_ _)); exact BK14001.out)) : gb14001 ≠ gb14003)); have n7_ := Aside0.mk ((by rw [hg]; exact Nat.ne_of_gt (blk_lt (g := gb14001) (o := .cells #[.int .i64 a0_0, .int .i64 a0_1, .int .i64 a0_2, .slice A0_3 l0_3.length c0_3] 24 (0, 0)) (by (with_reducible repeat (first | refine blk_drewN ?_ _ | refine blk_drew ?_ | refine blk_alloc ?_ _)); exact BK14001.out)) : gb14003 ≠ gb14001)); have n8_ := Aside0.mk ((by rw [hg]; exact Nat.ne_of_lt (blk_lt (g := gb14002) (o := .cells #[.int .i64 0, .int .i64 0, .int .i64 0, .slice none 0 0] 28 (0, 0)) (by (with_reducible repeat (first | refine blk_drewN ?_ _ | refine blk_drew ?_ | refine blk_alloc ?_ _)); exact BK14002.out)) : gb14002 ≠ gb14003)); have n9_ := Aside0.mk ((by rw [hg]; exact Nat.ne_of_gt (blk_lt (g := gb14002) (o := .cells #[.int .i64 0, .int .i64 0, .int .i64 0, .slice none 0 0] 28 (0, 0)) (by (with_reducible repeat (first | refine blk_drewN ?_ _ | refine blk_drew ?_ | refine blk_alloc ?_ _)); exact BK14002.out)) : gb14003 ≠ gb14002)); clear BK14001; clear BK14002; clear HB; have BK14001 := n0_; have BK14002 := n1_; have HB := n2_; have BK14003 := n3_; have GW14003 := n4_; have GE14003 := n5_; have NB14001_14003 := n6_; have NB14003_14001 := n7_; have NB14002_14003 := n8_; have NB14003_14002 := n9_; clear n0_ n1_ n2_ n3_ n4_ n5_ n6_ n7_ n8_ n9_; clear hb hbox hg; have hnb6 := NB14001_14002.out; have hnc6 := NB14002_14001.out; have hnb7 := NB14001_14003.out; have hnc7 := NB14003_14001.out; have hcz8_0 : w5.cell? ⟨gb14001, 0, none⟩ = some (.int .i64 a0_0) := (blk_cell BK14001.out 0).trans rfl; have hcz8_1 : w5.cell? ⟨gb14001, 1, none⟩ = some (.int .i64 a0_1) := (blk_cell BK14001.out 1).trans rfl; have hcz8_2 : w5.cell? ⟨gb14001, 2, none⟩ = some (.int .i64 a0_2) := (blk_cell BK14001.out 2).trans rfl; have hcz8_3 : w5.cell? ⟨gb14001, 3, none⟩ = some (.slice A0_3 l0_3.length c0_3) := (blk_cell BK14001.out 3).trans rfl; have hfz8_0 := blk_frozen BK14001.out 0; have hfz8_1 := blk_frozen BK14001.out 1; have hfz8_2 := blk_frozen BK14001.out 2; have hfz8_3 := blk_frozen BK14001.out 3; have hnb9 := NB14003_14002.out; have hnc9 := NB14002_14003.out; have hcz10_0 : w5.cell? ⟨gb14003, 0, none⟩ = some (.int .i64 0) := (blk_cell BK14003.out 0).trans rfl; have hcz10_1 : w5.cell? ⟨gb14003, 1, none⟩ = some (.int .i64 0) := (blk_cell BK14003.out 1).trans rfl; have hcz10_2 : w5.cell? ⟨gb14003, 2, none⟩ = some (.int .i64 0) := (blk_cell BK14003.out 2).trans rfl; have hcz10_3 : w5.cell? ⟨gb14003, 3, none⟩ = some (.slice none 0 0) := (blk_cell BK14003.out 3).trans rfl; have hfz10_0 := blk_frozen BK14003.out 0; have hfz10_1 := blk_frozen BK14003.out 1; have hfz10_2 := blk_frozen BK14003.out 2; have hfz10_3 := blk_frozen BK14003.out 3) | ((with_reducible refine gate_callee (f := 47) rfl ?_); refine goesL_ (some 15) rfl rfl Try.func47 (by kernel_rfl) rfl #[.slice A0_3 l0_3.length c0_3] rfl (by (try simp only [List.map_toArray, List.map_cons, List.map_nil]); first | done | rfl | (simp only [List.length_drop, List.length_take]; rfl)) ?_; (with_reducible refine (laws_toIntS.calls k _ _ l0_3 t14004 _ ?side1 ?side2 A2.out).mono ?_); (case side1 => exact Kd.C_below HR0_3.out (by repeat (first | (with_reducible first | exact HB.out | apply below_alloc | apply pw_below_drewN | apply below_drew1 | refine below_set ?_ GE14001.out | refine below_set ?_ GE14002.out | refine below_set ?_ GE14003.out) | exact HB.out))); (case side2 => exact HC0_3.out); rintro e w11 ⟨v14005, rfl, ho0, hb⟩; refine ⟨_, rfl, ?_⟩; have n0_ := Aside0.mk (Kd.R_lower ho0 (below_size (by repeat (first | (with_reducible first | exact HB.out | apply below_alloc | apply pw_below_drewN | apply below_drew1 | refine below_set ?_ GE14001.out | refine below_set ?_ GE14002.out | refine below_set ?_ GE14003.out) | exact HB.out)))); have n1_ := Aside0.mk (blk_below (g := gb14001) (o := .cells #[.int .i64 a0_0, .int .i64 a0_1, .int .i64 a0_2, .slice A0_3 l0_3.length c0_3] 24 (0, 0)) (by (with_reducible repeat (first | refine blk_drewN ?_ _ | refine blk_drew ?_ | refine blk_alloc ?_ _)); refine blk_far ?_ NB14001_14003.out _; (with_reducible repeat (first | refine blk_drewN ?_ _ | refine blk_drew ?_ | refine blk_alloc ?_ _)); refine blk_far ?_ NB14001_14003.out _; (with_reducible repeat (first | refine blk_drewN ?_ _ | refine blk_drew ?_ | refine blk_alloc ?_ _)); refine blk_far ?_ NB14001_14003.out _; (with_reducible repeat (first | refine blk_drewN ?_ _ | refine blk_drew ?_ | refine blk_alloc ?_ _)); exact BK14001.out) hb); have n2_ := Aside0.mk (blk_below (g := gb14002) (o := .cells #[.int .i64 0, .int .i64 0, .int .i64 0, .slice none 0 0] 28 (0, 0)) (by (with_reducible repeat (first | refine blk_drewN ?_ _ | refine blk_drew ?_ | refine blk_alloc ?_ _)); refine blk_far ?_ NB14002_14003.out _; (with_reducible repeat (first | refine blk_drewN ?_ _ | refine blk_drew ?_ | refine blk_alloc ?_ _)); refine blk_far ?_ NB14002_14003.out _; (with_reducible repeat (first | refine blk_drewN ?_ _ | refine blk_drew ?_ | refine blk_alloc ?_ _)); refine blk_far ?_ NB14002_14003.out _; (with_reducible repeat (first | refine blk_drewN ?_ _ | refine blk_drew ?_ | refine blk_alloc ?_ _)); exact BK14002.out) hb); have n3_ := Aside0.mk (blk_below (g := gb14003) (o := .cells #[.int .i64 a0_0, .int .i64 a0_1, .int .i64 a0_2, .slice none 0 0] 28 (0, 0)) (by (with_reducible repeat (first | refine blk_drewN ?_ _ | refine blk_drew ?_ | refine blk_alloc ?_ _)); refine blk_put (cs := #[.int .i64 a0_0, .int .i64 a0_1, .int .i64 0, .slice none 0 0]) ?_ 2 _ rfl; (with_reducible repeat (first | refine blk_drewN ?_ _ | refine blk_drew ?_ | refine blk_alloc ?_ _)); refine blk_put (cs := #[.int .i64 a0_0, .int .i64 0, .int .i64 0, .slice none 0 0]) ?_ 1 _ rfl; (with_reducible repeat (first | refine blk_drewN ?_ _ | refine blk_drew ?_ | refine blk_alloc ?_ _)); refine blk_put (cs := #[.int .i64 0, .int .i64 0, .int .i64 0, .slice none 0 0]) ?_ 0 _ rfl; (with_reducible repeat (first | refine blk_drewN ?_ _ | refine blk_drew ?_ | refine blk_alloc ?_ _)); exact BK14003.out) hb); have n4_ := Aside0.mk (below_step (by repeat (first | (with_reducible first | exact HB.out | apply below_alloc | apply pw_below_drewN | apply below_drew1 | refine below_set ?_ GE14001.out | refine below_set ?_ GE14002.out | refine below_set ?_ GE14003.out) | exact HB.out)) hb); clear BK14001; clear BK14002; clear BK14003; clear HB; have HO14006 := n0_; have BK14001 := n1_; have BK14002 := n2_; have BK14003 := n3_; have HB := n4_; clear n0_ n1_ n2_ n3_ n4_; (try clear hb); (try clear hb2); (try clear hk); (try clear hi); (try clear ho0); obtain ⟨Ao12, co12, eo12⟩ := Kd.R_slice HO14006.out; subst eo12; have hcz13_0 : w11.cell? ⟨gb14003, 0, none⟩ = some (.int .i64 a0_0) := (blk_cell BK14003.out 0).trans rfl; have hcz13_1 : w11.cell? ⟨gb14003, 1, none⟩ = some (.int .i64 a0_1) := (blk_cell BK14003.out 1).trans rfl; have hcz13_2 : w11.cell? ⟨gb14003, 2, none⟩ = some (.int .i64 a0_2) := (blk_cell BK14003.out 2).trans rfl; have hcz13_3 : w11.cell? ⟨gb14003, 3, none⟩ = some (.slice none 0 0) := (blk_cell BK14003.out 3).trans rfl; have hfz13_0 := blk_frozen BK14003.out 0; have hfz13_1 := blk_frozen BK14003.out 1; have hfz13_2 := blk_frozen BK14003.out 2; have hfz13_3 := blk_frozen BK14003.out 3; have hcz14_0 : w11.cell? ⟨gb14002, 0, none⟩ = some (.int .i64 0) := (blk_cell BK14002.out 0).trans rfl; have hcz14_1 : w11.cell? ⟨gb14002, 1, none⟩ = some (.int .i64 0) := (blk_cell BK14002.out 1).trans rfl; have hcz14_2 : w11.cell? ⟨gb14002, 2, none⟩ = some (.int .i64 0) := (blk_cell BK14002.out 2).trans rfl; have hcz14_3 : w11.cell? ⟨gb14002, 3, none⟩ = some (.slice none 0 0) := (blk_cell BK14002.out 3).trans rfl; have hfz14_0 := blk_frozen BK14002.out 0; have hfz14_1 := blk_frozen BK14002.out 1; have hfz14_2 := blk_frozen BK14002.out 2; have hfz14_3 := blk_frozen BK14002.out 3))
  refine bodyPost_ret (results_cell_row rfl _ _ gb14002 28 #[.int .i64 a0_0, .int .i64 a0_1, .int .i64 a0_2, .slice Ao12 t14004.length co12] (0, 0) _ rfl (by (with_reducible repeat (first | refine blk_drewN ?_ _ | refine blk_drew ?_ | refine blk_alloc ?_ _)); refine blk_put (cs := #[.int .i64 a0_0, .int .i64 a0_1, .int .i64 a0_2, .slice none 0 0]) ?_ 3 _ rfl; (with_reducible repeat (first | refine blk_drewN ?_ _ | refine blk_drew ?_ | refine blk_alloc ?_ _)); refine blk_put (cs := #[.int .i64 a0_0, .int .i64 a0_1, .int .i64 0, .slice none 0 0]) ?_ 2 _ rfl; (with_reducible repeat (first | refine blk_drewN ?_ _ | refine blk_drew ?_ | refine blk_alloc ?_ _)); refine blk_put (cs := #[.int .i64 a0_0, .int .i64 0, .int .i64 0, .slice none 0 0]) ?_ 1 _ rfl; (with_reducible repeat (first | refine blk_drewN ?_ _ | refine blk_drew ?_ | refine blk_alloc ?_ _)); refine blk_put (cs := #[.int .i64 0, .int .i64 0, .int .i64 0, .slice none 0 0]) ?_ 0 _ rfl; (with_reducible repeat (first | refine blk_drewN ?_ _ | refine blk_drew ?_ | refine blk_alloc ?_ _)); refine blk_far ?_ NB14002_14003.out _; (with_reducible repeat (first | refine blk_drewN ?_ _ | refine blk_drew ?_ | refine blk_alloc ?_ _)); exact BK14002.out) Try.underlying28 rfl (by kernel_rfl)) rfl ?_
  exact ⟨_, by first | rfl | (simp [errW_none, errW_some] <;> rfl) | (simp [*, errW_none, errW_some] <;> rfl), by (with_reducible repeat (first | apply Kd.R_alloc | apply Kd.R_drewN | apply Kd.R_drew)); exact Kd.R_mono (Kd.R_far (p := ⟨gb14002, 3, none⟩) (Kd.R_far (p := ⟨gb14002, 2, none⟩) (Kd.R_far (p := ⟨gb14002, 1, none⟩) (Kd.R_far (p := ⟨gb14002, 0, none⟩) (Kd.R_far (p := ⟨gb14003, 3, none⟩) (Kd.R_types (Kd.R_types HO14006.out BK14003.out (by decide)) BK14002.out (by decide)) (fun _ hk => hk.1.2) (.slice Ao12 t14004.length co12)) (fun _ hk => hk.2) (.int .i64 a0_0)) (fun _ hk => hk.2) (.int .i64 a0_1)) (fun _ hk => hk.2) (.int .i64 a0_2)) (fun _ hk => hk.2) (.slice Ao12 t14004.length co12)) (fun _ hk => trivial), by repeat (first | (with_reducible first | exact HB.out | apply below_alloc | apply pw_below_drewN | apply below_drew1 | refine below_set ?_ GE14001.out | refine below_set ?_ GE14002.out | refine below_set ?_ GE14003.out) | exact HB.out)⟩

end Go.Proofs.Ytbgohbinonkhfaa.Q

/- Words of this session's own hand-made walks: where the first element lies for which a test holds; draws that follow each other. -/
namespace Go.Proofs.Ytbgohbinonkhfaa.Q
open Go.RowKit Go.Proofs.YtbgohbinonkhfaaW.PrintWords Go.Proofs.YtbgohbinonkhfaaW.PrintLast Go.Proofs.YtbgohbinonkhfaaW.PrintMore
attribute [local go_sem] max2_int min2_int max_two min_two max_three min_three max_four min_four
set_option linter.unusedVariables false
set_option linter.unusedSimpArgs false

theorem dtrans {a b c : World} (h : Drawn0 a b) (k : Drawn0 b c) : Drawn0 a c := by
  obtain ⟨n, rfl⟩ := k
  exact h.step n

/-- where the first element is for which p holds; -1 -/
def idxF {α : Type} (p : α → Bool) : List α → Int
  | [] => -1
  | x :: xs => if p x then 0 else (let r := idxF p xs; if r < 0 then -1 else r + 1)
theorem idxF_any {α : Type} (p : α → Bool) (l : List α) : decide (idxF p l ≥ 0) = l.any p := by
  induction l with
  | nil => simp [idxF]
  | cons x xs ih =>
    unfold idxF
    by_cases h : p x = true
    · simp [h]
    · simp only [h, List.any_cons, Bool.false_or, ← ih]
      simp only [Bool.false_eq_true, if_false]
      split
      · simp; omega
      · simp; omega
/-- p fails at all that lies before k -/
def SawNone {α : Type} (p : α → Bool) (l : List α) (k : Nat) : Prop := ∀ j, j < k → ∀ h : j < l.length, p l[j] = false
theorem SawNone.succ {α : Type} {p : α → Bool} {l : List α} {k : Nat} (h : SawNone p l k) (hk : k < l.length) (hp : p l[k] = false) : SawNone p l (k + 1) := by
  intro j hj hl
  by_cases e : j = k
  · subst e; exact hp
  · exact h j (by omega) hl
theorem idxF_at {α : Type} (p : α → Bool) (l : List α) (k : Nat) (hk : k < l.length) (hs : SawNone p l k) (hp : p l[k] = true) : idxF p l = k := by
  induction l generalizing k with
  | nil => simp at hk
  | cons x xs ih =>
    unfold idxF
    cases k with
    | zero => simp at hp; simp [hp]
    | succ k =>
      have h0 : p x = false := hs 0 (by omega) (by simp)
      have := ih k (by simpa using hk) (fun j hj h => hs (j + 1) (by omega) (by simpa using h)) (by simpa using hp)
      simp [h0, this]; omega
theorem idxF_none {α : Type} (p : α → Bool) (l : List α) (hs : SawNone p l l.length) : idxF p l = -1 := by
  induction l with
  | nil => rfl
  | cons x xs ih =>
    unfold idxF
    have h0 : p x = false := hs 0 (by simp) (by simp)
    have := ih (fun j hj h => hs (j + 1) (by simpa using hj) (by simpa using h))
    simp [h0, this]
theorem rd_get (l : List Int) (k : Nat) (hk : k < l.length) : rd l k = l[k] := by simp [rd, hk]
theorem ret_bool {a b : Bool} (h : a = b) : Ending.returned (.bool a) = .returned (.bool b) := by rw [h]
theorem R_empty {α : Type} (d : Kd α) (e base : Nat) (W : World) (hb : base ≤ W.heap.size) : d.R e (W.alloc (.cells #[] e)) base (fun _ => True) (.slice (some ⟨W.heap.size, 0, none⟩) 0 0) [] :=
  ⟨fun _ _ => trivial, OwnRow.lit (ps := []) (inner := []) W base (Reps.none _ _) hb (by simp)⟩
end Go.Proofs.Ytbgohbinonkhfaa.Q

/- Plain words: numbers that do not wrap, elements of lists, rounds that are enough. -/
namespace Go.Proofs.Ytbgohbinonkhfaa.Pure
open Go.RowKit Go.Proofs.Ytbgohbinonkhfaa.Q Go.Proofs.YtbgohbinonkhfaaW.PrintWords Go.Proofs.YtbgohbinonkhfaaW.PrintLast Go.Proofs.YtbgohbinonkhfaaW.PrintMore
set_option linter.unusedVariables false
set_option linter.unusedSimpArgs false

theorem w64 {x : Int} (h1 : -9223372036854775808 ≤ x) (h2 : x ≤ 9223372036854775807) : wrap64 x = x := by unfold wrap64; omega
theorem w64n (n : Nat) (h : n < 9223372036854775807) : wrap64 ((n : Int) + 1) = ((n + 1 : Nat) : Int) := by unfold wrap64; omega
theorem rd_nat (l : List Int) (i : Nat) (h : i < l.length) : rd l (i : Int) = l[i] := by simp [rd, h]
/-- From K rounds on. -/
theorem ev_of {α : Type} {g : Nat → Option α} {r : α} (K : Nat) (h : ∀ k, K < k → g k = some r) : Ev g r := ⟨K + 1, fun k hk => h k (by omega)⟩
theorem ev_const {α : Type} {o : Option α} {r : α} (h : o = some r) : Ev (fun _ => o) r := ⟨0, fun _ _ => h⟩
theorem ev_bind {α β : Type} {g : Nat → Option α} {f : Nat → α → Option β} {a : α} {r : β} (h : Ev g a) (k : Ev (fun n => f n a) r) : Ev (fun n => (g n).bind (f n)) r := Ev.bind h k
theorem ev_now {α β : Type} {o : Option α} {f : Nat → α → Option β} {a : α} {r : β} (h : o = some a) (k : Ev (fun n => f n a) r) : Ev (fun n => o.bind (f n)) r := Ev.bind (ev_const h) k
theorem ev_pos {α : Type} {c : Prop} [Decidable c] {f g : Nat → Option α} {r : α} (h : c) (k : Ev f r) : Ev (fun n => if c then f n else g n) r := by
  simpa [h] using k
theorem ev_neg {α : Type} {c : Prop} [Decidable c] {f g : Nat → Option α} {r : α} (h : ¬ c) (k : Ev g r) : Ev (fun n => if c then f n else g n) r := by
  simpa [h] using k
/-- A loop that counts up to n: what it answers from i on. -/
theorem loop_up {σ ρ : Type} (K n : Nat) (L : Nat → Nat → σ → Option ρ) (Inv : Nat → σ → Prop) (F : Nat → σ → ρ)
    (step : ∀ i s k, i < n → Inv i s → K ≤ k → (L (k + 1) i s = some (F i s)) ∨ ∃ s', L (k + 1) i s = L k (i + 1) s' ∧ Inv (i + 1) s' ∧ F (i + 1) s' = F i s)
    (last : ∀ s k, Inv n s → K ≤ k → L (k + 1) n s = some (F n s)) :
    ∀ d i s k, i + d = n → Inv i s → K + d < k → L k i s = some (F i s) := by
  intro d
  induction d with
  | zero =>
    intro i s k hi hinv hk
    obtain ⟨k, rfl⟩ : ∃ m, k = m + 1 := ⟨k - 1, by omega⟩
    have : i = n := by omega
    subst this
    exact last s k hinv (by omega)
  | succ d ih =>
    intro i s k hi hinv hk
    obtain ⟨k, rfl⟩ : ∃ m, k = m + 1 := ⟨k - 1, by omega⟩
    rcases step i s k (by omega) hinv (by omega) with h | ⟨s', h, hi', hF⟩
    · exact h
    · rw [h, ih (i + 1) s' k (by omega) hi' (by omega), hF]
/-- The same, from some number of rounds on: for loops in loops. -/
theorem ev_up {σ ρ : Type} (n : Nat) (L : Nat → Nat → σ → Option ρ) (Inv : Nat → σ → Prop) (F : Nat → σ → ρ)
    (step : ∀ i s, i < n → Inv i s → Ev (fun k => L k i s) (F i s) ∨ ∃ s', (∀ k, L (k + 1) i s = L k (i + 1) s') ∧ Inv (i + 1) s' ∧ F (i + 1) s' = F i s)
    (last : ∀ s, Inv n s → Ev (fun k => L k n s) (F n s)) :
    ∀ d i s, i + d = n → Inv i s → Ev (fun k => L k i s) (F i s) := by
  intro d
  induction d with
  | zero =>
    intro i s hi hinv
    have : i = n := by omega
    subst this
    exact last s hinv
  | succ d ih =>
    intro i s hi hinv
    rcases step i s (by omega) hinv with h | ⟨s', h, hi', hF⟩
    · exact h
    · rw [← hF]
      exact Ev.step h (ih (i + 1) s' (by omega) hi')
theorem ev_up2 {σ ρ : Type} (n : Nat) (L : Nat → Nat → σ → Option ρ) (Inv : Nat → σ → Prop) (F : Nat → σ → ρ)
    (step : ∀ i s, i < n → Inv i s → Ev (fun k => L k i s) (F i s) ∨ ∃ s', (∀ r, Ev (fun k => L k (i + 1) s') r → Ev (fun k => L k i s) r) ∧ Inv (i + 1) s' ∧ F (i + 1) s' = F i s)
    (last : ∀ s, Inv n s → Ev (fun k => L k n s) (F n s)) :
    ∀ d i s, i + d = n → Inv i s → Ev (fun k => L k i s) (F i s) := by
  intro d
  induction d with
  | zero =>
    intro i s hi hinv
    have : i = n := by omega
    subst this
    exact last s hinv
  | succ d ih =>
    intro i s hi hinv
    rcases step i s (by omega) hinv with h | ⟨s', h, hi', hF⟩
    · exact h
    · rw [← hF]
      exact h _ (ih (i + 1) s' (by omega) hi')
theorem ev_val {α : Type} {g : Nat → Option α} {r r' : α} (h : Ev g r) (e : r = r') : Ev g r' := e ▸ h
theorem take_set {α : Type} (s : List α) (i : Nat) (c : α) (h : i < s.length) : (s.set i c).take (i + 1) = s.take i ++ [c] := by
  rw [List.take_succ_eq_append_getElem (by simpa using h), List.take_set_of_le (Nat.le_refl i)]
  simp
end Go.Proofs.Ytbgohbinonkhfaa.Pure

/- (impl.Image).at: the numbers of a pixel, in the memory of the image. -/
namespace Go.Proofs.Ytbgohbinonkhfaa.Q
open Go.RowKit Go.Proofs.YtbgohbinonkhfaaW.PrintWords Go.Proofs.YtbgohbinonkhfaaW.PrintLast Go.Proofs.YtbgohbinonkhfaaW.PrintMore
attribute [local go_sem] max2_int min2_int max_two min_two max_three min_three max_four min_four
set_option linter.unusedVariables false
set_option linter.unusedSimpArgs false
open Go.Proofs.Ytbgohbinonkhfaa.Pure

/-- the numbers from j on, p of them -/
def pixT (d : List Int) (j p : Int) : List Int := (d.take (wrap64 (j + p) : Int).toNat).drop (j : Int).toNat
set_option maxHeartbeats 1600000 in
set_option maxRecDepth 100000 in
theorem at_calls (a b p : Int) (A : Option Addr) (c : Nat) (d : List Int) (x y j : Int) (hc : d.length ≤ c) (hj : wrap64 ((wrap64 ((wrap64 (y * a)) + x)) * p) = j) (h0 : 0 ≤ j) (h1 : j ≤ wrap64 (j + p)) (h2 : wrap64 (j + p) ≤ (d.length : Int)) :
    ∃ (A' : Option Addr) (c' : Nat), (pixT d j p).length ≤ c' ∧ ∀ w : World, Kd.C (Kd.int .i64) w A d.length d → (Kd.C (Kd.int .i64) w A' (pixT d j p).length (pixT d j p) ∧
      Calls Try.prog 59 #[.agg #[.int .i64 a, .int .i64 b, .int .i64 p, .slice A d.length c], .int .i64 x, .int .i64 y] w fun e w' => e = .returned (.slice A' (pixT d j p).length c') ∧ Below w.heap.size w w') := by
  obtain ⟨i0, hi0, _, hsz, _⟩ := info_parts info3
  obtain ⟨A', hcut, hA, hC⟩ := print_mid_of (P := Try.prog) (Value.int .i64) 0 22 3 .i64 .i64 Try.underlying22 hi0 hsz A c d j (wrap64 (j + p)) h0 h1 h2 hc
  refine ⟨A', c - j.toNat, hC, fun w hr => ⟨Kd.C_of_reads (h1 := fun _ => rfl) (hA _ (Kd.reads_of_C hr)), ?_⟩⟩
  have hu := Try.underlying28
  have hjw : (IntKind.i64.wrap ((wrap64 ((wrap64 (y * a)) + x)) * p)) = j := (i64_w _).trans hj
  have d0 : decide (0 ≤ j) = true := decide_eq_true h0
  have d1 : decide (j ≤ wrap64 (j + p)) = true := decide_eq_true h1
  have d2 : decide (wrap64 (j + p) ≤ (d.length : Int)) = true := decide_eq_true h2
  have e0 := eq_true h0
  have e1 := eq_true h1
  have e2 := eq_true h2
  clear hA hC hi0 hsz hr hj
  go_enter Try.func59, Try.ntmps59
  go_wp2_with (first | ((with_reducible refine gate_dst (N := 3) rfl ?_); refine box_event ?hg (N := 3) ?hd (cs := #[.int .i64 a, .int .i64 b, .int .i64 p, .slice A d.length c]) (t := 28) ?hr ?_; (case hd => rfl); (case hg => rfl); (case hr => first | (go_simp; done) | (go_simp; rfl)); intro gb hg w9 hbox hb; have HB := Aside0.mk (below_step (Below.refl w.heap.size w) hb); have BK := Aside0.mk hbox; have hcz0 : w9.cell? ⟨gb, 0, none⟩ = some (.int .i64 a) := (blk_cell BK.out 0).trans rfl; have hcz1 : w9.cell? ⟨gb, 1, none⟩ = some (.int .i64 b) := (blk_cell BK.out 1).trans rfl; have hcz2 : w9.cell? ⟨gb, 2, none⟩ = some (.int .i64 p) := (blk_cell BK.out 2).trans rfl; have hcz3 : w9.cell? ⟨gb, 3, none⟩ = some (.slice A d.length c) := (blk_cell BK.out 3).trans rfl; clear hbox hb hg))
  go_ret
  exact ⟨by rw [show (pixT d j p).length = (wrap64 (j + p)).toNat - j.toNat from by unfold pixT; rw [List.length_drop, List.length_take, Nat.min_eq_left (by omega)]]; rfl, HB.out⟩
end Go.Proofs.Ytbgohbinonkhfaa.Q

namespace Go.Proofs.Ytbgohbinonkhfaa.Q
open Go.RowKit Go.Proofs.YtbgohbinonkhfaaW.PrintWords Go.Proofs.YtbgohbinonkhfaaW.PrintLast Go.Proofs.YtbgohbinonkhfaaW.PrintMore
attribute [local go_sem] max2_int min2_int max_two min_two max_three min_three max_four min_four
set_option linter.unusedVariables false
set_option linter.unusedSimpArgs false
/-! ### slices_Equal_int_int: function 94 -/
def slices_Equal_int_int.l0 : Nat → List Int → List Int → Int → Int → Option (Bool)
  | 0, _, _, _, _ => none
  | k + 1, x0, x1, x12, x13 => if x13 < x12 then (if 0 ≤ x13 then (if x13 < (x0.length : Int) then (if x13 < (x1.length : Int) then (if (rd x0 x13) = (rd x1 x13) then (slices_Equal_int_int.l0 k x0 x1 x12 (wrap64 (x13 + 1))) else (some false)) else (none)) else (none)) else (none)) else (some true)
def slices_Equal_int_int.f (k : Nat) (l0 : List Int) (l1 : List Int) : Option (Bool) := if (l0.length : Int) = (l1.length : Int) then (slices_Equal_int_int.l0 k l0 l1 (l0.length : Int) 0) else (some false)
theorem slices_Equal_int_int.mono_l : ∀ k, (∀ y0 y1 y2 y3, LeO (slices_Equal_int_int.l0 k y0 y1 y2 y3) (slices_Equal_int_int.l0 (k + 1) y0 y1 y2 y3))
  | 0 => fun _ _ _ _ r h => by simp [slices_Equal_int_int.l0] at h
  | k + 1 => by
    have ih0 := slices_Equal_int_int.mono_l k
    · intro y0 y1 y2 y3
      unfold slices_Equal_int_int.l0
      repeat' first
      | (with_reducible exact ih0 _ _ _ _)
      | (with_reducible exact LeO.refl _)
      | (with_reducible exact LeO.none _)
      | (with_reducible refine LeO.ite ?_ ?_)
      | (with_reducible refine LeO.bind ?_ (fun _ => ?_))
      | exact ih0 _ _ _ _
      | exact LeO.none _
      | refine LeO.ite ?_ ?_
      | refine LeO.bind ?_ (fun _ => ?_)
theorem slices_Equal_int_int.mono : ∀ a0 a1 k, LeO (slices_Equal_int_int.f k a0 a1) (slices_Equal_int_int.f (k + 1) a0 a1) := by
  intro a0 a1 k
  have ih0 := slices_Equal_int_int.mono_l k
  unfold slices_Equal_int_int.f
  repeat' first
      | (with_reducible exact ih0 _ _ _ _)
      | (with_reducible exact LeO.refl _)
      | (with_reducible exact LeO.none _)
      | (with_reducible refine LeO.ite ?_ ?_)
      | (with_reducible refine LeO.bind ?_ (fun _ => ?_))
      | exact ih0 _ _ _ _
      | exact LeO.none _
      | refine LeO.ite ?_ ?_
      | refine LeO.bind ?_ (fun _ => ?_)
set_option maxHeartbeats 8000000 in
set_option maxRecDepth 100000 in
theorem slices_Equal_int_int.calls (k : Nat) (A0 : Option Addr) (c0 : Nat) (l0 : List Int) (A1 : Option Addr) (c1 : Nat) (l1 : List Int) (r : Bool) (w : World) (hr0 : Kd.C (Kd.int .i64) w A0 l0.length l0) (hc0 : l0.length ≤ c0) (hr1 : Kd.C (Kd.int .i64) w A1 l1.length l1) (hc1 : l1.length ≤ c1) (h : slices_Equal_int_int.f k l0 l1 = some r) :
    Calls Try.prog 94 #[.slice A0 l0.length c0, .slice A1 l1.length c1] w fun e w' => e = .returned (.bool r) ∧ Drawn0 w w' := by
  have HR0 := Aside0.mk hr0
  have HC0 := Aside0.mk hc0
  clear hr0 hc0
  have HR1 := Aside0.mk hr1
  have HC1 := Aside0.mk hc1
  clear hr1 hc1
  have H : (if (l0.length : Int) = (l1.length : Int) then (slices_Equal_int_int.l0 k l0 l1 (l0.length : Int) 0) else (some false)) = some r := h
  clear h
  by_cases c3 : (l0.length : Int) = (l1.length : Int)
  · rw [if_pos c3] at H
    have c3b0 : ((l0.length : Int) == (l1.length : Int)) = true := beq_iff_eq.mpr c3
    have c3b1 : ((l0.length : Int) != (l1.length : Int)) = false := bne_eq_false_iff_eq.mpr c3
    have c3b2 : (l0.length == l1.length) = true := by first | simpa using c3 | (simp at c3 ⊢; omega)
    clear c3
    have H' := Aside0.mk H
    clear H
    go_enter Try.func94, Try.ntmps94
    go_wp2
    repeat (go_quiet (fail); try go_wp2)
    go_loopg [13] k (fun kq v13 w' => ∃ (x13_1 : Int), v13 = .int .i64 x13_1 ∧ Aside0 (slices_Equal_int_int.l0 kq l0 l1 (l0.length : Int) x13_1 = some r) ∧ Aside0 (kq ≤ k) ∧ Drawn0 w w')
    case atStart => exact ⟨(0), (by first | rfl | (simp; done) | (simp [*]; done)), H', ⟨Nat.le_refl _⟩, by repeat (first | exact Drawn0.refl _ | apply Drawn0.step)⟩
    case round =>
      clear H'
      try clear c1
      try clear p2
      try clear c3
      try clear c3b0
      try clear c3b1
      try clear c3b2
      obtain ⟨x13_1, rfl, HA, HK1, ⟨m1, rfl⟩⟩ := hrel
      cases gk with
      | zero => exact absurd HA.out (by simp [slices_Equal_int_int.l0])
      | succ k1 =>
        have H := HA.out
        clear HA
        simp only [slices_Equal_int_int.l0] at H
        by_cases c4 : x13_1 < (l0.length : Int)
        · rw [if_pos c4] at H
          have c4b0 : decide (x13_1 < (l0.length : Int)) = true := decide_eq_true c4
          clear c4
          by_cases c5 : 0 ≤ x13_1
          · rw [if_pos c5] at H
            have c5b0 : decide (0 ≤ x13_1) = true := decide_eq_true c5
            clear c5
            by_cases c6 : x13_1 < (l0.length : Int)
            · rw [if_pos c6] at H
              have c6b0 : decide (x13_1 < (l0.length : Int)) = true := decide_eq_true c6
              clear c6
              by_cases c7 : x13_1 < (l1.length : Int)
              · rw [if_pos c7] at H
                have c7b0 : decide (x13_1 < (l1.length : Int)) = true := decide_eq_true c7
                clear c7
                by_cases c8 : (rd l0 x13_1) = (rd l1 x13_1)
                · rw [if_pos c8] at H
                  have c8b0 : ((rd l0 x13_1) == (rd l1 x13_1)) = true := beq_iff_eq.mpr c8
                  have c8b1 : ((rd l0 x13_1) != (rd l1 x13_1)) = false := bne_eq_false_iff_eq.mpr c8
                  clear c8
                  have H' := Aside0.mk H
                  clear H
                  have p95001 : 0 ≤ (x13_1 : Int) := of_decide_eq_true (by first | (with_reducible assumption) | assumption)
                  have q95001 : x13_1 < (l0.length : Int) := of_decide_eq_true (by first | (with_reducible assumption) | assumption)
                  obtain ⟨ad95001, e95001, hx95001_0⟩ := Kd.at_int HR0.out x13_1 p95001 q95001
                  cases e95001
                  replace p95001 := eq_true p95001
                  replace q95001 := eq_true q95001
                  have p95002 : 0 ≤ (x13_1 : Int) := of_decide_eq_true (by first | (with_reducible assumption) | assumption)
                  have q95002 : x13_1 < (l1.length : Int) := of_decide_eq_true (by first | (with_reducible assumption) | assumption)
                  obtain ⟨ad95002, e95002, hx95002_0⟩ := Kd.at_int HR1.out x13_1 p95002 q95002
                  cases e95002
                  replace p95002 := eq_true p95002
                  replace q95002 := eq_true q95002
                  go_wp2
                  repeat (go_quiet (fail); try go_wp2)
                  go_roundg k1
                  case measure => have := HK1.out; omega
                  case rel => exact ⟨(wrap64 (x13_1 + 1)), (by first | rfl | (simp; done) | (simp [*]; done)), H', ⟨by have := HK1.out; omega⟩, by repeat (first | exact Drawn0.refl _ | apply Drawn0.step)⟩
                · rw [if_neg c8] at H
                  have c8b0 : ((rd l0 x13_1) == (rd l1 x13_1)) = false := beq_eq_false_iff_ne.mpr c8
                  have c8b1 : ((rd l0 x13_1) != (rd l1 x13_1)) = true := bne_iff_ne.mpr c8
                  obtain rfl := Option.some.inj H
                  have p95001 : 0 ≤ (x13_1 : Int) := of_decide_eq_true (by first | (with_reducible assumption) | assumption)
                  have q95001 : x13_1 < (l0.length : Int) := of_decide_eq_true (by first | (with_reducible assumption) | assumption)
                  obtain ⟨ad95001, e95001, hx95001_0⟩ := Kd.at_int HR0.out x13_1 p95001 q95001
                  cases e95001
                  replace p95001 := eq_true p95001
                  replace q95001 := eq_true q95001
                  have p95002 : 0 ≤ (x13_1 : Int) := of_decide_eq_true (by first | (with_reducible assumption) | assumption)
                  have q95002 : x13_1 < (l1.length : Int) := of_decide_eq_true (by first | (with_reducible assumption) | assumption)
                  obtain ⟨ad95002, e95002, hx95002_0⟩ := Kd.at_int HR1.out x13_1 p95002 q95002
                  cases e95002
                  replace p95002 := eq_true p95002
                  replace q95002 := eq_true q95002
                  go_wp2
                  repeat (go_quiet (fail); try go_wp2)
                  go_ret
                  exact ⟨by first | rfl | (simp; done) | (simp [*]; done), by repeat (first | exact Drawn0.refl _ | apply Drawn0.step)⟩
              · rw [if_neg c7] at H
                exact absurd H (by simp)
            · rw [if_neg c6] at H
              exact absurd H (by simp)
          · rw [if_neg c5] at H
            exact absurd H (by simp)
        · rw [if_neg c4] at H
          have c4b0 : decide (x13_1 < (l0.length : Int)) = false := decide_eq_false c4
          clear c4
          obtain rfl := Option.some.inj H
          go_wp2
          repeat (go_quiet (fail); try go_wp2)
          go_ret
          exact ⟨by first | rfl | (simp; done) | (simp [*]; done), by repeat (first | exact Drawn0.refl _ | apply Drawn0.step)⟩
  · rw [if_neg c3] at H
    have c3b0 : ((l0.length : Int) == (l1.length : Int)) = false := beq_eq_false_iff_ne.mpr c3
    have c3b1 : ((l0.length : Int) != (l1.length : Int)) = true := bne_iff_ne.mpr c3
    have c3b2 : (l0.length == l1.length) = false := by first | simpa using c3 | (simp at c3 ⊢; omega)
    obtain rfl := Option.some.inj H
    go_enter Try.func94, Try.ntmps94
    go_wp2
    repeat (go_quiet (fail); try go_wp2)
    go_ret
    exact ⟨by first | rfl | (simp; done) | (simp [*]; done), by repeat (first | exact Drawn0.refl _ | apply Drawn0.step)⟩

end Go.Proofs.Ytbgohbinonkhfaa.Q

/- Grids of pixels as the machine has them: 256 cells. -/
namespace Go.Proofs.Ytbgohbinonkhfaa.Q
open Go.RowKit Go.Proofs.YtbgohbinonkhfaaW.PrintWords Go.Proofs.YtbgohbinonkhfaaW.PrintLast Go.Proofs.YtbgohbinonkhfaaW.PrintMore
attribute [local go_sem] max2_int min2_int max_two min_two max_three min_three max_four min_four
set_option linter.unusedVariables false
set_option linter.unusedSimpArgs false

/-- The cells of a grid: pixel p is that in column p % 16 and row p / 16. -/
def gc (g : Nat → Bool) : Array Value := Array.ofFn (n := 256) fun i => .bool (g i.val)
theorem gc_size (g : Nat → Bool) : (gc g).size = 256 := by simp [gc]
theorem gc_get (g : Nat → Bool) (i : Nat) (h : i < 256) : (gc g)[i]? = some (.bool (g i)) := by simp [gc, h]
theorem gc_one (g : Nat → Bool) : (gc g).all (·.oneCell') = true := by
  rw [Array.all_eq_true]
  intro i hi
  simp [gc, Value.oneCell']
theorem gc_set (g : Nat → Bool) (i : Nat) (b : Bool) : (gc g).setIfInBounds i (.bool b) = gc (fun p => if p = i then b else g p) := by
  unfold gc
  apply Array.ext
  · simp
  · intro j h1 h2
    rw [Array.getElem_setIfInBounds (by simpa using h1)]
    simp only [Array.getElem_ofFn]
    by_cases e : i = j
    · subst e; simp
    · rw [if_neg e, if_neg (fun h => e h.symm)]
theorem gc_congr {g g' : Nat → Bool} (h : ∀ p, p < 256 → g p = g' p) : gc g = gc g' := by
  unfold gc
  congr 1
  funext i
  rw [h i.val i.isLt]
theorem zero66 : Try.zeroCells75 = gc (fun _ => false) := by kernel_rfl
theorem info66 : (Try.prog.info? 75).map (·.size) = some 256 := by kernel_rfl
/-- A world in which block B is a grid's. -/
def GridAt (W : World) (B : Nat) (g : Nat → Bool) : Prop := W.heap[B]? = some (.cells (gc g) 75 (0, 0))
theorem GridAt.cell {W : World} {B : Nat} {g : Nat → Bool} (h : GridAt W B g) (i : Nat) (hi : i < 256) : W.cell? ⟨B, i, none⟩ = some (.bool (g i)) := (blk_cell h i).trans (gc_get g i hi)
theorem GridAt.free {W : World} {B : Nat} {g : Nat → Bool} (h : GridAt W B g) (i : Nat) : W.frozen? ⟨B, i, none⟩ = false := blk_frozen h i
theorem GridAt.below {W W' : World} {B : Nat} {g : Nat → Bool} (h : GridAt W B g) (hb : Below W.heap.size W W') : GridAt W' B g := blk_below h hb
theorem GridAt.set_ {W : World} {B : Nat} {g : Nat → Bool} (h : GridAt W B g) (i : Nat) (b : Bool) : GridAt (W.setCell ⟨B, i, none⟩ (.bool b)) B (fun p => if p = i then b else g p) := by
  have := blk_set h i (.bool b)
  rw [gc_set] at this
  exact this
theorem GridAt.new (W : World) (g : Nat → Bool) : GridAt (W.alloc (.cells (gc g) 75)) W.heap.size g := blk_new _ _
theorem GridAt.alloc {W : World} {B : Nat} {g : Nat → Bool} (h : GridAt W B g) (o : Obj) : GridAt (W.alloc o) B g := blk_alloc h o
theorem GridAt.congr {W : World} {B : Nat} {g g' : Nat → Bool} (h : GridAt W B g) (he : ∀ p, p < 256 → g p = g' p) : GridAt W B g' := by
  unfold GridAt at h ⊢
  rw [← gc_congr he]; exact h
theorem GridAt.load {W : World} {B : Nat} {g : Nat → Bool} (h : GridAt W B g) : (loadCellsFrom ⟨B, 0, none⟩ 0 256 #[]).run Try.prog W = .ok (gc g) W := by
  have := run_loadCells_list (P := Try.prog) W ⟨B, 0, none⟩ (gc g).toList (fun j v hv => by
    have hadd : (⟨B, 0, none⟩ : Addr).add j = ⟨B, j, none⟩ := by unfold Addr.add; split <;> simp_all
    rw [hadd, cell_of_row _ _ j _ 75 (0, 0) h]
    simpa using hv)
  simpa [loadCells, gc_size] using this
theorem GridAt.setRow {W : World} {B : Nat} {g : Nat → Bool} (h : GridAt W B g) (g' : Nat → Bool) : GridAt (W.setRow B (gc g')) B g' := setRow_heap W B _ _ _ _ h
theorem below_setRow {B : Nat} {a w : World} (h : Below B a w) {g : Nat} (hg : B ≤ g) (cs : Array Value) : Below B a (w.setRow g cs) :=
  ⟨h.os, h.tape, h.output, by rw [setRow_size]; exact h.size, fun i hi => (setRow_other w g i cs (by omega)).trans (h.block i hi)⟩
theorem underlying66 : Try.prog.underlying 75 = some (.array 16 73) := Try.underlying75
end Go.Proofs.Ytbgohbinonkhfaa.Q

/- impl.gridBy: the grid of the pixels for which a function value's answer is true. -/
namespace Go.Proofs.Ytbgohbinonkhfaa.Q
open Go.RowKit Go.Proofs.YtbgohbinonkhfaaW.PrintWords Go.Proofs.YtbgohbinonkhfaaW.PrintLast Go.Proofs.YtbgohbinonkhfaaW.PrintMore
attribute [local go_sem] max2_int min2_int max_two min_two max_three min_three max_four min_four
set_option linter.unusedVariables false
set_option linter.unusedSimpArgs false

/-- what has been asked so far -/
def gso (so : Nat → Nat → Bool) (n : Nat) : Nat → Bool := fun p => decide (p < n) && so (p % 16) (p / 16)

theorem gso_step (so : Nat → Nat → Bool) (x y : Nat) (hx : x < 16) (p : Nat) : (if p = y * 16 + x then so x y else gso so (16 * y + x) p) = gso so (16 * y + (x + 1)) p := by
  unfold gso
  by_cases e : p = y * 16 + x
  · rw [if_pos e]
    have h1 : p % 16 = x := by omega
    have h2 : p / 16 = y := by omega
    rw [h1, h2]
    simp; omega
  · rw [if_neg e]
    congr 1
    rw [decide_eq_decide]
    omega
set_option maxHeartbeats 8000000 in
set_option maxRecDepth 100000 in
theorem gridBy_calls (q : Nat) (lb : Array Value) (so : Nat → Nat → Bool) (w : World)
    (eg : ∀ args W, (callFunc q args).run Try.prog W = .ok (.enter q args) W)
    (hp : ∀ (W : World) (x y : Nat), x < 16 → y < 16 → Below w.heap.size w W → Calls Try.prog q (#[.int .i64 (x : Int), .int .i64 (y : Int)] ++ lb) W fun e W' => e = .returned (.bool (so x y)) ∧ Below W.heap.size W W') :
    Calls Try.prog 67 #[.func (.func q) #[] lb] w fun e w' => e = .returned (.agg (gc (gso so 256))) ∧ Below w.heap.size w w' := by
  have HP := Aside0.mk hp
  clear hp
  have z0 := zero66
  have hst := run_storeCells_new (P := Try.prog) (w.alloc (.cells (gc fun _ => false) 75)) 75 (gc fun _ => false) (gc fun _ => false) (by rw [gc_size]; exact info66) rfl (gc_one _)
  simp only [World.size_alloc] at hst
  go_enter Try.func67, Try.ntmps67
  go_wp2
  go_loopw [7] (fun v7 W => ∃ y : Nat, v7 = .int .i64 y ∧ y ≤ 16 ∧ GridAt W (w.heap.size + 1) (gso so (16 * y)) ∧ GridAt W w.heap.size (fun _ => false) ∧ Aside0 (Below w.heap.size w W)) (fun v7 _ => 16 - (intOf v7).toNat)
  case atStart =>
    refine ⟨0, rfl, by omega, ?_, (GridAt.new _ _).alloc _, ⟨((Below.refl _ _).alloc (Nat.le_refl _) _).alloc (by simp) _⟩⟩
    have h := GridAt.new (w.alloc (.cells (gc fun _ => false) 75)) (fun _ => false)
    simp only [World.size_alloc] at h
    exact h.congr (fun p _ => by simp [gso])
  case round =>
    obtain ⟨y, rfl, hy, hg, hg2, hb⟩ := hrel
    clear hst
    by_cases hlt : y < 16
    · have hdy : decide ((y : Int) < 16) = true := by simp; omega
      go_wp2
      go_loopw [10] (fun v10 W => ∃ x : Nat, v10 = .int .i64 x ∧ x ≤ 16 ∧ GridAt W (w.heap.size + 1) (gso so (16 * y + x)) ∧ GridAt W w.heap.size (fun _ => false) ∧ Aside0 (Below w.heap.size w W)) (fun v10 _ => 16 - (intOf v10).toNat)
      case atStart => exact ⟨0, rfl, by omega, hg, hg2, hb⟩
      case round =>
        clear hg hg2 hb
        obtain ⟨x, rfl, hx, hg, hg2, hb⟩ := hrel
        by_cases hlx : x < 16
        · have hdx : decide ((x : Int) < 16) = true := by simp; omega
          go_wp2
          go_region_with (first | (go_at_fn q; refine (HP.out _ x y hlx hlt (by first | exact hb.out | exact below_drew hb.out | exact pw_below_drewN hb.out _)).mono ?_; rintro e w' ⟨rfl, hb2⟩; have hgn := Aside0.mk (blk_below (w := wr.drew) hg hb2); have hgn2 := Aside0.mk (blk_below (w := wr.drew) hg2 hb2); have hbn := Aside0.mk (below_then (below_drew hb.out) (below_drew hb.out).size hb2); have hc1 := GridAt.cell hgn.out (y * 16 + x) (by omega); have hf1 := GridAt.free hgn.out (y * 16 + x); clear hb2))
          all_goals
            go_wp2
            go_roundw
            case rel => exact ⟨x + 1, by go_num, by omega, (GridAt.set_ hgn.out (y * 16 + x) (so x y)).congr (fun p _ => gso_step so x y hlx p), blk_far hgn2.out (by simp) _, ⟨below_set hbn.out (by omega)⟩⟩
            case measure => simp [intOf]; omega
        · have hdx : decide ((x : Int) < 16) = false := by simp; omega
          have hx16 : x = 16 := by omega
          subst hx16
          go_wp2
          go_roundw
          case rel => exact ⟨y + 1, by go_num, by omega, hg.congr (fun p _ => by rw [Nat.mul_add]), hg2, hb⟩
          case measure => simp [intOf]; omega
    · have hdy : decide ((y : Int) < 16) = false := by simp; omega
      have hy16 : y = 16 := by omega
      subst hy16
      have hg' : wr.heap[w.heap.size + 1]? = some (.cells (gc (gso so 256)) 75 (0, 0)) := hg
      have hg2' : wr.heap[w.heap.size]? = some (.cells (gc fun _ => false) 75 (0, 0)) := hg2
      have hi : (Try.prog.info? 75).map (·.size) = some (gc (gso so 256)).size := by rw [gc_size]; exact info66
      have hold : (gc fun _ => false).size = (gc (gso so 256)).size := by rw [gc_size, gc_size]
      have h1 := gc_one (gso so 256)
      go_wp2_with (first
        | ((with_reducible refine gate_dst (N := 23) rfl ?_); refine wpList_load_row rfl 75 (.tmp 3) rfl (w.heap.size + 1) rfl 75 (gc (gso so 256)) (0, 0) (.array 16 73) hg' underlying66 rfl hi ?_)
        | ((with_reducible refine wpList_store_row rfl 75 (.tmp 2) (.tmp 23) rfl w.heap.size (gc (gso so 256)) ?hx ?hy 75 (gc fun _ => false) hg2' hi hold h1 ?_); (case hx => rfl); (case hy => rfl)))
      refine bodyPost_ret (results_cell_row rfl _ _ w.heap.size 75 (gc (gso so 256)) (0, 0) (.array 16 73) rfl (hg2.setRow (gso so 256)) underlying66 rfl hi) rfl ?_
      exact ⟨rfl, below_setRow hb.out (Nat.le_refl _) _⟩
end Go.Proofs.Ytbgohbinonkhfaa.Q

/- (impl.grid).runs: the runs of a grid, row by row. -/
namespace Go.Proofs.Ytbgohbinonkhfaa.Q
open Go.RowKit Go.Proofs.YtbgohbinonkhfaaW.PrintWords Go.Proofs.YtbgohbinonkhfaaW.PrintLast Go.Proofs.YtbgohbinonkhfaaW.PrintMore
attribute [local go_sem] max2_int min2_int max_two min_two max_three min_three max_four min_four
set_option linter.unusedVariables false
set_option linter.unusedSimpArgs false

/-- the end of the run that begins at x or before -/
def endAt (g : Nat → Bool) (y : Nat) : Nat → Nat → Nat
  | 0, x => x
  | n + 1, x => if x < 16 ∧ g (y * 16 + x) = true then endAt g y n (x + 1) else x
theorem endAt_ge (g : Nat → Bool) (y n x : Nat) : x ≤ endAt g y n x := by
  induction n generalizing x with
  | zero => exact Nat.le_refl _
  | succ n ih =>
    unfold endAt
    split
    · exact Nat.le_trans (Nat.le_succ x) (ih (x + 1))
    · exact Nat.le_refl _
/-- the runs of a row from column x on -/
def scanRow (g : Nat → Bool) (y x : Nat) : List S47 :=
  if _h : x < 16 then
    if g (y * 16 + x) = true then ⟨(y : Int), (x : Int), (endAt g y (16 - x) x : Nat)⟩ :: scanRow g y (endAt g y (16 - x) x + 1)
    else scanRow g y (x + 1)
  else []
  termination_by 16 - x
  decreasing_by
    · have := endAt_ge g y (16 - x) x; omega
    · omega
def runsTo (g : Nat → Bool) (y : Nat) : List S47 := (List.range y).flatMap fun y => scanRow g y 0
/-- the runs of a grid -/
def runsL (g : Nat → Bool) : List S47 := runsTo g 16
theorem runsTo_succ (g : Nat → Bool) (y : Nat) : runsTo g (y + 1) = runsTo g y ++ scanRow g y 0 := by
  simp [runsTo, List.range_succ]
theorem scan_true (g : Nat → Bool) (y x : Nat) (h : x < 16) (hg : g (y * 16 + x) = true) : scanRow g y x = ⟨(y : Int), (x : Int), (endAt g y (16 - x) x : Nat)⟩ :: scanRow g y (endAt g y (16 - x) x + 1) := by
  rw [scanRow, dif_pos h, if_pos hg]
theorem scan_false (g : Nat → Bool) (y x : Nat) (h : x < 16) (hg : g (y * 16 + x) = false) : scanRow g y x = scanRow g y (x + 1) := by
  rw [scanRow, dif_pos h, if_neg (by simp [hg])]
theorem scan_end (g : Nat → Bool) (y x : Nat) (h : 16 ≤ x) : scanRow g y x = [] := by
  rw [scanRow, dif_neg (by omega)]
theorem endAt_step (g : Nat → Bool) (y x : Nat) (h : x < 16) (hg : g (y * 16 + x) = true) : endAt g y (16 - x) x = endAt g y (16 - (x + 1)) (x + 1) := by
  rw [show 16 - x = (16 - (x + 1)) + 1 by omega]
  rw [endAt, if_pos ⟨h, hg⟩]
theorem endAt_stop (g : Nat → Bool) (y x : Nat) (h : 16 ≤ x ∨ g (y * 16 + x) = false) : endAt g y (16 - x) x = x := by
  cases hn : 16 - x with
  | zero => rfl
  | succ n => rw [endAt, if_neg (by rcases h with h | h; omega; simp [h])]

set_option maxHeartbeats 4000000 in
set_option maxRecDepth 100000 in
theorem runs_calls (g : Nat → Bool) (w : World) :
    Calls Try.prog 71 #[.agg (gc g)] w fun e w' => ∃ v0_ : Value, e = .returned (v0_) ∧ Kd.R k47 47 w' w.heap.size (fun _ => True) v0_ (runsL g) ∧ Below w.heap.size w w' := by
  have hu := Try.underlying47
  have hgs := gc_size g
  go_enter Try.func71, Try.ntmps71
  go_wp2
  go_loopw [3, 8] (fun v3 v8 W => ∃ y : Nat, v8 = .int .i64 y ∧ y ≤ 16 ∧ Aside0 (Kd.R k47 47 W w.heap.size (fun _ => True) v3 (runsTo g y) ∧ (runsTo g y).length ≤ 17 * y) ∧ GridAt W w.heap.size g ∧ Aside0 (Below w.heap.size w W)) (fun _ v8 _ => 16 - (intOf v8).toNat)
  case atStart =>
    have h := R_empty k47 47 w.heap.size (w.alloc (.cells (gc g) 75)) (by simp)
    simp only [World.size_alloc] at h
    exact ⟨0, rfl, by omega, ⟨h, by simp [runsTo]⟩, (GridAt.new _ _).alloc _, ⟨((Below.refl _ _).alloc (Nat.le_refl _) _).alloc (by simp) _⟩⟩
  case round =>
    obtain ⟨y, rfl, hy, hR, hg, hb⟩ := hrel
    by_cases hlt : y < 16
    · have hdy : decide ((y : Int) < 16) = true := by simp; omega
      go_wp2
      go_loopw [3, 5] (fun v3 v5 W => ∃ (x : Nat) (xs : List S47), v5 = .int .i64 x ∧ x ≤ 17 ∧ Aside0 (Kd.R k47 47 W w.heap.size (fun _ => True) v3 xs ∧ xs.length ≤ 17 * y + x ∧ xs ++ scanRow g y x = runsTo g (y + 1)) ∧ GridAt W w.heap.size g ∧ Aside0 (Below w.heap.size w W)) (fun _ v5 _ => 17 - (intOf v5).toNat)
      case atStart => exact ⟨0, _, rfl, by omega, ⟨hR.out.1, by have := hR.out.2; omega, (runsTo_succ g y).symm⟩, hg, hb⟩
      case round =>
        clear hR hg hb
        obtain ⟨x, xs, rfl, hx, hR, hg, hb⟩ := hrel
        by_cases hlx : x < 16
        · have hdx : decide ((x : Int) < 16) = true := by simp; omega
          have hc := hg.cell (y * 16 + x) (by omega)
          by_cases hv : g (y * 16 + x) = true
          · rw [hv] at hc
            have hs := scan_true g y x hlx hv
            have HS := Aside0.mk hs
            clear hs
            go_wp2
            go_loop [5] (fun v5 => ∃ z : Nat, v5 = .int .i64 z ∧ x ≤ z ∧ z ≤ 16 ∧ Aside0 (endAt g y (16 - z) z = endAt g y (16 - x) x)) (fun v5 => 16 - (intOf v5).toNat)
            case atStart => exact ⟨x, rfl, by omega, by omega, ⟨rfl⟩⟩
            case round =>
              clear hc
              obtain ⟨z, rfl, hxz, hz, hE⟩ := hrel
              have hgz := hg.alloc (.cells #[.int .i64 (y : Int), .int .i64 (x : Int), .int .i64 0] 47)
              by_cases hz16 : z < 16 ∧ g (y * 16 + z) = true
              · obtain ⟨hlz, hvz⟩ := hz16
                have hdz : decide ((z : Int) < 16) = true := by simp; omega
                have hc := hgz.cell (y * 16 + z) (by omega)
                rw [hvz] at hc
                have hE2 := Aside0.mk ((endAt_step g y z hlz hvz).symm.trans hE.out)
                clear hvz hE
                go_wp2
                go_round
                case rel => exact ⟨z + 1, by go_num, by omega, by omega, hE2⟩
                case measure => simp [intOf]; omega
              · have hz17 : 16 ≤ z ∨ g (y * 16 + z) = false := by
                  by_cases h : z < 16
                  · right
                    cases hgv : g (y * 16 + z) with
                    | false => rfl
                    | true => exact absurd ⟨h, hgv⟩ hz16
                  · left; omega
                have hstop := endAt_stop g y z hz17
                have hEZ := Aside0.mk (hE.out.symm.trans hstop)
                have hl24 : xs.length + 1 ≤ 1000 := by have := hR.out.2.1; omega
                have hRB := Aside0.mk (Kd.R_alloc hR.out.1 (.cells #[.int .i64 (y : Int), .int .i64 (x : Int), .int .i64 (z : Int)] 47))
                have hBB := Aside0.mk (below_alloc hb.out (.cells #[.int .i64 (y : Int), .int .i64 (x : Int), .int .i64 (z : Int)] 47))
                have hGB := Aside0.mk (blk_alloc hg (.cells #[.int .i64 (y : Int), .int .i64 (x : Int), .int .i64 (z : Int)] 47))
                have hNE := Aside0.mk (Kd.R_ne hRB.out hGB.out (by decide))
                clear hstop hE hz16
                rcases hz17 with hz17 | hz17
                · have hdz : decide ((z : Int) < 16) = false := by simp; omega
                  go_wp2_with (first | ((with_reducible refine gate_builtin (b := .append) (xs := #[.tmp 37, .tmp 39]) rfl ?_); at_builtin; refine Kd.R_append k47 w.heap.size rfl (.tmp 37) (.tmp 39) 26 47 (.agg #[(.int .i64 0), (.int .i64 0), (.int .i64 0)]) 24 rfl Try.underlying26 info47 rfl (by decide) (by omega) u3 xs (⟨(y : Int), (x : Int), (z : Int)⟩ : S47) [.int .i64 (y : Int), .int .i64 (x : Int), .int .i64 (z : Int)] (fun _ => True) (fun _ => False) rfl ?aX ?aP (fun _ hk => hk.elim) (fun _ _ => trivial) hRB.out hBB.out ?aS ?aL ?_; (case aX => rw [World.size_alloc]; rfl); (case aP => exact k47_mkM _ _ _ (⟨(y : Int), (x : Int), (z : Int)⟩ : S47)); (case aS => exact hBB.out.size); (case aL => omega); intro v4 w4 ho hb4 hg4 hat4; have hG4 := Aside0.mk (blk_grown hGB.out hg4 hNE.out); have hO4 := Aside0.mk ho; have hB4 := Aside0.mk hb4; clear ho hb4 hg4 hat4))
                  go_roundw
                  case rel =>
                    refine ⟨z + 1, xs ++ [⟨(y : Int), (x : Int), (z : Int)⟩], by go_num, by omega, ⟨hO4.out, by have := hR.out.2.1; rw [List.length_append]; simp; omega, ?_⟩, hG4.out, hB4⟩
                    have h1 := hR.out.2.2
                    rw [HS.out, hEZ.out] at h1
                    rw [List.append_assoc]; exact h1
                  case measure => simp [intOf]; omega
                · by_cases hlz : z < 16
                  · have hdz : decide ((z : Int) < 16) = true := by simp; omega
                    have hc := hgz.cell (y * 16 + z) (by omega)
                    rw [hz17] at hc
                    go_wp2_with (first | ((with_reducible refine gate_builtin (b := .append) (xs := #[.tmp 37, .tmp 39]) rfl ?_); at_builtin; refine Kd.R_append k47 w.heap.size rfl (.tmp 37) (.tmp 39) 26 47 (.agg #[(.int .i64 0), (.int .i64 0), (.int .i64 0)]) 24 rfl Try.underlying26 info47 rfl (by decide) (by omega) u3 xs (⟨(y : Int), (x : Int), (z : Int)⟩ : S47) [.int .i64 (y : Int), .int .i64 (x : Int), .int .i64 (z : Int)] (fun _ => True) (fun _ => False) rfl ?aX ?aP (fun _ hk => hk.elim) (fun _ _ => trivial) hRB.out hBB.out ?aS ?aL ?_; (case aX => rw [World.size_alloc]; rfl); (case aP => exact k47_mkM _ _ _ (⟨(y : Int), (x : Int), (z : Int)⟩ : S47)); (case aS => exact hBB.out.size); (case aL => omega); intro v4 w4 ho hb4 hg4 hat4; have hG4 := Aside0.mk (blk_grown hGB.out hg4 hNE.out); have hO4 := Aside0.mk ho; have hB4 := Aside0.mk hb4; clear ho hb4 hg4 hat4))
                    go_roundw
                    case rel =>
                      refine ⟨z + 1, xs ++ [⟨(y : Int), (x : Int), (z : Int)⟩], by go_num, by omega, ⟨hO4.out, by have := hR.out.2.1; rw [List.length_append]; simp; omega, ?_⟩, hG4.out, hB4⟩
                      have h1 := hR.out.2.2
                      rw [HS.out, hEZ.out] at h1
                      rw [List.append_assoc]; exact h1
                    case measure => simp [intOf]; omega

                  · have hdz : decide ((z : Int) < 16) = false := by simp; omega
                    go_wp2_with (first | ((with_reducible refine gate_builtin (b := .append) (xs := #[.tmp 37, .tmp 39]) rfl ?_); at_builtin; refine Kd.R_append k47 w.heap.size rfl (.tmp 37) (.tmp 39) 26 47 (.agg #[(.int .i64 0), (.int .i64 0), (.int .i64 0)]) 24 rfl Try.underlying26 info47 rfl (by decide) (by omega) u3 xs (⟨(y : Int), (x : Int), (z : Int)⟩ : S47) [.int .i64 (y : Int), .int .i64 (x : Int), .int .i64 (z : Int)] (fun _ => True) (fun _ => False) rfl ?aX ?aP (fun _ hk => hk.elim) (fun _ _ => trivial) hRB.out hBB.out ?aS ?aL ?_; (case aX => rw [World.size_alloc]; rfl); (case aP => exact k47_mkM _ _ _ (⟨(y : Int), (x : Int), (z : Int)⟩ : S47)); (case aS => exact hBB.out.size); (case aL => omega); intro v4 w4 ho hb4 hg4 hat4; have hG4 := Aside0.mk (blk_grown hGB.out hg4 hNE.out); have hO4 := Aside0.mk ho; have hB4 := Aside0.mk hb4; clear ho hb4 hg4 hat4))
                    go_roundw
                    case rel =>
                      refine ⟨z + 1, xs ++ [⟨(y : Int), (x : Int), (z : Int)⟩], by go_num, by omega, ⟨hO4.out, by have := hR.out.2.1; rw [List.length_append]; simp; omega, ?_⟩, hG4.out, hB4⟩
                      have h1 := hR.out.2.2
                      rw [HS.out, hEZ.out] at h1
                      rw [List.append_assoc]; exact h1
                    case measure => simp [intOf]; omega
          · replace hv : g (y * 16 + x) = false := by simpa using hv
            rw [hv] at hc
            have hs := scan_false g y x hlx hv
            have HS := Aside0.mk hs
            clear hs
            go_wp2
            go_roundw
            case rel => exact ⟨x + 1, xs, by go_num, by omega, ⟨hR.out.1, by have := hR.out.2.1; omega, by rw [← HS.out]; exact hR.out.2.2⟩, hg, hb⟩
            case measure => simp [intOf]; omega
        · have hdx : decide ((x : Int) < 16) = false := by simp; omega
          have he := scan_end g y x (by omega)
          have HE := Aside0.mk he
          clear he
          go_wp2
          go_roundw
          case rel =>
            have h1 := hR.out.2.2
            rw [HE.out, List.append_nil] at h1
            exact ⟨y + 1, by go_num, by omega, ⟨by rw [← h1]; exact hR.out.1, by rw [← h1]; have := hR.out.2.1; omega⟩, hg, hb⟩
          case measure => simp [intOf]; omega
    · have hdy : decide ((y : Int) < 16) = false := by simp; omega
      have hy16 : y = 16 := by omega
      subst hy16
      go_wp2
      go_ret
      exact ⟨_, rfl, hR.out.1, hb.out⟩
end Go.Proofs.Ytbgohbinonkhfaa.Q

namespace Go.Proofs.Ytbgohbinonkhfaa.Q
open Go.RowKit Go.Proofs.YtbgohbinonkhfaaW.PrintWords Go.Proofs.YtbgohbinonkhfaaW.PrintLast Go.Proofs.YtbgohbinonkhfaaW.PrintMore
attribute [local go_sem] max2_int min2_int max_two min_two max_three min_three max_four min_four
set_option linter.unusedVariables false
set_option linter.unusedSimpArgs false
/-! ### impl_isSide: function 108 -/
def impl_isSide.f (a0 : Int) : Option (Bool) := if a0 ≥ 1 then (some (decide (a0 ≤ 16))) else (some false)
set_option maxHeartbeats 8000000 in
set_option maxRecDepth 100000 in
theorem impl_isSide.calls (a0 : Int) (r : Bool) (w : World) (h : impl_isSide.f a0 = some r) :
    Calls Try.prog 108 #[.int .i64 a0] w fun e w' => e = .returned (.bool r) ∧ Drawn0 w w' := by
  have H : (if a0 ≥ 1 then (some (decide (a0 ≤ 16))) else (some false)) = some r := h
  clear h
  by_cases c2 : a0 ≥ 1
  · rw [if_pos c2] at H
    have c2b0 : decide (1 ≤ a0) = true := decide_eq_true c2
    clear c2
    obtain rfl := Option.some.inj H
    go_enter Try.func108, Try.ntmps108
    go_wp2
    go_ret
    exact ⟨by first | rfl | (simp; done) | (simp [*]; done), by repeat (first | exact Drawn0.refl _ | apply Drawn0.step)⟩
  · rw [if_neg c2] at H
    have c2b0 : decide (1 ≤ a0) = false := decide_eq_false c2
    clear c2
    obtain rfl := Option.some.inj H
    go_enter Try.func108, Try.ntmps108
    go_wp2
    go_ret
    exact ⟨by first | rfl | (simp; done) | (simp [*]; done), by repeat (first | exact Drawn0.refl _ | apply Drawn0.step)⟩

end Go.Proofs.Ytbgohbinonkhfaa.Q

namespace Go.Proofs.Ytbgohbinonkhfaa.Q
open Go.RowKit Go.Proofs.YtbgohbinonkhfaaW.PrintWords Go.Proofs.YtbgohbinonkhfaaW.PrintLast Go.Proofs.YtbgohbinonkhfaaW.PrintMore
attribute [local go_sem] max2_int min2_int max_two min_two max_three min_three max_four min_four
set_option linter.unusedVariables false
set_option linter.unusedSimpArgs false
/-! ### impl_isShape: function 91 -/
def impl_isShape.f (a0 : Int) (a1 : Int) (a2 : Int) : Option (Bool) := (impl_isSide.f a0).bind fun t92001 => (if t92001 = true then ((impl_isSide.f a1).bind fun t92002 => (if t92002 = true then (if a2 ≥ 1 then (some (decide (a2 ≤ 4))) else (some false)) else (some false))) else (some false))
set_option maxHeartbeats 8000000 in
set_option maxRecDepth 100000 in
theorem impl_isShape.calls (a0 : Int) (a1 : Int) (a2 : Int) (r : Bool) (w : World) (h : impl_isShape.f a0 a1 a2 = some r) :
    Calls Try.prog 91 #[.int .i64 a0, .int .i64 a1, .int .i64 a2] w fun e w' => e = .returned (.bool r) ∧ Drawn0 w w' := by
  have H : ((impl_isSide.f a0).bind fun t92001 => (if t92001 = true then ((impl_isSide.f a1).bind fun t92002 => (if t92002 = true then (if a2 ≥ 1 then (some (decide (a2 ≤ 4))) else (some false)) else (some false))) else (some false))) = some r := h
  clear h
  replace H := Option.bind_eq_some_iff.mp H
  obtain ⟨t92001, A40, H⟩ := H
  replace H : (if t92001 = true then ((impl_isSide.f a1).bind fun t92002 => (if t92002 = true then (if a2 ≥ 1 then (some (decide (a2 ≤ 4))) else (some false)) else (some false))) else (some false)) = some r := H
  have A4 := Aside0.mk A40
  clear A40
  by_cases c5 : t92001 = true
  · subst c5
    have H1 : ((impl_isSide.f a1).bind fun t92002 => (if t92002 = true then (if a2 ≥ 1 then (some (decide (a2 ≤ 4))) else (some false)) else (some false))) = some r := by rw [if_pos rfl] at H; exact H
    clear H
    have H := H1
    clear H1
    replace H := Option.bind_eq_some_iff.mp H
    obtain ⟨t92002, A60, H⟩ := H
    replace H : (if t92002 = true then (if a2 ≥ 1 then (some (decide (a2 ≤ 4))) else (some false)) else (some false)) = some r := H
    have A6 := Aside0.mk A60
    clear A60
    by_cases c7 : t92002 = true
    · subst c7
      have H1 : (if a2 ≥ 1 then (some (decide (a2 ≤ 4))) else (some false)) = some r := by rw [if_pos rfl] at H; exact H
      clear H
      have H := H1
      clear H1
      by_cases c8 : a2 ≥ 1
      · rw [if_pos c8] at H
        have c8b0 : decide (1 ≤ a2) = true := decide_eq_true c8
        clear c8
        obtain rfl := Option.some.inj H
        go_enter Try.func91, Try.ntmps91
        go_wp2_with (first | ((with_reducible refine gate_callee (f := 108) rfl ?_); refine goesL_ (some 8) rfl rfl Try.func108 (by kernel_rfl) rfl #[.int .i64 a0] rfl (by (try simp only [List.map_toArray, List.map_cons, List.map_nil]); first | done | rfl | (simp only [List.length_drop, List.length_take]; rfl)) ?_; (with_reducible refine (impl_isSide.calls a0 true _ A4.out).mono ?_); rintro e w' ⟨rfl, ⟨nd, rfl⟩⟩; refine ⟨_, rfl, ?_⟩) | (go_at_call 108; (with_reducible refine (impl_isSide.calls a1 true _ A6.out).mono ?_); rintro e w' ⟨rfl, ⟨nd, rfl⟩⟩))
        go_ret
        exact ⟨by first | rfl | (simp; done) | (simp [*]; done), by repeat (first | exact Drawn0.refl _ | apply Drawn0.step)⟩
      · rw [if_neg c8] at H
        have c8b0 : decide (1 ≤ a2) = false := decide_eq_false c8
        clear c8
        obtain rfl := Option.some.inj H
        go_enter Try.func91, Try.ntmps91
        go_wp2_with (first | ((with_reducible refine gate_callee (f := 108) rfl ?_); refine goesL_ (some 8) rfl rfl Try.func108 (by kernel_rfl) rfl #[.int .i64 a0] rfl (by (try simp only [List.map_toArray, List.map_cons, List.map_nil]); first | done | rfl | (simp only [List.length_drop, List.length_take]; rfl)) ?_; (with_reducible refine (impl_isSide.calls a0 true _ A4.out).mono ?_); rintro e w' ⟨rfl, ⟨nd, rfl⟩⟩; refine ⟨_, rfl, ?_⟩) | (go_at_call 108; (with_reducible refine (impl_isSide.calls a1 true _ A6.out).mono ?_); rintro e w' ⟨rfl, ⟨nd, rfl⟩⟩))
        go_ret
        exact ⟨by first | rfl | (simp; done) | (simp [*]; done), by repeat (first | exact Drawn0.refl _ | apply Drawn0.step)⟩
    · replace c7 := Bool.eq_false_iff.mpr c7
      subst c7
      have H1 : (some false) = some r := by rw [if_neg (show ¬ (false = true) by decide)] at H; exact H
      clear H
      have H := H1
      clear H1
      obtain rfl := Option.some.inj H
      go_enter Try.func91, Try.ntmps91
      go_wp2_with (first | ((with_reducible refine gate_callee (f := 108) rfl ?_); refine goesL_ (some 8) rfl rfl Try.func108 (by kernel_rfl) rfl #[.int .i64 a0] rfl (by (try simp only [List.map_toArray, List.map_cons, List.map_nil]); first | done | rfl | (simp only [List.length_drop, List.length_take]; rfl)) ?_; (with_reducible refine (impl_isSide.calls a0 true _ A4.out).mono ?_); rintro e w' ⟨rfl, ⟨nd, rfl⟩⟩; refine ⟨_, rfl, ?_⟩) | (go_at_call 108; (with_reducible refine (impl_isSide.calls a1 false _ A6.out).mono ?_); rintro e w' ⟨rfl, ⟨nd, rfl⟩⟩))
      go_ret
      exact ⟨by first | rfl | (simp; done) | (simp [*]; done), by repeat (first | exact Drawn0.refl _ | apply Drawn0.step)⟩
  · replace c5 := Bool.eq_false_iff.mpr c5
    subst c5
    have H1 : (some false) = some r := by rw [if_neg (show ¬ (false = true) by decide)] at H; exact H
    clear H
    have H := H1
    clear H1
    obtain rfl := Option.some.inj H
    go_enter Try.func91, Try.ntmps91
    go_wp2_with (first | ((with_reducible refine gate_callee (f := 108) rfl ?_); refine goesL_ (some 8) rfl rfl Try.func108 (by kernel_rfl) rfl #[.int .i64 a0] rfl (by (try simp only [List.map_toArray, List.map_cons, List.map_nil]); first | done | rfl | (simp only [List.length_drop, List.length_take]; rfl)) ?_; (with_reducible refine (impl_isSide.calls a0 false _ A4.out).mono ?_); rintro e w' ⟨rfl, ⟨nd, rfl⟩⟩; refine ⟨_, rfl, ?_⟩))
    go_ret
    exact ⟨by first | rfl | (simp; done) | (simp [*]; done), by repeat (first | exact Drawn0.refl _ | apply Drawn0.step)⟩

end Go.Proofs.Ytbgohbinonkhfaa.Q

/- slices.IndexFunc over whole numbers: where the first element lies for which the function value's answer is true. -/
namespace Go.Proofs.Ytbgohbinonkhfaa.Q
open Go.RowKit Go.Proofs.YtbgohbinonkhfaaW.PrintWords Go.Proofs.YtbgohbinonkhfaaW.PrintLast Go.Proofs.YtbgohbinonkhfaaW.PrintMore
attribute [local go_sem] max2_int min2_int max_two min_two max_three min_three max_four min_four
set_option linter.unusedVariables false
set_option linter.unusedSimpArgs false

set_option maxHeartbeats 1000000 in
theorem idxFunc_int (g : Nat) (lb : Array Value) (p : Int → Bool) (A : Option Addr) (c : Nat) (l : List Int) (w : World)
    (eg : ∀ args W, (callFunc g args).run Try.prog W = .ok (.enter g args) W)
    (hp : ∀ (W : World) (x : Int), Below w.heap.size w W → Calls Try.prog g (#[.int .i64 x] ++ lb) W fun e W' => e = .returned (.bool (p x)) ∧ Drawn0 W W')
    (hr : Kd.C (Kd.int .i64) w A l.length l) :
    Calls Try.prog 111 #[.slice A l.length c, .func (.func g) #[] lb] w fun e w' => e = .returned (.int .i64 (idxF p l)) ∧ Drawn0 w w' := by
  have hm : l.length ≤ 9223372036854775807 := hr.2.1
  have HP := Aside0.mk hp
  have HR := Aside0.mk hr
  clear hp hr
  go_enter Try.func111, Try.ntmps111
  go_wp2
  go_loopw [8] (fun v8 W => ∃ k : Nat, v8 = .int .i64 k ∧ k ≤ l.length ∧ SawNone p l k ∧ Drawn0 w W) (fun v8 _ => l.length - (intOf v8).toNat)
  case atStart => exact ⟨0, rfl, by omega, fun j hj => by omega, Drawn0.refl _⟩
  case round =>
    obtain ⟨k, rfl, hk, hs, hd⟩ := hrel
    by_cases hlt : k < l.length
    · obtain ⟨ad, e, hx⟩ := Kd.at_int HR.out (k : Int) (by omega) (by omega)
      cases e
      rw [rd_get l k hlt, Int.toNat_natCast] at hx
      replace hx := (hd.below.cell (World.block_lt_of_cell? w _ hx)).trans hx
      by_cases hv : p l[k] = true
      · have HV := Aside0.mk hv
        clear hv
        go_wp2_with (first | (go_at_fn g; refine (HP.out _ _ hd.below).mono ?_; rintro e w' ⟨rfl, hd2⟩; rw [HV.out]))
        go_ret
        exact ⟨by rw [idxF_at p l k hlt hs HV.out]; rfl, dtrans hd hd2⟩
      · replace hv : p l[k] = false := by simpa using hv
        have hs' := hs.succ hlt hv
        have HV := Aside0.mk hv
        clear hv
        go_wp2_with (first | (go_at_fn g; refine (HP.out _ _ hd.below).mono ?_; rintro e w' ⟨rfl, hd2⟩; rw [HV.out]))
        go_roundw
        case rel => exact ⟨k + 1, by go_num, by omega, hs', dtrans hd hd2⟩
        case measure => simp [intOf]; omega
    · go_wp2
      go_ret
      have : k = l.length := by omega
      subst this
      exact ⟨by rw [idxF_none p l hs]; rfl, hd⟩
end Go.Proofs.Ytbgohbinonkhfaa.Q

/- slices.ContainsFunc over whole numbers. -/
namespace Go.Proofs.Ytbgohbinonkhfaa.Q
open Go.RowKit Go.Proofs.YtbgohbinonkhfaaW.PrintWords Go.Proofs.YtbgohbinonkhfaaW.PrintLast Go.Proofs.YtbgohbinonkhfaaW.PrintMore
attribute [local go_sem] max2_int min2_int max_two min_two max_three min_three max_four min_four
set_option linter.unusedVariables false
set_option linter.unusedSimpArgs false

set_option maxHeartbeats 1000000 in
theorem containsFunc_int (g : Nat) (lb : Array Value) (p : Int → Bool) (A : Option Addr) (c : Nat) (l : List Int) (w : World)
    (eg : ∀ args W, (callFunc g args).run Try.prog W = .ok (.enter g args) W)
    (hp : ∀ (W : World) (x : Int), Below w.heap.size w W → Calls Try.prog g (#[.int .i64 x] ++ lb) W fun e W' => e = .returned (.bool (p x)) ∧ Drawn0 W W')
    (hr : Kd.C (Kd.int .i64) w A l.length l) :
    Calls Try.prog 109 #[.slice A l.length c, .func (.func g) #[] lb] w fun e w' => e = .returned (.bool (l.any p)) ∧ Drawn0 w w' := by
  have HP := Aside0.mk hp
  have HR := Aside0.mk hr
  clear hp hr
  go_enter Try.func109, Try.ntmps109
  go_wp2_with (first | (go_at_call 111; refine (idxFunc_int g lb p _ _ _ _ eg HP.out HR.out).mono ?_; rintro e w' ⟨rfl, hd⟩))
  go_ret
  exact ⟨ret_bool (by first | exact idxF_any p l | (rw [← idxF_any p l])), hd⟩
end Go.Proofs.Ytbgohbinonkhfaa.Q

/- impl.areBytes: every number is in 0..255. -/
namespace Go.Proofs.Ytbgohbinonkhfaa.Q
open Go.RowKit Go.Proofs.YtbgohbinonkhfaaW.PrintWords Go.Proofs.YtbgohbinonkhfaaW.PrintLast Go.Proofs.YtbgohbinonkhfaaW.PrintMore
attribute [local go_sem] max2_int min2_int max_two min_two max_three min_three max_four min_four
set_option linter.unusedVariables false
set_option linter.unusedSimpArgs false

def notByte (n : Int) : Bool := decide (n < 0) || decide (n > 255)
def impl_areBytes.f (l0 : List Int) : Option Bool := some (!l0.any notByte)

theorem areBytes1 (n : Int) (w : World) : Calls Try.prog 110 #[.int .i64 n] w fun e w' => e = .returned (.bool (notByte n)) ∧ Drawn0 w w' := by
  by_cases h1 : n < 0 <;> by_cases h2 : n > 255
  all_goals
    go_enter Try.func110, Try.ntmps110
    go_wp2
    go_ret
    exact ⟨by simp [notByte, *], Drawn0.refl _⟩

set_option maxHeartbeats 1000000 in
theorem impl_areBytes.calls (A0 : Option Addr) (c0 : Nat) (l0 : List Int) (r : Bool) (w : World) (hr0 : Kd.C (Kd.int .i64) w A0 l0.length l0) (hc0 : l0.length ≤ c0) (h : impl_areBytes.f l0 = some r) :
    Calls Try.prog 92 #[.slice A0 l0.length c0] w fun e w' => e = .returned (.bool r) ∧ Drawn0 w w' := by
  obtain rfl := Option.some.inj h
  clear h
  have HR := Aside0.mk hr0
  clear hr0
  have eg : ∀ args W, (callFunc 110 args).run Try.prog W = .ok (.enter 110 args) W := enters_of Try.func110 (by kernel_rfl) rfl
  go_enter Try.func92, Try.ntmps92
  go_wp2_with (first | (go_at_call 109; refine (containsFunc_int 110 #[] notByte _ _ _ _ eg (fun W x _ => areBytes1 x W) HR.out).mono ?_; rintro e w' ⟨rfl, hd⟩))
  go_ret
  exact ⟨rfl, hd⟩
end Go.Proofs.Ytbgohbinonkhfaa.Q

namespace Go.Proofs.Ytbgohbinonkhfaa.Q
open Go.RowKit Go.Proofs.YtbgohbinonkhfaaW.PrintWords Go.Proofs.YtbgohbinonkhfaaW.PrintLast Go.Proofs.YtbgohbinonkhfaaW.PrintMore
attribute [local go_sem] max2_int min2_int max_two min_two max_three min_three max_four min_four
set_option linter.unusedVariables false
set_option linter.unusedSimpArgs false
/-! ### impl_isImage: function 48 -/
def impl_isImage.f (a0_0 : Int) (a0_1 : Int) (a0_2 : Int) (l0_3 : List Int) : Option (Bool) := (impl_isShape.f a0_0 a0_1 a0_2).bind fun t49002 => (if t49002 = true then (if (l0_3.length : Int) = (wrap64 ((wrap64 (a0_0 * a0_1)) * a0_2)) then ((impl_areBytes.f l0_3).bind fun t49003 => (some t49003)) else (some false)) else (some false))
set_option maxHeartbeats 8000000 in
set_option maxRecDepth 100000 in
theorem impl_isImage.calls (a0_0 : Int) (a0_1 : Int) (a0_2 : Int) (A0_3 : Option Addr) (c0_3 : Nat) (l0_3 : List Int) (r : Bool) (w : World) (hr0_3 : Kd.C (Kd.int .i64) w A0_3 l0_3.length l0_3) (hc0_3 : l0_3.length ≤ c0_3) (h : impl_isImage.f a0_0 a0_1 a0_2 l0_3 = some r) :
    Calls Try.prog 48 #[.agg #[.int .i64 a0_0, .int .i64 a0_1, .int .i64 a0_2, .slice A0_3 l0_3.length c0_3]] w fun e w' => e = .returned (.bool r) ∧ Below w.heap.size w w' := by
  have hu28 := Try.underlying28
  have HR0_3 := Aside0.mk hr0_3
  have HC0_3 := Aside0.mk hc0_3
  clear hr0_3 hc0_3
  have HB := Aside0.mk (Below.refl w.heap.size w)
  have H : ((impl_isShape.f a0_0 a0_1 a0_2).bind fun t49002 => (if t49002 = true then (if (l0_3.length : Int) = (wrap64 ((wrap64 (a0_0 * a0_1)) * a0_2)) then ((impl_areBytes.f l0_3).bind fun t49003 => (some t49003)) else (some false)) else (some false))) = some r := h
  clear h
  replace H := Option.bind_eq_some_iff.mp H
  obtain ⟨t49002, A20, H⟩ := H
  replace H : (if t49002 = true then (if (l0_3.length : Int) = (wrap64 ((wrap64 (a0_0 * a0_1)) * a0_2)) then ((impl_areBytes.f l0_3).bind fun t49003 => (some t49003)) else (some false)) else (some false)) = some r := H
  have A2 := Aside0.mk A20
  clear A20
  by_cases c3 : t49002 = true
  · subst c3
    have H1 : (if (l0_3.length : Int) = (wrap64 ((wrap64 (a0_0 * a0_1)) * a0_2)) then ((impl_areBytes.f l0_3).bind fun t49003 => (some t49003)) else (some false)) = some r := by rw [if_pos rfl] at H; exact H
    clear H
    have H := H1
    clear H1
    by_cases c4 : (l0_3.length : Int) = (wrap64 ((wrap64 (a0_0 * a0_1)) * a0_2))
    · rw [if_pos c4] at H
      have c4b0 : ((l0_3.length : Int) == (wrap64 ((wrap64 (a0_0 * a0_1)) * a0_2))) = true := beq_iff_eq.mpr c4
      have c4b1 : ((l0_3.length : Int) != (wrap64 ((wrap64 (a0_0 * a0_1)) * a0_2))) = false := bne_eq_false_iff_eq.mpr c4
      clear c4
      replace H := Option.bind_eq_some_iff.mp H
      obtain ⟨t49003, A50, H⟩ := H
      replace H : (some t49003) = some r := H
      have A5 := Aside0.mk A50
      clear A50
      obtain rfl := Option.some.inj H
      go_enter Try.func48, Try.ntmps48
      go_wp2_with (first | ((with_reducible refine gate_dst (N := 1) rfl ?_); (try (refine gate_guard (by rfl) ?_; dsimp only)); refine box_event ?hg (N := 1) ?hd (cs := #[.int .i64 a0_0, .int .i64 a0_1, .int .i64 a0_2, .slice A0_3 l0_3.length c0_3]) (t := 28) ?hr ?_; (case hd => rfl); (case hg => rfl); (case hr => first | (go_simp; done) | (go_simp; rfl)); intro gb49001 hg w6 hbox hb; have n0_ := Aside0.mk (below_step (by repeat (first | (with_reducible first | exact HB.out | apply below_alloc | apply pw_below_drewN | apply below_drew1) | exact HB.out)) hb); have n1_ := Aside0.mk (hbox); have n2_ := Aside0.mk ((by rw [hg]; exact (below_size (by repeat (first | (with_reducible first | exact HB.out | apply below_alloc | apply pw_below_drewN | apply below_drew1) | exact HB.out))) : w.heap.size ≤ gb49001)); have n3_ := Aside0.mk ((by rw [hg]; exact (below_size (by repeat (first | (with_reducible first | exact HB.out | apply below_alloc | apply pw_below_drewN | apply below_drew1) | exact HB.out))) : w.heap.size ≤ gb49001)); clear HB; have HB := n0_; have BK49001 := n1_; have GW49001 := n2_; have GE49001 := n3_; clear n0_ n1_ n2_ n3_; clear hb hbox hg; have hcz7_0 : w6.cell? ⟨gb49001, 0, none⟩ = some (.int .i64 a0_0) := (blk_cell BK49001.out 0).trans rfl; have hcz7_1 : w6.cell? ⟨gb49001, 1, none⟩ = some (.int .i64 a0_1) := (blk_cell BK49001.out 1).trans rfl; have hcz7_2 : w6.cell? ⟨gb49001, 2, none⟩ = some (.int .i64 a0_2) := (blk_cell BK49001.out 2).trans rfl; have hcz7_3 : w6.cell? ⟨gb49001, 3, none⟩ = some (.slice A0_3 l0_3.length c0_3) := (blk_cell BK49001.out 3).trans rfl; have hfz7_0 := blk_frozen BK49001.out 0; have hfz7_1 := blk_frozen BK49001.out 1; have hfz7_2 := blk_frozen BK49001.out 2; have hfz7_3 := blk_frozen BK49001.out 3) | ((with_reducible refine gate_callee (f := 91) rfl ?_); refine goesL_ (some 9) rfl rfl Try.func91 (by kernel_rfl) rfl #[.int .i64 a0_0, .int .i64 a0_1, .int .i64 a0_2] rfl (by (try simp only [List.map_toArray, List.map_cons, List.map_nil]); first | done | rfl | (simp only [List.length_drop, List.length_take]; rfl)) ?_; (with_reducible refine (impl_isShape.calls a0_0 a0_1 a0_2 true _ A2.out).mono ?_); rintro e w' ⟨rfl, ⟨nd, rfl⟩⟩; refine ⟨_, rfl, ?_⟩) | (go_at_call 92; (with_reducible refine (impl_areBytes.calls _ _ l0_3 t49003 _ ?side1 ?side2 A5.out).mono ?_); (case side1 => repeat (first | exact (Kd.C_below HR0_3.out (by repeat (first | (with_reducible first | exact HB.out | apply below_alloc | apply pw_below_drewN | apply below_drew1 | refine below_set ?_ GE49001.out) | exact HB.out))) | (with_reducible refine Kd.C_alloc ?_ _) | (with_reducible refine Kd.C_drewN ?_ _) | (with_reducible refine Kd.C_drew ?_))); (case side2 => exact HC0_3.out); rintro e w' ⟨rfl, ⟨nd, rfl⟩⟩))
      go_ret
      exact ⟨by first | rfl | (simp [errW_none, errW_some] <;> rfl) | (simp [*, errW_none, errW_some] <;> rfl), by repeat (first | (with_reducible first | exact HB.out | apply below_alloc | apply pw_below_drewN | apply below_drew1 | refine below_set ?_ GE49001.out) | exact HB.out)⟩
    · rw [if_neg c4] at H
      have c4b0 : ((l0_3.length : Int) == (wrap64 ((wrap64 (a0_0 * a0_1)) * a0_2))) = false := beq_eq_false_iff_ne.mpr c4
      have c4b1 : ((l0_3.length : Int) != (wrap64 ((wrap64 (a0_0 * a0_1)) * a0_2))) = true := bne_iff_ne.mpr c4
      obtain rfl := Option.some.inj H
      go_enter Try.func48, Try.ntmps48
      go_wp2_with (first | ((with_reducible refine gate_dst (N := 1) rfl ?_); (try (refine gate_guard (by rfl) ?_; dsimp only)); refine box_event ?hg (N := 1) ?hd (cs := #[.int .i64 a0_0, .int .i64 a0_1, .int .i64 a0_2, .slice A0_3 l0_3.length c0_3]) (t := 28) ?hr ?_; (case hd => rfl); (case hg => rfl); (case hr => first | (go_simp; done) | (go_simp; rfl)); intro gb49001 hg w8 hbox hb; have n0_ := Aside0.mk (below_step (by repeat (first | (with_reducible first | exact HB.out | apply below_alloc | apply pw_below_drewN | apply below_drew1) | exact HB.out)) hb); have n1_ := Aside0.mk (hbox); have n2_ := Aside0.mk ((by rw [hg]; exact (below_size (by repeat (first | (with_reducible first | exact HB.out | apply below_alloc | apply pw_below_drewN | apply below_drew1) | exact HB.out))) : w.heap.size ≤ gb49001)); have n3_ := Aside0.mk ((by rw [hg]; exact (below_size (by repeat (first | (with_reducible first | exact HB.out | apply below_alloc | apply pw_below_drewN | apply below_drew1) | exact HB.out))) : w.heap.size ≤ gb49001)); clear HB; have HB := n0_; have BK49001 := n1_; have GW49001 := n2_; have GE49001 := n3_; clear n0_ n1_ n2_ n3_; clear hb hbox hg; have hcz9_0 : w8.cell? ⟨gb49001, 0, none⟩ = some (.int .i64 a0_0) := (blk_cell BK49001.out 0).trans rfl; have hcz9_1 : w8.cell? ⟨gb49001, 1, none⟩ = some (.int .i64 a0_1) := (blk_cell BK49001.out 1).trans rfl; have hcz9_2 : w8.cell? ⟨gb49001, 2, none⟩ = some (.int .i64 a0_2) := (blk_cell BK49001.out 2).trans rfl; have hcz9_3 : w8.cell? ⟨gb49001, 3, none⟩ = some (.slice A0_3 l0_3.length c0_3) := (blk_cell BK49001.out 3).trans rfl; have hfz9_0 := blk_frozen BK49001.out 0; have hfz9_1 := blk_frozen BK49001.out 1; have hfz9_2 := blk_frozen BK49001.out 2; have hfz9_3 := blk_frozen BK49001.out 3) | ((with_reducible refine gate_callee (f := 91) rfl ?_); refine goesL_ (some 9) rfl rfl Try.func91 (by kernel_rfl) rfl #[.int .i64 a0_0, .int .i64 a0_1, .int .i64 a0_2] rfl (by (try simp only [List.map_toArray, List.map_cons, List.map_nil]); first | done | rfl | (simp only [List.length_drop, List.length_take]; rfl)) ?_; (with_reducible refine (impl_isShape.calls a0_0 a0_1 a0_2 true _ A2.out).mono ?_); rintro e w' ⟨rfl, ⟨nd, rfl⟩⟩; refine ⟨_, rfl, ?_⟩))
      go_ret
      exact ⟨by first | rfl | (simp [errW_none, errW_some] <;> rfl) | (simp [*, errW_none, errW_some] <;> rfl), by repeat (first | (with_reducible first | exact HB.out | apply below_alloc | apply pw_below_drewN | apply below_drew1 | refine below_set ?_ GE49001.out) | exact HB.out)⟩
  · replace c3 := Bool.eq_false_iff.mpr c3
    subst c3
    have H1 : (some false) = some r := by rw [if_neg (show ¬ (false = true) by decide)] at H; exact H
    clear H
    have H := H1
    clear H1
    obtain rfl := Option.some.inj H
    go_enter Try.func48, Try.ntmps48
    go_wp2_with (first | ((with_reducible refine gate_dst (N := 1) rfl ?_); (try (refine gate_guard (by rfl) ?_; dsimp only)); refine box_event ?hg (N := 1) ?hd (cs := #[.int .i64 a0_0, .int .i64 a0_1, .int .i64 a0_2, .slice A0_3 l0_3.length c0_3]) (t := 28) ?hr ?_; (case hd => rfl); (case hg => rfl); (case hr => first | (go_simp; done) | (go_simp; rfl)); intro gb49001 hg w10 hbox hb; have n0_ := Aside0.mk (below_step (by repeat (first | (with_reducible first | exact HB.out | apply below_alloc | apply pw_below_drewN | apply below_drew1) | exact HB.out)) hb); have n1_ := Aside0.mk (hbox); have n2_ := Aside0.mk ((by rw [hg]; exact (below_size (by repeat (first | (with_reducible first | exact HB.out | apply below_alloc | apply pw_below_drewN | apply below_drew1) | exact HB.out))) : w.heap.size ≤ gb49001)); have n3_ := Aside0.mk ((by rw [hg]; exact (below_size (by repeat (first | (with_reducible first | exact HB.out | apply below_alloc | apply pw_below_drewN | apply below_drew1) | exact HB.out))) : w.heap.size ≤ gb49001)); clear HB; have HB := n0_; have BK49001 := n1_; have GW49001 := n2_; have GE49001 := n3_; clear n0_ n1_ n2_ n3_; clear hb hbox hg; have hcz11_0 : w10.cell? ⟨gb49001, 0, none⟩ = some (.int .i64 a0_0) := (blk_cell BK49001.out 0).trans rfl; have hcz11_1 : w10.cell? ⟨gb49001, 1, none⟩ = some (.int .i64 a0_1) := (blk_cell BK49001.out 1).trans rfl; have hcz11_2 : w10.cell? ⟨gb49001, 2, none⟩ = some (.int .i64 a0_2) := (blk_cell BK49001.out 2).trans rfl; have hcz11_3 : w10.cell? ⟨gb49001, 3, none⟩ = some (.slice A0_3 l0_3.length c0_3) := (blk_cell BK49001.out 3).trans rfl; have hfz11_0 := blk_frozen BK49001.out 0; have hfz11_1 := blk_frozen BK49001.out 1; have hfz11_2 := blk_frozen BK49001.out 2; have hfz11_3 := blk_frozen BK49001.out 3) | ((with_reducible refine gate_callee (f := 91) rfl ?_); refine goesL_ (some 9) rfl rfl Try.func91 (by kernel_rfl) rfl #[.int .i64 a0_0, .int .i64 a0_1, .int .i64 a0_2] rfl (by (try simp only [List.map_toArray, List.map_cons, List.map_nil]); first | done | rfl | (simp only [List.length_drop, List.length_take]; rfl)) ?_; (with_reducible refine (impl_isShape.calls a0_0 a0_1 a0_2 false _ A2.out).mono ?_); rintro e w' ⟨rfl, ⟨nd, rfl⟩⟩; refine ⟨_, rfl, ?_⟩))
    go_ret
    exact ⟨by first | rfl | (simp [errW_none, errW_some] <;> rfl) | (simp [*, errW_none, errW_some] <;> rfl), by repeat (first | (with_reducible first | exact HB.out | apply below_alloc | apply pw_below_drewN | apply below_drew1 | refine below_set ?_ GE49001.out) | exact HB.out)⟩

end Go.Proofs.Ytbgohbinonkhfaa.Q

namespace Go.Proofs.Ytbgohbinonkhfaa.Q
open Go.RowKit Go.Proofs.YtbgohbinonkhfaaW.PrintWords Go.Proofs.YtbgohbinonkhfaaW.PrintLast Go.Proofs.YtbgohbinonkhfaaW.PrintMore
attribute [local go_sem] max2_int min2_int max_two min_two max_three min_three max_four min_four
set_option linter.unusedVariables false
set_option linter.unusedSimpArgs false
/-! ### laws_eqIntS: function 52 -/
def laws_eqIntS.l0 : Nat → List Int → List Int → Int → Option (Bool)
  | 0, _, _, _ => none
  | k + 1, x0, x1, x5 => if x5 < (x0.length : Int) then (if 0 ≤ x5 then (if x5 < (x1.length : Int) then (if (rd x0 x5) = (rd x1 x5) then (laws_eqIntS.l0 k x0 x1 (wrap64 (x5 + 1))) else (some false)) else (none)) else (none)) else (some true)
def laws_eqIntS.f (k : Nat) (l0 : List Int) (l1 : List Int) : Option (Bool) := if (l0.length : Int) = (l1.length : Int) then (laws_eqIntS.l0 k l0 l1 0) else (some false)
theorem laws_eqIntS.mono_l : ∀ k, (∀ y0 y1 y2, LeO (laws_eqIntS.l0 k y0 y1 y2) (laws_eqIntS.l0 (k + 1) y0 y1 y2))
  | 0 => fun _ _ _ r h => by simp [laws_eqIntS.l0] at h
  | k + 1 => by
    have ih0 := laws_eqIntS.mono_l k
    · intro y0 y1 y2
      unfold laws_eqIntS.l0
      repeat' first
      | (with_reducible exact ih0 _ _ _)
      | (with_reducible exact LeO.refl _)
      | (with_reducible exact LeO.none _)
      | (with_reducible refine LeO.ite ?_ ?_)
      | (with_reducible refine LeO.bind ?_ (fun _ => ?_))
      | exact ih0 _ _ _
      | exact LeO.none _
      | refine LeO.ite ?_ ?_
      | refine LeO.bind ?_ (fun _ => ?_)
theorem laws_eqIntS.mono : ∀ a0 a1 k, LeO (laws_eqIntS.f k a0 a1) (laws_eqIntS.f (k + 1) a0 a1) := by
  intro a0 a1 k
  have ih0 := laws_eqIntS.mono_l k
  unfold laws_eqIntS.f
  repeat' first
      | (with_reducible exact ih0 _ _ _)
      | (with_reducible exact LeO.refl _)
      | (with_reducible exact LeO.none _)
      | (with_reducible refine LeO.ite ?_ ?_)
      | (with_reducible refine LeO.bind ?_ (fun _ => ?_))
      | exact ih0 _ _ _
      | exact LeO.none _
      | refine LeO.ite ?_ ?_
      | refine LeO.bind ?_ (fun _ => ?_)
set_option maxHeartbeats 8000000 in
set_option maxRecDepth 100000 in
theorem laws_eqIntS.calls (k : Nat) (A0 : Option Addr) (c0 : Nat) (l0 : List Int) (A1 : Option Addr) (c1 : Nat) (l1 : List Int) (r : Bool) (w : World) (hr0 : Kd.C (Kd.int .i64) w A0 l0.length l0) (hc0 : l0.length ≤ c0) (hr1 : Kd.C (Kd.int .i64) w A1 l1.length l1) (hc1 : l1.length ≤ c1) (h : laws_eqIntS.f k l0 l1 = some r) :
    Calls Try.prog 52 #[.slice A0 l0.length c0, .slice A1 l1.length c1] w fun e w' => e = .returned (.bool r) ∧ Drawn0 w w' := by
  have HR0 := Aside0.mk hr0
  have HC0 := Aside0.mk hc0
  clear hr0 hc0
  have HR1 := Aside0.mk hr1
  have HC1 := Aside0.mk hc1
  clear hr1 hc1
  have H : (if (l0.length : Int) = (l1.length : Int) then (laws_eqIntS.l0 k l0 l1 0) else (some false)) = some r := h
  clear h
  by_cases c3 : (l0.length : Int) = (l1.length : Int)
  · rw [if_pos c3] at H
    have c3b0 : ((l0.length : Int) == (l1.length : Int)) = true := beq_iff_eq.mpr c3
    have c3b1 : ((l0.length : Int) != (l1.length : Int)) = false := bne_eq_false_iff_eq.mpr c3
    have c3b2 : (l0.length == l1.length) = true := by first | simpa using c3 | (simp at c3 ⊢; omega)
    clear c3
    have H' := Aside0.mk H
    clear H
    go_enter Try.func52, Try.ntmps52
    go_wp2
    repeat (go_quiet (fail); try go_wp2)
    go_loopg [5] k (fun kq v5 w' => ∃ (x5_1 : Int), v5 = .int .i64 x5_1 ∧ Aside0 (laws_eqIntS.l0 kq l0 l1 x5_1 = some r) ∧ Aside0 (kq ≤ k) ∧ Drawn0 w w')
    case atStart => exact ⟨(0), (by first | rfl | (simp; done) | (simp [*]; done)), H', ⟨Nat.le_refl _⟩, by repeat (first | exact Drawn0.refl _ | apply Drawn0.step)⟩
    case round =>
      clear H'
      try clear c1
      try clear p2
      try clear c3
      try clear c3b0
      try clear c3b1
      try clear c3b2
      obtain ⟨x5_1, rfl, HA, HK1, ⟨m1, rfl⟩⟩ := hrel
      cases gk with
      | zero => exact absurd HA.out (by simp [laws_eqIntS.l0])
      | succ k1 =>
        have H := HA.out
        clear HA
        simp only [laws_eqIntS.l0] at H
        by_cases c4 : x5_1 < (l0.length : Int)
        · rw [if_pos c4] at H
          have c4b0 : decide (x5_1 < (l0.length : Int)) = true := decide_eq_true c4
          clear c4
          by_cases c5 : 0 ≤ x5_1
          · rw [if_pos c5] at H
            have c5b0 : decide (0 ≤ x5_1) = true := decide_eq_true c5
            clear c5
            by_cases c6 : x5_1 < (l1.length : Int)
            · rw [if_pos c6] at H
              have c6b0 : decide (x5_1 < (l1.length : Int)) = true := decide_eq_true c6
              clear c6
              by_cases c7 : (rd l0 x5_1) = (rd l1 x5_1)
              · rw [if_pos c7] at H
                have c7b0 : ((rd l0 x5_1) == (rd l1 x5_1)) = true := beq_iff_eq.mpr c7
                have c7b1 : ((rd l0 x5_1) != (rd l1 x5_1)) = false := bne_eq_false_iff_eq.mpr c7
                clear c7
                have H' := Aside0.mk H
                clear H
                have p53001 : 0 ≤ (x5_1 : Int) := of_decide_eq_true (by first | (with_reducible assumption) | assumption)
                have q53001 : x5_1 < (l0.length : Int) := of_decide_eq_true (by first | (with_reducible assumption) | assumption)
                obtain ⟨ad53001, e53001, hx53001_0⟩ := Kd.at_int HR0.out x5_1 p53001 q53001
                cases e53001
                replace p53001 := eq_true p53001
                replace q53001 := eq_true q53001
                have p53002 : 0 ≤ (x5_1 : Int) := of_decide_eq_true (by first | (with_reducible assumption) | assumption)
                have q53002 : x5_1 < (l1.length : Int) := of_decide_eq_true (by first | (with_reducible assumption) | assumption)
                obtain ⟨ad53002, e53002, hx53002_0⟩ := Kd.at_int HR1.out x5_1 p53002 q53002
                cases e53002
                replace p53002 := eq_true p53002
                replace q53002 := eq_true q53002
                go_wp2
                repeat (go_quiet (fail); try go_wp2)
                go_roundg k1
                case measure => have := HK1.out; omega
                case rel => exact ⟨(wrap64 (x5_1 + 1)), (by first | rfl | (simp; done) | (simp [*]; done)), H', ⟨by have := HK1.out; omega⟩, by repeat (first | exact Drawn0.refl _ | apply Drawn0.step)⟩
              · rw [if_neg c7] at H
                have c7b0 : ((rd l0 x5_1) == (rd l1 x5_1)) = false := beq_eq_false_iff_ne.mpr c7
                have c7b1 : ((rd l0 x5_1) != (rd l1 x5_1)) = true := bne_iff_ne.mpr c7
                obtain rfl := Option.some.inj H
                have p53001 : 0 ≤ (x5_1 : Int) := of_decide_eq_true (by first | (with_reducible assumption) | assumption)
                have q53001 : x5_1 < (l0.length : Int) := of_decide_eq_true (by first | (with_reducible assumption) | assumption)
                obtain ⟨ad53001, e53001, hx53001_0⟩ := Kd.at_int HR0.out x5_1 p53001 q53001
                cases e53001
                replace p53001 := eq_true p53001
                replace q53001 := eq_true q53001
                have p53002 : 0 ≤ (x5_1 : Int) := of_decide_eq_true (by first | (with_reducible assumption) | assumption)
                have q53002 : x5_1 < (l1.length : Int) := of_decide_eq_true (by first | (with_reducible assumption) | assumption)
                obtain ⟨ad53002, e53002, hx53002_0⟩ := Kd.at_int HR1.out x5_1 p53002 q53002
                cases e53002
                replace p53002 := eq_true p53002
                replace q53002 := eq_true q53002
                go_wp2
                repeat (go_quiet (fail); try go_wp2)
                go_ret
                exact ⟨by first | rfl | (simp; done) | (simp [*]; done), by repeat (first | exact Drawn0.refl _ | apply Drawn0.step)⟩
            · rw [if_neg c6] at H
              exact absurd H (by simp)
          · rw [if_neg c5] at H
            exact absurd H (by simp)
        · rw [if_neg c4] at H
          have c4b0 : decide (x5_1 < (l0.length : Int)) = false := decide_eq_false c4
          clear c4
          obtain rfl := Option.some.inj H
          go_wp2
          repeat (go_quiet (fail); try go_wp2)
          go_ret
          exact ⟨by first | rfl | (simp; done) | (simp [*]; done), by repeat (first | exact Drawn0.refl _ | apply Drawn0.step)⟩
  · rw [if_neg c3] at H
    have c3b0 : ((l0.length : Int) == (l1.length : Int)) = false := beq_eq_false_iff_ne.mpr c3
    have c3b1 : ((l0.length : Int) != (l1.length : Int)) = true := bne_iff_ne.mpr c3
    have c3b2 : (l0.length == l1.length) = false := by first | simpa using c3 | (simp at c3 ⊢; omega)
    obtain rfl := Option.some.inj H
    go_enter Try.func52, Try.ntmps52
    go_wp2
    repeat (go_quiet (fail); try go_wp2)
    go_ret
    exact ⟨by first | rfl | (simp; done) | (simp [*]; done), by repeat (first | exact Drawn0.refl _ | apply Drawn0.step)⟩

end Go.Proofs.Ytbgohbinonkhfaa.Q

namespace Go.Proofs.Ytbgohbinonkhfaa.Q
open Go.RowKit Go.Proofs.YtbgohbinonkhfaaW.PrintWords Go.Proofs.YtbgohbinonkhfaaW.PrintLast Go.Proofs.YtbgohbinonkhfaaW.PrintMore
attribute [local go_sem] max2_int min2_int max_two min_two max_three min_three max_four min_four
set_option linter.unusedVariables false
set_option linter.unusedSimpArgs false
/-! ### laws_eqImage: function 16 -/
def laws_eqImage.f (k : Nat) (a0_0 : Int) (a0_1 : Int) (a0_2 : Int) (l0_3 : List Int) (a1_0 : Int) (a1_1 : Int) (a1_2 : Int) (l1_3 : List Int) : Option (Bool) := if a0_0 = a1_0 then (if a0_1 = a1_1 then (if a0_2 = a1_2 then ((laws_eqIntS.f k l0_3 l1_3).bind fun t17003 => (if t17003 = true then (some true) else (some false))) else (some false)) else (some false)) else (some false)
theorem laws_eqImage.mono : ∀ a0 a1 a2 a3 a4 a5 a6 a7 k, LeO (laws_eqImage.f k a0 a1 a2 a3 a4 a5 a6 a7) (laws_eqImage.f (k + 1) a0 a1 a2 a3 a4 a5 a6 a7) := by
  intro a0 a1 a2 a3 a4 a5 a6 a7 k
  unfold laws_eqImage.f
  repeat' first
      | (with_reducible exact laws_eqIntS.mono _ _ _)
      | (with_reducible exact LeO.refl _)
      | (with_reducible exact LeO.none _)
      | (with_reducible refine LeO.ite ?_ ?_)
      | (with_reducible refine LeO.bind ?_ (fun _ => ?_))
      | exact laws_eqIntS.mono _ _ _
      | exact LeO.none _
      | refine LeO.ite ?_ ?_
      | refine LeO.bind ?_ (fun _ => ?_)
set_option maxHeartbeats 8000000 in
set_option maxRecDepth 100000 in
theorem laws_eqImage.calls (k : Nat) (a0_0 : Int) (a0_1 : Int) (a0_2 : Int) (A0_3 : Option Addr) (c0_3 : Nat) (l0_3 : List Int) (a1_0 : Int) (a1_1 : Int) (a1_2 : Int) (A1_3 : Option Addr) (c1_3 : Nat) (l1_3 : List Int) (r : Bool) (w : World) (hr0_3 : Kd.C (Kd.int .i64) w A0_3 l0_3.length l0_3) (hc0_3 : l0_3.length ≤ c0_3) (hr1_3 : Kd.C (Kd.int .i64) w A1_3 l1_3.length l1_3) (hc1_3 : l1_3.length ≤ c1_3) (h : laws_eqImage.f k a0_0 a0_1 a0_2 l0_3 a1_0 a1_1 a1_2 l1_3 = some r) :
    Calls Try.prog 16 #[.agg #[.int .i64 a0_0, .int .i64 a0_1, .int .i64 a0_2, .slice A0_3 l0_3.length c0_3], .agg #[.int .i64 a1_0, .int .i64 a1_1, .int .i64 a1_2, .slice A1_3 l1_3.length c1_3]] w fun e w' => e = .returned (.bool r) ∧ Below w.heap.size w w' := by
  have hu28 := Try.underlying28
  have HR0_3 := Aside0.mk hr0_3
  have HC0_3 := Aside0.mk hc0_3
  clear hr0_3 hc0_3
  have HR1_3 := Aside0.mk hr1_3
  have HC1_3 := Aside0.mk hc1_3
  clear hr1_3 hc1_3
  have HB := Aside0.mk (Below.refl w.heap.size w)
  have H : (if a0_0 = a1_0 then (if a0_1 = a1_1 then (if a0_2 = a1_2 then ((laws_eqIntS.f k l0_3 l1_3).bind fun t17003 => (if t17003 = true then (some true) else (some false))) else (some false)) else (some false)) else (some false)) = some r := h
  clear h
  by_cases c3 : a0_0 = a1_0
  · rw [if_pos c3] at H
    have c3b0 : (a0_0 == a1_0) = true := beq_iff_eq.mpr c3
    have c3b1 : (a0_0 != a1_0) = false := bne_eq_false_iff_eq.mpr c3
    clear c3
    by_cases c4 : a0_1 = a1_1
    · rw [if_pos c4] at H
      have c4b0 : (a0_1 == a1_1) = true := beq_iff_eq.mpr c4
      have c4b1 : (a0_1 != a1_1) = false := bne_eq_false_iff_eq.mpr c4
      clear c4
      by_cases c5 : a0_2 = a1_2
      · rw [if_pos c5] at H
        have c5b0 : (a0_2 == a1_2) = true := beq_iff_eq.mpr c5
        have c5b1 : (a0_2 != a1_2) = false := bne_eq_false_iff_eq.mpr c5
        clear c5
        replace H := Option.bind_eq_some_iff.mp H
        obtain ⟨t17003, A60, H⟩ := H
        replace H : (if t17003 = true then (some true) else (some false)) = some r := H
        have A6 := Aside0.mk A60
        clear A60
        by_cases c7 : t17003 = true
        · subst c7
          have H1 : (some true) = some r := by rw [if_pos rfl] at H; exact H
          clear H
          have H := H1
          clear H1
          obtain rfl := Option.some.inj H
          go_enter Try.func16, Try.ntmps16
          go_wp2_with (first | ((with_reducible refine gate_dst (N := 2) rfl ?_); refine box_event ?hg (N := 2) ?hd (cs := #[.int .i64 a0_0, .int .i64 a0_1, .int .i64 a0_2, .slice A0_3 l0_3.length c0_3]) (t := 28) ?hr ?_; (case hd => rfl); (case hg => rfl); (case hr => first | (go_simp; done) | (go_simp; rfl)); intro gb17001 hg w8 hbox hb; have n0_ := Aside0.mk (below_step (by repeat (first | (with_reducible first | exact HB.out | apply below_alloc | apply pw_below_drewN | apply below_drew1) | exact HB.out)) hb); have n1_ := Aside0.mk (hbox); have n2_ := Aside0.mk ((by rw [hg]; exact (below_size (by repeat (first | (with_reducible first | exact HB.out | apply below_alloc | apply pw_below_drewN | apply below_drew1) | exact HB.out))) : w.heap.size ≤ gb17001)); have n3_ := Aside0.mk ((by rw [hg]; exact (below_size (by repeat (first | (with_reducible first | exact HB.out | apply below_alloc | apply pw_below_drewN | apply below_drew1) | exact HB.out))) : w.heap.size ≤ gb17001)); clear HB; have HB := n0_; have BK17001 := n1_; have GW17001 := n2_; have GE17001 := n3_; clear n0_ n1_ n2_ n3_; clear hb hbox hg) | ((with_reducible refine gate_dst (N := 3) rfl ?_); refine box_event ?hg (N := 3) ?hd (cs := #[.int .i64 a1_0, .int .i64 a1_1, .int .i64 a1_2, .slice A1_3 l1_3.length c1_3]) (t := 28) ?hr ?_; (case hd => rfl); (case hg => rfl); (case hr => first | (go_simp; done) | (go_simp; rfl)); intro gb17002 hg w9 hbox hb; have n0_ := Aside0.mk (blk_below (g := gb17001) (o := .cells #[.int .i64 a0_0, .int .i64 a0_1, .int .i64 a0_2, .slice A0_3 l0_3.length c0_3] 28 (0, 0)) (by (with_reducible repeat (first | refine blk_drewN ?_ _ | refine blk_drew ?_ | refine blk_alloc ?_ _)); exact BK17001.out) hb); have n1_ := Aside0.mk (below_step (by repeat (first | (with_reducible first | exact HB.out | apply below_alloc | apply pw_below_drewN | apply below_drew1 | refine below_set ?_ GE17001.out) | exact HB.out)) hb); have n2_ := Aside0.mk (hbox); have n3_ := Aside0.mk ((by rw [hg]; exact (below_size (by repeat (first | (with_reducible first | exact HB.out | apply below_alloc | apply pw_below_drewN | apply below_drew1 | refine below_set ?_ GE17001.out) | exact HB.out))) : w.heap.size ≤ gb17002)); have n4_ := Aside0.mk ((by rw [hg]; exact (below_size (by repeat (first | (with_reducible first | exact HB.out | apply below_alloc | apply pw_below_drewN | apply below_drew1 | refine below_set ?_ GE17001.out) | exact HB.out))) : w.heap.size ≤ gb17002)); have n5_ := Aside0.mk ((by rw [hg]; exact Nat.ne_of_lt (blk_lt (g := gb17001) (o := .cells #[.int .i64 a0_0, .int .i64 a0_1, .int .i64 a0_2, .slice A0_3 l0_3.length c0_3] 28 (0, 0)) (by (with_reducible repeat (first | refine blk_drewN ?_ _ | refine blk_drew ?_ | refine blk_alloc ?_ _)); exact BK17001.out)) : gb17001 ≠ gb17002)); have n6_ := Aside0.mk ((by rw [hg]; exact Nat.ne_of_gt (blk_lt (g := gb17001) (o := .cells #[.int .i64 a0_0, .int .i64 a0_1, .int .i64 a0_2, .slice A0_3 l0_3.length c0_3] 28 (0, 0)) (by (with_reducible repeat (first | refine blk_drewN ?_ _ | refine blk_drew ?_ | refine blk_alloc ?_ _)); exact BK17001.out)) : gb17002 ≠ gb17001)); clear BK17001; clear HB; have BK17001 := n0_; have HB := n1_; have BK17002 := n2_; have GW17002 := n3_; have GE17002 := n4_; have NB17001_17002 := n5_; have NB17002_17001 := n6_; clear n0_ n1_ n2_ n3_ n4_ n5_ n6_; clear hb hbox hg; have hnb10 := NB17001_17002.out; have hnc10 := NB17002_17001.out; have hcz11_0 : w9.cell? ⟨gb17001, 0, none⟩ = some (.int .i64 a0_0) := (blk_cell BK17001.out 0).trans rfl; have hcz11_1 : w9.cell? ⟨gb17001, 1, none⟩ = some (.int .i64 a0_1) := (blk_cell BK17001.out 1).trans rfl; have hcz11_2 : w9.cell? ⟨gb17001, 2, none⟩ = some (.int .i64 a0_2) := (blk_cell BK17001.out 2).trans rfl; have hcz11_3 : w9.cell? ⟨gb17001, 3, none⟩ = some (.slice A0_3 l0_3.length c0_3) := (blk_cell BK17001.out 3).trans rfl; have hfz11_0 := blk_frozen BK17001.out 0; have hfz11_1 := blk_frozen BK17001.out 1; have hfz11_2 := blk_frozen BK17001.out 2; have hfz11_3 := blk_frozen BK17001.out 3; have hcz12_0 : w9.cell? ⟨gb17002, 0, none⟩ = some (.int .i64 a1_0) := (blk_cell BK17002.out 0).trans rfl; have hcz12_1 : w9.cell? ⟨gb17002, 1, none⟩ = some (.int .i64 a1_1) := (blk_cell BK17002.out 1).trans rfl; have hcz12_2 : w9.cell? ⟨gb17002, 2, none⟩ = some (.int .i64 a1_2) := (blk_cell BK17002.out 2).trans rfl; have hcz12_3 : w9.cell? ⟨gb17002, 3, none⟩ = some (.slice A1_3 l1_3.length c1_3) := (blk_cell BK17002.out 3).trans rfl; have hfz12_0 := blk_frozen BK17002.out 0; have hfz12_1 := blk_frozen BK17002.out 1; have hfz12_2 := blk_frozen BK17002.out 2; have hfz12_3 := blk_frozen BK17002.out 3) | ((with_reducible refine gate_callee (f := 52) rfl ?_); refine goesL_ (some 24) rfl rfl Try.func52 (by kernel_rfl) rfl #[.slice A0_3 l0_3.length c0_3, .slice A1_3 l1_3.length c1_3] rfl (by (try simp only [List.map_toArray, List.map_cons, List.map_nil]); first | done | rfl | (simp only [List.length_drop, List.length_take]; rfl)) ?_; (with_reducible refine (laws_eqIntS.calls k _ _ l0_3 _ _ l1_3 true _ ?side1 ?side2 ?side3 ?side4 A6.out).mono ?_); (case side1 => repeat (first | exact (Kd.C_below HR0_3.out HB.out) | (with_reducible refine Kd.C_alloc ?_ _) | (with_reducible refine Kd.C_drewN ?_ _) | (with_reducible refine Kd.C_drew ?_))); (case side2 => exact HC0_3.out); (case side3 => repeat (first | exact (Kd.C_below HR1_3.out HB.out) | (with_reducible refine Kd.C_alloc ?_ _) | (with_reducible refine Kd.C_drewN ?_ _) | (with_reducible refine Kd.C_drew ?_))); (case side4 => exact HC1_3.out); rintro e w' ⟨rfl, ⟨nd, rfl⟩⟩; refine ⟨_, rfl, ?_⟩))
          go_ret
          exact ⟨by first | rfl | (simp [errW_none, errW_some] <;> rfl) | (simp [*, errW_none, errW_some] <;> rfl), by repeat (first | (with_reducible first | exact HB.out | apply below_alloc | apply pw_below_drewN | apply below_drew1 | refine below_set ?_ GE17001.out | refine below_set ?_ GE17002.out) | exact HB.out)⟩
        · replace c7 := Bool.eq_false_iff.mpr c7
          subst c7
          have H1 : (some false) = some r := by rw [if_neg (show ¬ (false = true) by decide)] at H; exact H
          clear H
          have H := H1
          clear H1
          obtain rfl := Option.some.inj H
          go_enter Try.func16, Try.ntmps16
          go_wp2_with (first | ((with_reducible refine gate_dst (N := 2) rfl ?_); refine box_event ?hg (N := 2) ?hd (cs := #[.int .i64 a0_0, .int .i64 a0_1, .int .i64 a0_2, .slice A0_3 l0_3.length c0_3]) (t := 28) ?hr ?_; (case hd => rfl); (case hg => rfl); (case hr => first | (go_simp; done) | (go_simp; rfl)); intro gb17001 hg w13 hbox hb; have n0_ := Aside0.mk (below_step (by repeat (first | (with_reducible first | exact HB.out | apply below_alloc | apply pw_below_drewN | apply below_drew1) | exact HB.out)) hb); have n1_ := Aside0.mk (hbox); have n2_ := Aside0.mk ((by rw [hg]; exact (below_size (by repeat (first | (with_reducible first | exact HB.out | apply below_alloc | apply pw_below_drewN | apply below_drew1) | exact HB.out))) : w.heap.size ≤ gb17001)); have n3_ := Aside0.mk ((by rw [hg]; exact (below_size (by repeat (first | (with_reducible first | exact HB.out | apply below_alloc | apply pw_below_drewN | apply below_drew1) | exact HB.out))) : w.heap.size ≤ gb17001)); clear HB; have HB := n0_; have BK17001 := n1_; have GW17001 := n2_; have GE17001 := n3_; clear n0_ n1_ n2_ n3_; clear hb hbox hg) | ((with_reducible refine gate_dst (N := 3) rfl ?_); refine box_event ?hg (N := 3) ?hd (cs := #[.int .i64 a1_0, .int .i64 a1_1, .int .i64 a1_2, .slice A1_3 l1_3.length c1_3]) (t := 28) ?hr ?_; (case hd => rfl); (case hg => rfl); (case hr => first | (go_simp; done) | (go_simp; rfl)); intro gb17002 hg w14 hbox hb; have n0_ := Aside0.mk (blk_below (g := gb17001) (o := .cells #[.int .i64 a0_0, .int .i64 a0_1, .int .i64 a0_2, .slice A0_3 l0_3.length c0_3] 28 (0, 0)) (by (with_reducible repeat (first | refine blk_drewN ?_ _ | refine blk_drew ?_ | refine blk_alloc ?_ _)); exact BK17001.out) hb); have n1_ := Aside0.mk (below_step (by repeat (first | (with_reducible first | exact HB.out | apply below_alloc | apply pw_below_drewN | apply below_drew1 | refine below_set ?_ GE17001.out) | exact HB.out)) hb); have n2_ := Aside0.mk (hbox); have n3_ := Aside0.mk ((by rw [hg]; exact (below_size (by repeat (first | (with_reducible first | exact HB.out | apply below_alloc | apply pw_below_drewN | apply below_drew1 | refine below_set ?_ GE17001.out) | exact HB.out))) : w.heap.size ≤ gb17002)); have n4_ := Aside0.mk ((by rw [hg]; exact (below_size (by repeat (first | (with_reducible first | exact HB.out | apply below_alloc | apply pw_below_drewN | apply below_drew1 | refine below_set ?_ GE17001.out) | exact HB.out))) : w.heap.size ≤ gb17002)); have n5_ := Aside0.mk ((by rw [hg]; exact Nat.ne_of_lt (blk_lt (g := gb17001) (o := .cells #[.int .i64 a0_0, .int .i64 a0_1, .int .i64 a0_2, .slice A0_3 l0_3.length c0_3] 28 (0, 0)) (by (with_reducible repeat (first | refine blk_drewN ?_ _ | refine blk_drew ?_ | refine blk_alloc ?_ _)); exact BK17001.out)) : gb17001 ≠ gb17002)); have n6_ := Aside0.mk ((by rw [hg]; exact Nat.ne_of_gt (blk_lt (g := gb17001) (o := .cells #[.int .i64 a0_0, .int .i64 a0_1, .int .i64 a0_2, .slice A0_3 l0_3.length c0_3] 28 (0, 0)) (by (with_reducible repeat (first | refine blk_drewN ?_ _ | refine blk_drew ?_ | refine blk_alloc ?_ _)); exact BK17001.out)) : gb17002 ≠ gb17001)); clear BK17001; clear HB; have BK17001 := n0_; have HB := n1_; have BK17002 := n2_; have GW17002 := n3_; have GE17002 := n4_; have NB17001_17002 := n5_; have NB17002_17001 := n6_; clear n0_ n1_ n2_ n3_ n4_ n5_ n6_; clear hb hbox hg; have hnb15 := NB17001_17002.out; have hnc15 := NB17002_17001.out; have hcz16_0 : w14.cell? ⟨gb17001, 0, none⟩ = some (.int .i64 a0_0) := (blk_cell BK17001.out 0).trans rfl; have hcz16_1 : w14.cell? ⟨gb17001, 1, none⟩ = some (.int .i64 a0_1) := (blk_cell BK17001.out 1).trans rfl; have hcz16_2 : w14.cell? ⟨gb17001, 2, none⟩ = some (.int .i64 a0_2) := (blk_cell BK17001.out 2).trans rfl; have hcz16_3 : w14.cell? ⟨gb17001, 3, none⟩ = some (.slice A0_3 l0_3.length c0_3) := (blk_cell BK17001.out 3).trans rfl; have hfz16_0 := blk_frozen BK17001.out 0; have hfz16_1 := blk_frozen BK17001.out 1; have hfz16_2 := blk_frozen BK17001.out 2; have hfz16_3 := blk_frozen BK17001.out 3; have hcz17_0 : w14.cell? ⟨gb17002, 0, none⟩ = some (.int .i64 a1_0) := (blk_cell BK17002.out 0).trans rfl; have hcz17_1 : w14.cell? ⟨gb17002, 1, none⟩ = some (.int .i64 a1_1) := (blk_cell BK17002.out 1).trans rfl; have hcz17_2 : w14.cell? ⟨gb17002, 2, none⟩ = some (.int .i64 a1_2) := (blk_cell BK17002.out 2).trans rfl; have hcz17_3 : w14.cell? ⟨gb17002, 3, none⟩ = some (.slice A1_3 l1_3.length c1_3) := (blk_cell BK17002.out 3).trans rfl; have hfz17_0 := blk_frozen BK17002.out 0; have hfz17_1 := blk_frozen BK17002.out 1; have hfz17_2 := blk_frozen BK17002.out 2; have hfz17_3 := blk_frozen BK17002.out 3) | ((with_reducible refine gate_callee (f := 52) rfl ?_); refine goesL_ (some 24) rfl rfl Try.func52 (by kernel_rfl) rfl #[.slice A0_3 l0_3.length c0_3, .slice A1_3 l1_3.length c1_3] rfl (by (try simp only [List.map_toArray, List.map_cons, List.map_nil]); first | done | rfl | (simp only [List.length_drop, List.length_take]; rfl)) ?_; (with_reducible refine (laws_eqIntS.calls k _ _ l0_3 _ _ l1_3 false _ ?side1 ?side2 ?side3 ?side4 A6.out).mono ?_); (case side1 => repeat (first | exact (Kd.C_below HR0_3.out HB.out) | (with_reducible refine Kd.C_alloc ?_ _) | (with_reducible refine Kd.C_drewN ?_ _) | (with_reducible refine Kd.C_drew ?_))); (case side2 => exact HC0_3.out); (case side3 => repeat (first | exact (Kd.C_below HR1_3.out HB.out) | (with_reducible refine Kd.C_alloc ?_ _) | (with_reducible refine Kd.C_drewN ?_ _) | (with_reducible refine Kd.C_drew ?_))); (case side4 => exact HC1_3.out); rintro e w' ⟨rfl, ⟨nd, rfl⟩⟩; refine ⟨_, rfl, ?_⟩))
          go_ret
          exact ⟨by first | rfl | (simp [errW_none, errW_some] <;> rfl) | (simp [*, errW_none, errW_some] <;> rfl), by repeat (first | (with_reducible first | exact HB.out | apply below_alloc | apply pw_below_drewN | apply below_drew1 | refine below_set ?_ GE17001.out | refine below_set ?_ GE17002.out) | exact HB.out)⟩
      · rw [if_neg c5] at H
        have c5b0 : (a0_2 == a1_2) = false := beq_eq_false_iff_ne.mpr c5
        have c5b1 : (a0_2 != a1_2) = true := bne_iff_ne.mpr c5
        obtain rfl := Option.some.inj H
        go_enter Try.func16, Try.ntmps16
        go_wp2_with (first | ((with_reducible refine gate_dst (N := 2) rfl ?_); refine box_event ?hg (N := 2) ?hd (cs := #[.int .i64 a0_0, .int .i64 a0_1, .int .i64 a0_2, .slice A0_3 l0_3.length c0_3]) (t := 28) ?hr ?_; (case hd => rfl); (case hg => rfl); (case hr => first | (go_simp; done) | (go_simp; rfl)); intro gb17001 hg w18 hbox hb; have n0_ := Aside0.mk (below_step (by repeat (first | (with_reducible first | exact HB.out | apply below_alloc | apply pw_below_drewN | apply below_drew1) | exact HB.out)) hb); have n1_ := Aside0.mk (hbox); have n2_ := Aside0.mk ((by rw [hg]; exact (below_size (by repeat (first | (with_reducible first | exact HB.out | apply below_alloc | apply pw_below_drewN | apply below_drew1) | exact HB.out))) : w.heap.size ≤ gb17001)); have n3_ := Aside0.mk ((by rw [hg]; exact (below_size (by repeat (first | (with_reducible first | exact HB.out | apply below_alloc | apply pw_below_drewN | apply below_drew1) | exact HB.out))) : w.heap.size ≤ gb17001)); clear HB; have HB := n0_; have BK17001 := n1_; have GW17001 := n2_; have GE17001 := n3_; clear n0_ n1_ n2_ n3_; clear hb hbox hg) | ((with_reducible refine gate_dst (N := 3) rfl ?_); refine box_event ?hg (N := 3) ?hd (cs := #[.int .i64 a1_0, .int .i64 a1_1, .int .i64 a1_2, .slice A1_3 l1_3.length c1_3]) (t := 28) ?hr ?_; (case hd => rfl); (case hg => rfl); (case hr => first | (go_simp; done) | (go_simp; rfl)); intro gb17002 hg w19 hbox hb; have n0_ := Aside0.mk (blk_below (g := gb17001) (o := .cells #[.int .i64 a0_0, .int .i64 a0_1, .int .i64 a0_2, .slice A0_3 l0_3.length c0_3] 28 (0, 0)) (by (with_reducible repeat (first | refine blk_drewN ?_ _ | refine blk_drew ?_ | refine blk_alloc ?_ _)); exact BK17001.out) hb); have n1_ := Aside0.mk (below_step (by repeat (first | (with_reducible first | exact HB.out | apply below_alloc | apply pw_below_drewN | apply below_drew1 | refine below_set ?_ GE17001.out) | exact HB.out)) hb); have n2_ := Aside0.mk (hbox); have n3_ := Aside0.mk ((by rw [hg]; exact (below_size (by repeat (first | (with_reducible first | exact HB.out | apply below_alloc | apply pw_below_drewN | apply below_drew1 | refine below_set ?_ GE17001.out) | exact HB.out))) : w.heap.size ≤ gb17002)); have n4_ := Aside0.mk ((by rw [hg]; exact (below_size (by repeat (first | (with_reducible first | exact HB.out | apply below_alloc | apply pw_below_drewN | apply below_drew1 | refine below_set ?_ GE17001.out) | exact HB.out))) : w.heap.size ≤ gb17002)); have n5_ := Aside0.mk ((by rw [hg]; exact Nat.ne_of_lt (blk_lt (g := gb17001) (o := .cells #[.int .i64 a0_0, .int .i64 a0_1, .int .i64 a0_2, .slice A0_3 l0_3.length c0_3] 28 (0, 0)) (by (with_reducible repeat (first | refine blk_drewN ?_ _ | refine blk_drew ?_ | refine blk_alloc ?_ _)); exact BK17001.out)) : gb17001 ≠ gb17002)); have n6_ := Aside0.mk ((by rw [hg]; exact Nat.ne_of_gt (blk_lt (g := gb17001) (o := .cells #[.int .i64 a0_0, .int .i64 a0_1, .int .i64 a0_2, .slice A0_3 l0_3.length c0_3] 28 (0, 0)) (by (with_reducible repeat (first | refine blk_drewN ?_ _ | refine blk_drew ?_ | refine blk_alloc ?_ _)); exact BK17001.out)) : gb17002 ≠ gb17001)); clear BK17001; clear HB; have BK17001 := n0_; have HB := n1_; have BK17002 := n2_; have GW17002 := n3_; have GE17002 := n4_; have NB17001_17002 := n5_; have NB17002_17001 := n6_; clear n0_ n1_ n2_ n3_ n4_ n5_ n6_; clear hb hbox hg; have hnb20 := NB17001_17002.out; have hnc20 := NB17002_17001.out; have hcz21_0 : w19.cell? ⟨gb17001, 0, none⟩ = some (.int .i64 a0_0) := (blk_cell BK17001.out 0).trans rfl; have hcz21_1 : w19.cell? ⟨gb17001, 1, none⟩ = some (.int .i64 a0_1) := (blk_cell BK17001.out 1).trans rfl; have hcz21_2 : w19.cell? ⟨gb17001, 2, none⟩ = some (.int .i64 a0_2) := (blk_cell BK17001.out 2).trans rfl; have hcz21_3 : w19.cell? ⟨gb17001, 3, none⟩ = some (.slice A0_3 l0_3.length c0_3) := (blk_cell BK17001.out 3).trans rfl; have hfz21_0 := blk_frozen BK17001.out 0; have hfz21_1 := blk_frozen BK17001.out 1; have hfz21_2 := blk_frozen BK17001.out 2; have hfz21_3 := blk_frozen BK17001.out 3; have hcz22_0 : w19.cell? ⟨gb17002, 0, none⟩ = some (.int .i64 a1_0) := (blk_cell BK17002.out 0).trans rfl; have hcz22_1 : w19.cell? ⟨gb17002, 1, none⟩ = some (.int .i64 a1_1) := (blk_cell BK17002.out 1).trans rfl; have hcz22_2 : w19.cell? ⟨gb17002, 2, none⟩ = some (.int .i64 a1_2) := (blk_cell BK17002.out 2).trans rfl; have hcz22_3 : w19.cell? ⟨gb17002, 3, none⟩ = some (.slice A1_3 l1_3.length c1_3) := (blk_cell BK17002.out 3).trans rfl; have hfz22_0 := blk_frozen BK17002.out 0; have hfz22_1 := blk_frozen BK17002.out 1; have hfz22_2 := blk_frozen BK17002.out 2; have hfz22_3 := blk_frozen BK17002.out 3))
        go_ret
        exact ⟨by first | rfl | (simp [errW_none, errW_some] <;> rfl) | (simp [*, errW_none, errW_some] <;> rfl), by repeat (first | (with_reducible first | exact HB.out | apply below_alloc | apply pw_below_drewN | apply below_drew1 | refine below_set ?_ GE17001.out | refine below_set ?_ GE17002.out) | exact HB.out)⟩
    · rw [if_neg c4] at H
      have c4b0 : (a0_1 == a1_1) = false := beq_eq_false_iff_ne.mpr c4
      have c4b1 : (a0_1 != a1_1) = true := bne_iff_ne.mpr c4
      obtain rfl := Option.some.inj H
      go_enter Try.func16, Try.ntmps16
      go_wp2_with (first | ((with_reducible refine gate_dst (N := 2) rfl ?_); refine box_event ?hg (N := 2) ?hd (cs := #[.int .i64 a0_0, .int .i64 a0_1, .int .i64 a0_2, .slice A0_3 l0_3.length c0_3]) (t := 28) ?hr ?_; (case hd => rfl); (case hg => rfl); (case hr => first | (go_simp; done) | (go_simp; rfl)); intro gb17001 hg w23 hbox hb; have n0_ := Aside0.mk (below_step (by repeat (first | (with_reducible first | exact HB.out | apply below_alloc | apply pw_below_drewN | apply below_drew1) | exact HB.out)) hb); have n1_ := Aside0.mk (hbox); have n2_ := Aside0.mk ((by rw [hg]; exact (below_size (by repeat (first | (with_reducible first | exact HB.out | apply below_alloc | apply pw_below_drewN | apply below_drew1) | exact HB.out))) : w.heap.size ≤ gb17001)); have n3_ := Aside0.mk ((by rw [hg]; exact (below_size (by repeat (first | (with_reducible first | exact HB.out | apply below_alloc | apply pw_below_drewN | apply below_drew1) | exact HB.out))) : w.heap.size ≤ gb17001)); clear HB; have HB := n0_; have BK17001 := n1_; have GW17001 := n2_; have GE17001 := n3_; clear n0_ n1_ n2_ n3_; clear hb hbox hg) | ((with_reducible refine gate_dst (N := 3) rfl ?_); refine box_event ?hg (N := 3) ?hd (cs := #[.int .i64 a1_0, .int .i64 a1_1, .int .i64 a1_2, .slice A1_3 l1_3.length c1_3]) (t := 28) ?hr ?_; (case hd => rfl); (case hg => rfl); (case hr => first | (go_simp; done) | (go_simp; rfl)); intro gb17002 hg w24 hbox hb; have n0_ := Aside0.mk (blk_below (g := gb17001) (o := .cells #[.int .i64 a0_0, .int .i64 a0_1, .int .i64 a0_2, .slice A0_3 l0_3.length c0_3] 28 (0, 0)) (by (with_reducible repeat (first | refine blk_drewN ?_ _ | refine blk_drew ?_ | refine blk_alloc ?_ _)); exact BK17001.out) hb); have n1_ := Aside0.mk (below_step (by repeat (first | (with_reducible first | exact HB.out | apply below_alloc | apply pw_below_drewN | apply below_drew1 | refine below_set ?_ GE17001.out) | exact HB.out)) hb); have n2_ := Aside0.mk (hbox); have n3_ := Aside0.mk ((by rw [hg]; exact (below_size (by repeat (first | (with_reducible first | exact HB.out | apply below_alloc | apply pw_below_drewN | apply below_drew1 | refine below_set ?_ GE17001.out) | exact HB.out))) : w.heap.size ≤ gb17002)); have n4_ := Aside0.mk ((by rw [hg]; exact (below_size (by repeat (first | (with_reducible first | exact HB.out | apply below_alloc | apply pw_below_drewN | apply below_drew1 | refine below_set ?_ GE17001.out) | exact HB.out))) : w.heap.size ≤ gb17002)); have n5_ := Aside0.mk ((by rw [hg]; exact Nat.ne_of_lt (blk_lt (g := gb17001) (o := .cells #[.int .i64 a0_0, .int .i64 a0_1, .int .i64 a0_2, .slice A0_3 l0_3.length c0_3] 28 (0, 0)) (by (with_reducible repeat (first | refine blk_drewN ?_ _ | refine blk_drew ?_ | refine blk_alloc ?_ _)); exact BK17001.out)) : gb17001 ≠ gb17002)); have n6_ := Aside0.mk ((by rw [hg]; exact Nat.ne_of_gt (blk_lt (g := gb17001) (o := .cells #[.int .i64 a0_0, .int .i64 a0_1, .int .i64 a0_2, .slice A0_3 l0_3.length c0_3] 28 (0, 0)) (by (with_reducible repeat (first | refine blk_drewN ?_ _ | refine blk_drew ?_ | refine blk_alloc ?_ _)); exact BK17001.out)) : gb17002 ≠ gb17001)); clear BK17001; clear HB; have BK17001 := n0_; have HB := n1_; have BK17002 := n2_; have GW17002 := n3_; have GE17002 := n4_; have NB17001_17002 := n5_; have NB17002_17001 := n6_; clear n0_ n1_ n2_ n3_ n4_ n5_ n6_; clear hb hbox hg; have hnb25 := NB17001_17002.out; have hnc25 := NB17002_17001.out; have hcz26_0 : w24.cell? ⟨gb17001, 0, none⟩ = some (.int .i64 a0_0) := (blk_cell BK17001.out 0).trans rfl; have hcz26_1 : w24.cell? ⟨gb17001, 1, none⟩ = some (.int .i64 a0_1) := (blk_cell BK17001.out 1).trans rfl; have hcz26_2 : w24.cell? ⟨gb17001, 2, none⟩ = some (.int .i64 a0_2) := (blk_cell BK17001.out 2).trans rfl; have hcz26_3 : w24.cell? ⟨gb17001, 3, none⟩ = some (.slice A0_3 l0_3.length c0_3) := (blk_cell BK17001.out 3).trans rfl; have hfz26_0 := blk_frozen BK17001.out 0; have hfz26_1 := blk_frozen BK17001.out 1; have hfz26_2 := blk_frozen BK17001.out 2; have hfz26_3 := blk_frozen BK17001.out 3; have hcz27_0 : w24.cell? ⟨gb17002, 0, none⟩ = some (.int .i64 a1_0) := (blk_cell BK17002.out 0).trans rfl; have hcz27_1 : w24.cell? ⟨gb17002, 1, none⟩ = some (.int .i64 a1_1) := (blk_cell BK17002.out 1).trans rfl; have hcz27_2 : w24.cell? ⟨gb17002, 2, none⟩ = some (.int .i64 a1_2) := (blk_cell BK17002.out 2).trans rfl; have hcz27_3 : w24.cell? ⟨gb17002, 3, none⟩ = some (.slice A1_3 l1_3.length c1_3) := (blk_cell BK17002.out 3).trans rfl; have hfz27_0 := blk_frozen BK17002.out 0; have hfz27_1 := blk_frozen BK17002.out 1; have hfz27_2 := blk_frozen BK17002.out 2; have hfz27_3 := blk_frozen BK17002.out 3))
      go_ret
      exact ⟨by first | rfl | (simp [errW_none, errW_some] <;> rfl) | (simp [*, errW_none, errW_some] <;> rfl), by repeat (first | (with_reducible first | exact HB.out | apply below_alloc | apply pw_below_drewN | apply below_drew1 | refine below_set ?_ GE17001.out | refine below_set ?_ GE17002.out) | exact HB.out)⟩
  · rw [if_neg c3] at H
    have c3b0 : (a0_0 == a1_0) = false := beq_eq_false_iff_ne.mpr c3
    have c3b1 : (a0_0 != a1_0) = true := bne_iff_ne.mpr c3
    obtain rfl := Option.some.inj H
    go_enter Try.func16, Try.ntmps16
    go_wp2_with (first | ((with_reducible refine gate_dst (N := 2) rfl ?_); refine box_event ?hg (N := 2) ?hd (cs := #[.int .i64 a0_0, .int .i64 a0_1, .int .i64 a0_2, .slice A0_3 l0_3.length c0_3]) (t := 28) ?hr ?_; (case hd => rfl); (case hg => rfl); (case hr => first | (go_simp; done) | (go_simp; rfl)); intro gb17001 hg w28 hbox hb; have n0_ := Aside0.mk (below_step (by repeat (first | (with_reducible first | exact HB.out | apply below_alloc | apply pw_below_drewN | apply below_drew1) | exact HB.out)) hb); have n1_ := Aside0.mk (hbox); have n2_ := Aside0.mk ((by rw [hg]; exact (below_size (by repeat (first | (with_reducible first | exact HB.out | apply below_alloc | apply pw_below_drewN | apply below_drew1) | exact HB.out))) : w.heap.size ≤ gb17001)); have n3_ := Aside0.mk ((by rw [hg]; exact (below_size (by repeat (first | (with_reducible first | exact HB.out | apply below_alloc | apply pw_below_drewN | apply below_drew1) | exact HB.out))) : w.heap.size ≤ gb17001)); clear HB; have HB := n0_; have BK17001 := n1_; have GW17001 := n2_; have GE17001 := n3_; clear n0_ n1_ n2_ n3_; clear hb hbox hg) | ((with_reducible refine gate_dst (N := 3) rfl ?_); refine box_event ?hg (N := 3) ?hd (cs := #[.int .i64 a1_0, .int .i64 a1_1, .int .i64 a1_2, .slice A1_3 l1_3.length c1_3]) (t := 28) ?hr ?_; (case hd => rfl); (case hg => rfl); (case hr => first | (go_simp; done) | (go_simp; rfl)); intro gb17002 hg w29 hbox hb; have n0_ := Aside0.mk (blk_below (g := gb17001) (o := .cells #[.int .i64 a0_0, .int .i64 a0_1, .int .i64 a0_2, .slice A0_3 l0_3.length c0_3] 28 (0, 0)) (by (with_reducible repeat (first | refine blk_drewN ?_ _ | refine blk_drew ?_ | refine blk_alloc ?_ _)); exact BK17001.out) hb); have n1_ := Aside0.mk (below_step (by repeat (first | (with_reducible first | exact HB.out | apply below_alloc | apply pw_below_drewN | apply below_drew1 | refine below_set ?_ GE17001.out) | exact HB.out)) hb); have n2_ := Aside0.mk (hbox); have n3_ := Aside0.mk ((by rw [hg]; exact (below_size (by repeat (first | (with_reducible first | exact HB.out | apply below_alloc | apply pw_below_drewN | apply below_drew1 | refine below_set ?_ GE17001.out) | exact HB.out))) : w.heap.size ≤ gb17002)); have n4_ := Aside0.mk ((by rw [hg]; exact (below_size (by repeat (first | (with_reducible first | exact HB.out | apply below_alloc | apply pw_below_drewN | apply below_drew1 | refine below_set ?_ GE17001.out) | exact HB.out))) : w.heap.size ≤ gb17002)); have n5_ := Aside0.mk ((by rw [hg]; exact Nat.ne_of_lt (blk_lt (g := gb17001) (o := .cells #[.int .i64 a0_0, .int .i64 a0_1, .int .i64 a0_2, .slice A0_3 l0_3.length c0_3] 28 (0, 0)) (by (with_reducible repeat (first | refine blk_drewN ?_ _ | refine blk_drew ?_ | refine blk_alloc ?_ _)); exact BK17001.out)) : gb17001 ≠ gb17002)); have n6_ := Aside0.mk ((by rw [hg]; exact Nat.ne_of_gt (blk_lt (g := gb17001) (o := .cells #[.int .i64 a0_0, .int .i64 a0_1, .int .i64 a0_2, .slice A0_3 l0_3.length c0_3] 28 (0, 0)) (by (with_reducible repeat (first | refine blk_drewN ?_ _ | refine blk_drew ?_ | refine blk_alloc ?_ _)); exact BK17001.out)) : gb17002 ≠ gb17001)); clear BK17001; clear HB; have BK17001 := n0_; have HB := n1_; have BK17002 := n2_; have GW17002 := n3_; have GE17002 := n4_; have NB17001_17002 := n5_; have NB17002_17001 := n6_; clear n0_ n1_ n2_ n3_ n4_ n5_ n6_; clear hb hbox hg; have hnb30 := NB17001_17002.out; have hnc30 := NB17002_17001.out; have hcz31_0 : w29.cell? ⟨gb17001, 0, none⟩ = some (.int .i64 a0_0) := (blk_cell BK17001.out 0).trans rfl; have hcz31_1 : w29.cell? ⟨gb17001, 1, none⟩ = some (.int .i64 a0_1) := (blk_cell BK17001.out 1).trans rfl; have hcz31_2 : w29.cell? ⟨gb17001, 2, none⟩ = some (.int .i64 a0_2) := (blk_cell BK17001.out 2).trans rfl; have hcz31_3 : w29.cell? ⟨gb17001, 3, none⟩ = some (.slice A0_3 l0_3.length c0_3) := (blk_cell BK17001.out 3).trans rfl; have hfz31_0 := blk_frozen BK17001.out 0; have hfz31_1 := blk_frozen BK17001.out 1; have hfz31_2 := blk_frozen BK17001.out 2; have hfz31_3 := blk_frozen BK17001.out 3; have hcz32_0 : w29.cell? ⟨gb17002, 0, none⟩ = some (.int .i64 a1_0) := (blk_cell BK17002.out 0).trans rfl; have hcz32_1 : w29.cell? ⟨gb17002, 1, none⟩ = some (.int .i64 a1_1) := (blk_cell BK17002.out 1).trans rfl; have hcz32_2 : w29.cell? ⟨gb17002, 2, none⟩ = some (.int .i64 a1_2) := (blk_cell BK17002.out 2).trans rfl; have hcz32_3 : w29.cell? ⟨gb17002, 3, none⟩ = some (.slice A1_3 l1_3.length c1_3) := (blk_cell BK17002.out 3).trans rfl; have hfz32_0 := blk_frozen BK17002.out 0; have hfz32_1 := blk_frozen BK17002.out 1; have hfz32_2 := blk_frozen BK17002.out 2; have hfz32_3 := blk_frozen BK17002.out 3))
    go_ret
    exact ⟨by first | rfl | (simp [errW_none, errW_some] <;> rfl) | (simp [*, errW_none, errW_some] <;> rfl), by repeat (first | (with_reducible first | exact HB.out | apply below_alloc | apply pw_below_drewN | apply below_drew1 | refine below_set ?_ GE17001.out | refine below_set ?_ GE17002.out) | exact HB.out)⟩

end Go.Proofs.Ytbgohbinonkhfaa.Q

namespace Go.Proofs.Ytbgohbinonkhfaa.Q
open Go.RowKit Go.Proofs.YtbgohbinonkhfaaW.PrintWords Go.Proofs.YtbgohbinonkhfaaW.PrintLast Go.Proofs.YtbgohbinonkhfaaW.PrintMore
attribute [local go_sem] max2_int min2_int max_two min_two max_three min_three max_four min_four
set_option linter.unusedVariables false
set_option linter.unusedSimpArgs false
/-! ### laws_markIntS: function 53 -/
def laws_markIntS.l0 : Nat → List Int → Int → Int → Option (Int × List Int)
  | 0, _, _, _ => none
  | k + 1, x0, x1, x5 => if x5 < (x0.length : Int) then (if 0 ≤ x5 then (laws_markIntS.l0 k (x0.set (x5 : Int).toNat x1) (wrap64 (x1 + 1)) (wrap64 (x5 + 1))) else (none)) else (some (x1, x0))
def laws_markIntS.f (k : Nat) (l0 : List Int) (a1 : Int) : Option (Int × List Int) := laws_markIntS.l0 k l0 a1 0
theorem laws_markIntS.mono_l : ∀ k, (∀ y0 y1 y2, LeO (laws_markIntS.l0 k y0 y1 y2) (laws_markIntS.l0 (k + 1) y0 y1 y2))
  | 0 => fun _ _ _ r h => by simp [laws_markIntS.l0] at h
  | k + 1 => by
    have ih0 := laws_markIntS.mono_l k
    · intro y0 y1 y2
      unfold laws_markIntS.l0
      repeat' first
      | (with_reducible exact ih0 _ _ _)
      | (with_reducible exact LeO.refl _)
      | (with_reducible exact LeO.none _)
      | (with_reducible refine LeO.ite ?_ ?_)
      | (with_reducible refine LeO.bind ?_ (fun _ => ?_))
      | exact ih0 _ _ _
      | exact LeO.none _
      | refine LeO.ite ?_ ?_
      | refine LeO.bind ?_ (fun _ => ?_)
theorem laws_markIntS.mono : ∀ a0 a1 k, LeO (laws_markIntS.f k a0 a1) (laws_markIntS.f (k + 1) a0 a1) := by
  intro a0 a1 k
  have ih0 := laws_markIntS.mono_l k
  unfold laws_markIntS.f
  repeat' first
      | (with_reducible exact ih0 _ _ _)
      | (with_reducible exact LeO.refl _)
      | (with_reducible exact LeO.none _)
      | (with_reducible refine LeO.ite ?_ ?_)
      | (with_reducible refine LeO.bind ?_ (fun _ => ?_))
      | exact ih0 _ _ _
      | exact LeO.none _
      | refine LeO.ite ?_ ?_
      | refine LeO.bind ?_ (fun _ => ?_)
set_option maxHeartbeats 8000000 in
set_option maxRecDepth 100000 in
theorem laws_markIntS.calls (k : Nat) (P0_ : Nat → Prop) (u9000_ : Value) (l0 : List Int) (a1 : Int) (r1 : Int) (r2 : List Int) (w0 w : World) (hB : Below w0.heap.size w0 w) (ho0 : Kd.R (Kd.int .i64) 3 w w0.heap.size P0_ u9000_ l0) (h : laws_markIntS.f k l0 a1 = some (r1, r2)) :
    Calls Try.prog 53 #[u9000_, .int .i64 a1] w fun e w' => e = .returned (.int .i64 r1) ∧ Kd.R (Kd.int .i64) 3 w' w0.heap.size (fun k_ => (P0_ k_ ∨ w.heap.size ≤ k_)) u9000_ r2 ∧ Below w0.heap.size w0 w' ∧ Kept w w' (fun k_ => P0_ k_) := by
  have HO0 := Aside0.mk (show Kd.R (Kd.int .i64) 3 w w0.heap.size (fun k_ => (P0_ k_ ∨ w.heap.size ≤ k_)) u9000_ l0 from Kd.R_mono ho0 (fun k_ hk => (.inl hk)))
  have HK := Aside0.mk (Kept.refl w (fun k_ => P0_ k_))
  have HW0 := Aside0.mk hB.size
  have HB := Aside0.mk hB
  clear hB
  have H : (laws_markIntS.l0 k l0 a1 0) = some (r1, r2) := h
  clear h
  have H' := Aside0.mk H
  clear H
  go_enter Try.func53, Try.ntmps53
  go_wp2
  go_loopg [1, 5] k (fun kq v1 v5 w' => ∃ (x0_1 : List Int) (x1_1 : Int) (x5_1 : Int), v1 = .int .i64 x1_1 ∧ v5 = .int .i64 x5_1 ∧ Aside0 (laws_markIntS.l0 kq x0_1 x1_1 x5_1 = some (r1, r2)) ∧ Aside0 (kq ≤ k) ∧ Aside0 (Kd.R (Kd.int .i64) 3 w' w0.heap.size (fun k_ => (P0_ k_ ∨ w.heap.size ≤ k_)) u9000_ x0_1) ∧ Aside0 (Kept w w' (fun k_ => P0_ k_)) ∧ Aside0 (Below w0.heap.size w0 w'))
  case atStart => exact ⟨(l0), (a1), (0), (by first | rfl | (simp; done) | (simp [*]; done)), (by first | rfl | (simp; done) | (simp [*]; done)), H', ⟨Nat.le_refl _⟩, ⟨by (with_reducible repeat (first | apply Kd.R_alloc | apply Kd.R_drewN | apply Kd.R_drew)); exact HO0.out⟩, ⟨by repeat (first | (with_reducible first | exact HK.out | apply Kept.alloc | apply Kept.drewN | apply Kept.drew) | exact HK.out)⟩, ⟨by repeat (first | (with_reducible first | exact HB.out | apply below_alloc | apply pw_below_drewN | apply below_drew1) | exact HB.out)⟩⟩
  case round =>
    clear H'
    try clear p2
    obtain ⟨x0_1, x1_1, x5_1, rfl, rfl, HA, HK1, HO_0, HK, HB⟩ := hrel
    cases gk with
    | zero => exact absurd HA.out (by simp [laws_markIntS.l0])
    | succ k1 =>
      have H := HA.out
      clear HA
      simp only [laws_markIntS.l0] at H
      by_cases c3 : x5_1 < (x0_1.length : Int)
      · rw [if_pos c3] at H
        have c3b0 : decide (x5_1 < (x0_1.length : Int)) = true := decide_eq_true c3
        clear c3
        by_cases c4 : 0 ≤ x5_1
        · rw [if_pos c4] at H
          have c4b0 : decide (0 ≤ x5_1) = true := decide_eq_true c4
          clear c4
          obtain ⟨y54001, hy54001⟩ : ∃ y_ : List Int, y_ = (x0_1.set (x5_1 : Int).toNat x1_1) := ⟨_, rfl⟩
          replace H : (laws_markIntS.l0 k1 y54001 (wrap64 (x1_1 + 1)) (wrap64 (x5_1 + 1))) = some (r1, r2) := by first | (rw [hy54001]; with_reducible exact H) | (have H2_ := (Option.bind_some _ _).symm.trans H; rw [hy54001]; with_reducible exact H2_) | (have H2_ := (Option.bind_some _ _).symm.trans H; with_reducible exact H2_) | with_reducible exact H | (rw [hy54001]; exact H) | exact H
          have Ny54001 := Aside0.mk hy54001
          clear hy54001
          have H' := Aside0.mk H
          clear H
          obtain ⟨Ao6, co6, eo6⟩ := Kd.R_slice HO_0.out
          subst eo6
          have p5 : 0 ≤ (x5_1 : Int) := of_decide_eq_true (by first | (with_reducible assumption) | assumption)
          have q5 : (x5_1 : Int) < ((x0_1.length : Int) : Int) := of_decide_eq_true (by first | (with_reducible assumption) | assumption)
          obtain ⟨go5, co5, eo5, gb5, gl5, cl5, HG5⟩ := Kd.R_form HO_0.out (by omega)
          (first | cases eo5 | (injection eo5 with ea_ en_ ec_; (first | subst ea_ | (injection ea_ with ea_; subst ea_)); subst ec_; clear en_))
          have GB5 := Aside0.mk gb5
          have GG5 := Aside0.mk HG5
          clear gb5 gl5 HG5
          have HMgo5 := Aside0.mk (show (P0_ go5 ∨ w.heap.size ≤ go5) from (HO_0.out.1 _ rfl))
          obtain ⟨hx5_0, hf5_0⟩ := Kd.R_celln 0 HO_0.out (x5_1 : Int) p5 q5
          replace p5 := eq_true p5
          replace q5 := eq_true q5
          have HP7 := Kd.R_putg HO_0.out (x5_1 : Int) x1_1
          go_wp2_with (first | ((with_reducible refine gate_store (t := 3) (p := 15) rfl ?_); refine store_event (t := 3) (p := 15) (v := ?vo_w8) (w1 := (wr.setCell ⟨go5, (x5_1 : Int).toNat, none⟩ (.int .i64 x1_1))) ?hg ?ho ?hn ?hr ?_; (case ho => rfl); (case hg => rfl); (case hn => rfl); (case hr => first | (go_simp; done) | (go_simp; rfl)); intro w8 hw; have hg : wr.grownBy w8 (some go5) := (by rw [hw]; exact HP7.2); have hp_ : Kd.R (Kd.int .i64) 3 w8 w0.heap.size (fun k_ => (P0_ k_ ∨ w.heap.size ≤ k_)) (.slice (some ⟨go5, 0, none⟩) x0_1.length co6) y54001 := (by rw [hw, Ny54001.out]; exact HP7.1); clear HP7; have n0_ := Aside0.mk (hp_); have n1_ := Aside0.mk ((by rw [hw]; exact below_set (HB.out) GB5.out : Below w0.heap.size w0 w8)); have n2_ := Aside0.mk (Kept.of_grown (S := (fun k_ => P0_ k_)) hg (by repeat (first | (with_reducible first | exact HK.out | apply Kept.alloc | apply Kept.drewN | apply Kept.drew) | exact HK.out)) (fun k_ e_ => (HO_0.out.1 k_ e_))); clear HO_0; clear HB; clear HK; have HO_0 := n0_; have HB := n1_; have HK := n2_; clear n0_ n1_ n2_; clear hg hw hp_))
          go_roundg k1
          case measure => have := HK1.out; omega
          case rel => exact ⟨(y54001), (wrap64 (x1_1 + 1)), (wrap64 (x5_1 + 1)), (by first | rfl | (simp; done) | (simp [*]; done)), (by first | rfl | (simp; done) | (simp [*]; done)), H', ⟨by have := HK1.out; omega⟩, ⟨by (with_reducible repeat (first | apply Kd.R_alloc | apply Kd.R_drewN | apply Kd.R_drew)); exact HO_0.out⟩, ⟨by repeat (first | (with_reducible first | exact HK.out | apply Kept.alloc | apply Kept.drewN | apply Kept.drew) | exact HK.out)⟩, ⟨by repeat (first | (with_reducible first | exact HB.out | apply below_alloc | apply pw_below_drewN | apply below_drew1) | exact HB.out)⟩⟩
        · rw [if_neg c4] at H
          exact absurd H (by simp)
      · rw [if_neg c3] at H
        have c3b0 : decide (x5_1 < (x0_1.length : Int)) = false := decide_eq_false c3
        clear c3
        simp only [Option.some.injEq, Prod.mk.injEq] at H
        obtain ⟨rfl, rfl⟩ := H
        obtain ⟨Ao9, co9, eo9⟩ := Kd.R_slice HO_0.out
        subst eo9
        go_wp2
        go_ret
        exact ⟨by first | rfl | (simp [errW_none, errW_some] <;> rfl) | (simp [*, errW_none, errW_some] <;> rfl), by (with_reducible repeat (first | apply Kd.R_alloc | apply Kd.R_drewN | apply Kd.R_drew)); exact HO_0.out, by repeat (first | (with_reducible first | exact HB.out | apply below_alloc | apply pw_below_drewN | apply below_drew1) | exact HB.out), by repeat (first | (with_reducible first | exact HK.out | apply Kept.alloc | apply Kept.drewN | apply Kept.drew) | exact HK.out)⟩

end Go.Proofs.Ytbgohbinonkhfaa.Q

namespace Go.Proofs.Ytbgohbinonkhfaa.Q
open Go.RowKit Go.Proofs.YtbgohbinonkhfaaW.PrintWords Go.Proofs.YtbgohbinonkhfaaW.PrintLast Go.Proofs.YtbgohbinonkhfaaW.PrintMore
attribute [local go_sem] max2_int min2_int max_two min_two max_three min_three max_four min_four
set_option linter.unusedVariables false
set_option linter.unusedSimpArgs false
/-! ### laws_markImage: function 17 -/
def laws_markImage.f (k : Nat) (a0_0 : Int) (a0_1 : Int) (a0_2 : Int) (l0_3 : List Int) (a1 : Int) : Option (Int × List Int) := (laws_markIntS.f k l0_3 a1).bind fun bt18002 => (some (bt18002.1, bt18002.2))
theorem laws_markImage.mono : ∀ a0 a1 a2 a3 a4 k, LeO (laws_markImage.f k a0 a1 a2 a3 a4) (laws_markImage.f (k + 1) a0 a1 a2 a3 a4) := by
  intro a0 a1 a2 a3 a4 k
  unfold laws_markImage.f
  repeat' first
      | (with_reducible exact laws_markIntS.mono _ _ _)
      | (with_reducible exact LeO.refl _)
      | (with_reducible exact LeO.none _)
      | (with_reducible refine LeO.ite ?_ ?_)
      | (with_reducible refine LeO.bind ?_ (fun _ => ?_))
      | exact laws_markIntS.mono _ _ _
      | exact LeO.none _
      | refine LeO.ite ?_ ?_
      | refine LeO.bind ?_ (fun _ => ?_)
set_option maxHeartbeats 8000000 in
set_option maxRecDepth 100000 in
theorem laws_markImage.calls (k : Nat) (a0_0 : Int) (a0_1 : Int) (a0_2 : Int) (P0_3_ : Nat → Prop) (u9000_ : Value) (l0_3 : List Int) (a1 : Int) (r1 : Int) (r2 : List Int) (w0 w : World) (hB : Below w0.heap.size w0 w) (ho0_3 : Kd.R (Kd.int .i64) 3 w w0.heap.size P0_3_ u9000_ l0_3) (h : laws_markImage.f k a0_0 a0_1 a0_2 l0_3 a1 = some (r1, r2)) :
    Calls Try.prog 17 #[.agg #[.int .i64 a0_0, .int .i64 a0_1, .int .i64 a0_2, u9000_], .int .i64 a1] w fun e w' => e = .returned (.int .i64 r1) ∧ Kd.R (Kd.int .i64) 3 w' w0.heap.size (fun k_ => (P0_3_ k_ ∨ w.heap.size ≤ k_)) u9000_ r2 ∧ Below w0.heap.size w0 w' ∧ Kept w w' (fun k_ => P0_3_ k_) := by
  have hu28 := Try.underlying28
  have HO0_3 := Aside0.mk (show Kd.R (Kd.int .i64) 3 w w0.heap.size (fun k_ => (P0_3_ k_ ∨ w.heap.size ≤ k_)) u9000_ l0_3 from Kd.R_mono ho0_3 (fun k_ hk => (.inl hk)))
  have HK := Aside0.mk (Kept.refl w (fun k_ => P0_3_ k_))
  have HW0 := Aside0.mk hB.size
  have HB := Aside0.mk hB
  clear hB
  have H : ((laws_markIntS.f k l0_3 a1).bind fun bt18002 => (some (bt18002.1, bt18002.2))) = some (r1, r2) := h
  clear h
  replace H := Option.bind_eq_some_iff.mp H
  obtain ⟨⟨t18002, t18003⟩, A30, H⟩ := H
  replace H : (some (t18002, t18003)) = some (r1, r2) := H
  have A3 := Aside0.mk A30
  clear A30
  simp only [Option.some.injEq, Prod.mk.injEq] at H
  obtain ⟨rfl, rfl⟩ := H
  obtain ⟨Ao4, co4, eo4⟩ := Kd.R_slice HO0_3.out
  subst eo4
  go_enter Try.func17, Try.ntmps17
  go_wp2_with (first | ((with_reducible refine gate_dst (N := 2) rfl ?_); refine box_event ?hg (N := 2) ?hd (cs := #[.int .i64 a0_0, .int .i64 a0_1, .int .i64 a0_2, .slice Ao4 l0_3.length co4]) (t := 28) ?hr ?_; (case hd => rfl); (case hg => rfl); (case hr => first | (go_simp; done) | (go_simp; rfl)); intro gb18001 hg w5 hbox hb; have n0_ := Aside0.mk (Kd.R_below (by (with_reducible repeat (first | apply Kd.R_alloc | apply Kd.R_drewN | apply Kd.R_drew)); exact HO0_3.out) hb); have n1_ := Aside0.mk (Kept.below (S := (fun k_ => P0_3_ k_)) (by repeat (first | (with_reducible first | exact HK.out | apply Kept.alloc | apply Kept.drewN | apply Kept.drew) | exact HK.out)) hb); have n2_ := Aside0.mk (below_step (by repeat (first | (with_reducible first | exact HB.out | apply below_alloc | apply pw_below_drewN | apply below_drew1) | exact HB.out)) hb); have n3_ := Aside0.mk (hbox); have n4_ := Aside0.mk ((by rw [hg]; exact (by first | exact HK.out.1 | exact (show Kept w _ (fun k_ => P0_3_ k_) from by repeat (first | (with_reducible first | exact HK.out | apply Kept.alloc | apply Kept.drewN | apply Kept.drew) | exact HK.out)).1) : w.heap.size ≤ gb18001)); have n5_ := Aside0.mk ((by rw [hg]; exact (below_size (by repeat (first | (with_reducible first | exact HB.out | apply below_alloc | apply pw_below_drewN | apply below_drew1) | exact HB.out))) : w0.heap.size ≤ gb18001)); clear HO0_3; clear HK; clear HB; have HO0_3 := n0_; have HK := n1_; have HB := n2_; have BK18001 := n3_; have GW18001 := n4_; have GE18001 := n5_; clear n0_ n1_ n2_ n3_ n4_ n5_; clear hb hbox hg; have hcz6_0 : w5.cell? ⟨gb18001, 0, none⟩ = some (.int .i64 a0_0) := (blk_cell BK18001.out 0).trans rfl; have hcz6_1 : w5.cell? ⟨gb18001, 1, none⟩ = some (.int .i64 a0_1) := (blk_cell BK18001.out 1).trans rfl; have hcz6_2 : w5.cell? ⟨gb18001, 2, none⟩ = some (.int .i64 a0_2) := (blk_cell BK18001.out 2).trans rfl; have hcz6_3 : w5.cell? ⟨gb18001, 3, none⟩ = some (.slice Ao4 l0_3.length co4) := (blk_cell BK18001.out 3).trans rfl; have hfz6_0 := blk_frozen BK18001.out 0; have hfz6_1 := blk_frozen BK18001.out 1; have hfz6_2 := blk_frozen BK18001.out 2; have hfz6_3 := blk_frozen BK18001.out 3) | ((with_reducible refine gate_callee (f := 53) rfl ?_); refine goesL_ (some 8) rfl rfl Try.func53 (by kernel_rfl) rfl #[.slice Ao4 l0_3.length co4, .int .i64 a1] rfl (by (try simp only [List.map_toArray, List.map_cons, List.map_nil]); first | done | rfl | (simp only [List.length_drop, List.length_take]; rfl)) ?_; (with_reducible refine (laws_markIntS.calls k (fun k_ => some k_ = (.slice Ao4 l0_3.length co4 : Value).ownBlock) (.slice Ao4 l0_3.length co4) l0_3 a1 t18002 t18003 w0 _ ?side1 ?side2 A3.out).mono ?_); (case side1 => repeat (first | (with_reducible first | exact HB.out | apply below_alloc | apply pw_below_drewN | apply below_drew1 | refine below_set ?_ GE18001.out) | exact HB.out)); (case side2 => exact Kd.R_tight rfl HO0_3.out); rintro e w7 ⟨rfl, hy0, hb, hkp⟩; refine ⟨_, rfl, ?_⟩; have n0_ := Aside0.mk (Kd.R_reok rfl hy0 (fun k_ e_ => HO0_3.out.1 k_ e_)); have n1_ := Aside0.mk (blk_kept (by (with_reducible repeat (first | refine blk_drewN ?_ _ | refine blk_drew ?_ | refine blk_alloc ?_ _)); exact BK18001.out) hkp (fun hs_ => (fun e_ => (Kd.R_ne HO0_3.out BK18001.out (by decide)) e_) hs_)); have n2_ := Aside0.mk (Kept.then_ (S := (fun k_ => P0_3_ k_)) (by repeat (first | (with_reducible first | exact HK.out | apply Kept.alloc | apply Kept.drewN | apply Kept.drew | refine Kept.setCell ?_ (.inr GW18001.out) _) | exact HK.out)) hkp (fun k_ hs_ => (fun e_ => (HO0_3.out.1 k_ e_.symm)) hs_)); have n3_ := Aside0.mk (hb); clear HO0_3; clear BK18001; clear HK; clear HB; have HO0_3 := n0_; have BK18001 := n1_; have HK := n2_; have HB := n3_; clear n0_ n1_ n2_ n3_; (try clear hb); (try clear hkp); (try clear hy0)))
  go_ret
  exact ⟨by first | rfl | (simp [errW_none, errW_some] <;> rfl) | (simp [*, errW_none, errW_some] <;> rfl), by (with_reducible repeat (first | apply Kd.R_alloc | apply Kd.R_drewN | apply Kd.R_drew)); exact HO0_3.out, by repeat (first | (with_reducible first | exact HB.out | apply below_alloc | apply pw_below_drewN | apply below_drew1 | refine below_set ?_ GE18001.out) | exact HB.out), by repeat (first | (with_reducible first | exact HK.out | apply Kept.alloc | apply Kept.drewN | apply Kept.drew | refine Kept.setCell ?_ (.inr GW18001.out) _) | exact HK.out)⟩

end Go.Proofs.Ytbgohbinonkhfaa.Q

/- Images: valid ones, as the program and the reference have it; copies of lists of numbers. -/
namespace Go.Proofs.Ytbgohbinonkhfaa.Pure
open Go.RowKit Go.Proofs.Ytbgohbinonkhfaa.Q Go.Proofs.YtbgohbinonkhfaaW.PrintWords Go.Proofs.YtbgohbinonkhfaaW.PrintLast Go.Proofs.YtbgohbinonkhfaaW.PrintMore
set_option linter.unusedVariables false
set_option linter.unusedSimpArgs false

def byteI (n : Int) : Bool := decide (0 ≤ n) && decide (n ≤ 255)
def shapeI (w h p : Int) : Bool := decide (1 ≤ w ∧ w ≤ 16 ∧ 1 ≤ h ∧ h ≤ 16 ∧ 1 ≤ p ∧ p ≤ 4)
theorem shapeI_iff (w h p : Int) : shapeI w h p = true ↔ 1 ≤ w ∧ w ≤ 16 ∧ 1 ≤ h ∧ h ≤ 16 ∧ 1 ≤ p ∧ p ≤ 4 := by simp [shapeI]
def validI (w h p : Int) (d : List Int) : Bool := shapeI w h p && (decide ((d.length : Int) = w * h * p) && d.all byteI)
theorem validI_iff (w h p : Int) (d : List Int) : validI w h p d = true ↔ (1 ≤ w ∧ w ≤ 16 ∧ 1 ≤ h ∧ h ≤ 16 ∧ 1 ≤ p ∧ p ≤ 4) ∧ (d.length : Int) = w * h * p ∧ ∀ n ∈ d, 0 ≤ n ∧ n ≤ 255 := by
  simp [validI, shapeI_iff, byteI, and_assoc]
theorem shape_prod {w h p : Int} (hs : 1 ≤ w ∧ w ≤ 16 ∧ 1 ≤ h ∧ h ≤ 16 ∧ 1 ≤ p ∧ p ≤ 4) : 0 ≤ w * h ∧ w * h ≤ 256 ∧ 0 ≤ w * h * p ∧ w * h * p ≤ 1024 := by
  have h1 : 0 ≤ w * h := Int.mul_nonneg (by omega) (by omega)
  have h2 : w * h ≤ 16 * 16 := Int.mul_le_mul (by omega) (by omega) (by omega) (by omega)
  have h3 : 0 ≤ w * h * p := Int.mul_nonneg h1 (by omega)
  have h4 : w * h * p ≤ 256 * 4 := Int.mul_le_mul (by omega) (by omega) (by omega) (by omega)
  omega
theorem shape_wrap {w h p : Int} (hs : 1 ≤ w ∧ w ≤ 16 ∧ 1 ≤ h ∧ h ≤ 16 ∧ 1 ≤ p ∧ p ≤ 4) : wrap64 (wrap64 (w * h) * p) = w * h * p := by
  have := shape_prod hs
  rw [w64 (x := w * h) (by omega) (by omega), w64 (by omega) (by omega)]
theorem impl_isSide_eq (a : Int) : impl_isSide.f a = some (decide (1 ≤ a ∧ a ≤ 16)) := by
  unfold impl_isSide.f
  by_cases c : a ≥ 1
  · rw [if_pos c]; congr 1; rw [decide_eq_decide]; omega
  · rw [if_neg c, decide_eq_false (by omega)]
theorem impl_isShape_eq (w h p : Int) : impl_isShape.f w h p = some (shapeI w h p) := by
  unfold impl_isShape.f shapeI
  rw [impl_isSide_eq, impl_isSide_eq]
  simp only [Option.bind_some]
  by_cases c1 : 1 ≤ w ∧ w ≤ 16
  · rw [if_pos (by simpa using c1)]
    by_cases c2 : 1 ≤ h ∧ h ≤ 16
    · rw [if_pos (by simpa using c2)]
      by_cases c3 : p ≥ 1
      · rw [if_pos c3]; congr 1; rw [decide_eq_decide]; omega
      · rw [if_neg c3, decide_eq_false (by omega)]
    · rw [if_neg (by simpa using c2), decide_eq_false (by omega)]
  · rw [if_neg (by simpa using c1), decide_eq_false (by omega)]
theorem areBytesI_eq (l : List Int) : impl_areBytes.f l = some (l.all byteI) := by
  unfold impl_areBytes.f
  congr 1
  rw [List.not_any_eq_all_not]
  congr 1
  funext n
  unfold notByte byteI
  rw [Bool.eq_iff_iff]
  simp
theorem impl_isImage_eq (w h p : Int) (d : List Int) : impl_isImage.f w h p d = some (validI w h p d) := by
  unfold impl_isImage.f validI
  rw [impl_isShape_eq, areBytesI_eq]
  simp only [Option.bind_some]
  by_cases c : shapeI w h p = true
  · rw [if_pos c, shape_wrap ((shapeI_iff w h p).1 c), c]
    by_cases e : (d.length : Int) = w * h * p
    · rw [if_pos e, decide_eq_true e]; rfl
    · rw [if_neg e, decide_eq_false e]; rfl
  · rw [if_neg c, Bool.eq_false_iff.2 c]; rfl
theorem spec_inRangeI_eq (n a b : Int) : spec_inRange.f n a b = some (decide (a ≤ n) && decide (n ≤ b)) := by
  unfold spec_inRange.f
  by_cases c : a ≤ n
  · rw [if_pos c, decide_eq_true c, Bool.true_and]
  · rw [if_neg c, decide_eq_false c, Bool.false_and]
theorem spec_validShape_eq (w h p : Int) : spec_validShape.f w h p = some (shapeI w h p) := by
  unfold spec_validShape.f shapeI
  rw [spec_inRangeI_eq, spec_inRangeI_eq, spec_inRangeI_eq]
  simp only [Option.bind_some]
  by_cases c1 : 1 ≤ w ∧ w ≤ 16
  · rw [if_pos (by simpa using c1)]
    by_cases c2 : 1 ≤ h ∧ h ≤ 16
    · rw [if_pos (by simpa using c2)]; congr 1; rw [Bool.eq_iff_iff]; simp; omega
    · rw [if_neg (by simpa using c2), decide_eq_false (by omega)]
  · rw [if_neg (by simpa using c1), decide_eq_false (by omega)]
theorem spec_allInI_ev (l : List Int) (hl : l.length ≤ 1000000000000) : Ev (fun k => spec_allIn.f k l 0 255) (l.all byteI) := by
  have key := ev_up l.length (fun k i (_ : Unit) => spec_allIn.l0 k l 0 255 (i : Int)) (fun _ _ => True) (fun i _ => (l.drop i).all byteI)
    (by
      intro i s hi _
      have hd : (l.drop i).all byteI = (byteI l[i] && (l.drop (i + 1)).all byteI) := by rw [List.drop_eq_getElem_cons hi, List.all_cons]
      cases hb : byteI l[i] with
      | true =>
        right
        refine ⟨(), fun k => ?_, trivial, by rw [hd, hb, Bool.true_and]⟩
        simp only [spec_allIn.l0]
        rw [if_pos (by omega), if_pos (by omega), rd_nat l i hi, spec_inRangeI_eq]
        simp only [Option.bind_some]
        rw [if_pos (show (decide (0 ≤ l[i]) && decide (l[i] ≤ 255)) = true from hb), w64n i (by omega)]
      | false =>
        left
        rw [hd, hb, Bool.false_and]
        refine Ev.step (f := fun _ => some false) (fun k => ?_) (Ev.now false)
        simp only [spec_allIn.l0]
        rw [if_pos (by omega), if_pos (by omega), rd_nat l i hi, spec_inRangeI_eq]
        simp only [Option.bind_some]
        rw [if_neg (Bool.eq_false_iff.1 (show (decide (0 ≤ l[i]) && decide (l[i] ≤ 255)) = false from hb))])
    (by
      intro s _
      rw [List.drop_length]
      refine Ev.step (f := fun _ => some true) (fun k => ?_) (Ev.now true)
      simp only [spec_allIn.l0]
      rw [if_neg (by omega)])
    l.length 0 () (by omega) trivial
  unfold spec_allIn.f
  simpa using key
theorem spec_validImage_ev (w h p : Int) (d : List Int) (hl : d.length ≤ 1000000000000) : Ev (fun k => spec_validImage.f k w h p d) (validI w h p d) := by
  unfold spec_validImage.f validI
  refine ev_now (spec_validShape_eq w h p) ?_
  by_cases c : shapeI w h p = true
  · refine ev_pos c ?_
    rw [shape_wrap ((shapeI_iff w h p).1 c), c, Bool.true_and]
    by_cases e : (d.length : Int) = w * h * p
    · refine ev_pos e ?_
      rw [decide_eq_true e, Bool.true_and]
      exact ev_bind (spec_allInI_ev d hl) (Ev.now _)
    · refine ev_neg e ?_
      rw [decide_eq_false e]
      exact Ev.now _
  · refine ev_neg c ?_
    rw [Bool.eq_false_iff.2 c]
    exact Ev.now _
end Go.Proofs.Ytbgohbinonkhfaa.Pure

/- impl.changed: the region of the pixels at which two images differ. -/
namespace Go.Proofs.Ytbgohbinonkhfaa.Q
open Go.RowKit Go.Proofs.YtbgohbinonkhfaaW.PrintWords Go.Proofs.YtbgohbinonkhfaaW.PrintLast Go.Proofs.YtbgohbinonkhfaaW.PrintMore
attribute [local go_sem] max2_int min2_int max_two min_two max_three min_three max_four min_four
set_option linter.unusedVariables false
set_option linter.unusedSimpArgs false
open Go.Proofs.Ytbgohbinonkhfaa.Pure

theorem yieldsC_img {ops : Array Oper} {S : World → Prop} {op : Oper} {a : Act} (hw : Region.wanted op (yielded ops a.tmps) = true) (x : Operand) (ho : op.op = .load 28 x)
    (B : Nat) (hx : a.eval x = .pointer (some ⟨B, 0, none⟩)) (cs : Array Value) (hS : ∀ w, S w → w.heap[B]? = some (.cells cs 28 (0, 0))) (hn : cs.size = 4) : YieldsIf Try.prog ops S op (.agg cs) a :=
  .inl ⟨hw, fun w hw' => by
    unfold execOp
    simp only [ho, hx, Instr.loadAt, Instr.sureAddr, Sem.run_bind, Sem.run_pure, Result.andThen_ok, run_loadVar_row w B 28 28 cs (0, 0) _ (hS w hw') Try.underlying28 rfl (by rw [hn]; kernel_rfl)]⟩
theorem yieldsC_int {ops : Array Oper} {S : World → Prop} {op : Oper} {a : Act} (hw : Region.wanted op (yielded ops a.tmps) = true) (x : Operand) (ho : op.op = .load 3 x)
    (ad : Addr) (hx : a.eval x = .pointer (some ad)) (v : Int) (hS : ∀ w, S w → w.cell? ad = some (.int .i64 v)) : YieldsIf Try.prog ops S op (.int .i64 v) a :=
  .inl ⟨hw, fun w hw' => by
    have h := hS w hw'
    unfold execOp
    simp only [ho, hx]
    go_simp⟩
/-- where a pixel's numbers begin -/
def pixJ (a p : Int) (x y : Nat) : Int := wrap64 ((wrap64 ((wrap64 ((y : Int) * a)) + (x : Int))) * p)
theorem pixJ_is {a b p : Int} {d : List Int} (hv : validI a b p d = true) {x y : Nat} (hx : (x : Int) < a) (hy : (y : Int) < b) : 0 ≤ pixJ a p x y ∧ pixJ a p x y ≤ 1024 ∧ pixJ a p x y = ((y : Int) * a + x) * p ∧ pixJ a p x y + p ≤ (d.length : Int) := by
  have h := (validI_iff a b p d).1 hv
  have hp := shape_prod h.1
  have h1 : 0 ≤ (y : Int) * a := Int.mul_nonneg (by omega) (by omega)
  have h2 : (y : Int) * a ≤ (b - 1) * a := Int.mul_le_mul_of_nonneg_right (by omega) (by omega)
  have h3 : (b - 1) * a = a * b - a := by rw [Int.sub_mul, Int.mul_comm b a]; omega
  have h4 : 0 ≤ ((y : Int) * a + x) * p := Int.mul_nonneg (by omega) (by omega)
  have h5 : ((y : Int) * a + x) * p ≤ (a * b - 1) * p := Int.mul_le_mul_of_nonneg_right (by omega) (by omega)
  have h6 : (a * b - 1) * p = a * b * p - p := by rw [Int.sub_mul]; omega
  have e : pixJ a p x y = ((y : Int) * a + x) * p := by
    unfold pixJ
    rw [w64 (x := (y : Int) * a) (by omega) (by omega), w64 (x := (y : Int) * a + (x : Int)) (by omega) (by omega), w64 (by omega) (by omega)]
  omega
theorem equalI (l m : List Int) (hl : l.length ≤ 1000000) (k : Nat) (hk : l.length < k) : slices_Equal_int_int.f k l m = some (decide (l = m)) := by
  unfold slices_Equal_int_int.f
  by_cases hn : l.length = m.length
  · rw [if_pos (by omega)]
    have key := loop_up 0 l.length (fun k i (_ : Unit) => slices_Equal_int_int.l0 k l m (l.length : Int) (i : Int)) (fun _ _ => True) (fun i _ => decide (l.drop i = m.drop i))
      (by
        intro i s k hi _ _
        have e1 := List.drop_eq_getElem_cons hi
        have e2 := List.drop_eq_getElem_cons (show i < m.length by omega)
        by_cases c : l[i] = m[i]'(by omega)
        · refine .inr ⟨(), ?_, trivial, ?_⟩
          · simp only [slices_Equal_int_int.l0]
            rw [if_pos (by omega), if_pos (by omega), if_pos (by omega), if_pos (by omega), rd_nat l i hi, rd_nat m i (by omega), if_pos c, w64n i (by omega)]
          · rw [e1, e2, decide_eq_decide, List.cons.injEq]
            exact ⟨fun h => ⟨c, h⟩, fun h => h.2⟩
        · left
          simp only [slices_Equal_int_int.l0]
          rw [if_pos (by omega), if_pos (by omega), if_pos (by omega), if_pos (by omega), rd_nat l i hi, rd_nat m i (by omega), if_neg c, e1, e2, decide_eq_false (by rw [List.cons.injEq]; exact fun h => c h.1)])
      (by
        intro s k _ _
        simp only [slices_Equal_int_int.l0]
        rw [if_neg (by omega), List.drop_length, hn, List.drop_length]
        rfl)
      l.length 0 () k (by omega) trivial (by omega)
    simpa using key
  · rw [if_neg (by omega), decide_eq_false (fun h => hn (by rw [h]))]
def chg (a b p : Int) (d1 d2 : List Int) (x y : Nat) : Bool := decide ((x : Int) < a) && (decide ((y : Int) < b) && !(decide (pixT d1 (pixJ a p x y) p = pixT d2 (pixJ a p x y) p)))
theorem chg_in (a b p : Int) (d1 d2 : List Int) (x y : Nat) (hx : (x : Int) < a) (hy : (y : Int) < b) : chg a b p d1 d2 x y = !(decide (pixT d1 (pixJ a p x y) p = pixT d2 (pixJ a p x y) p)) := by
  unfold chg; rw [decide_eq_true hx, decide_eq_true hy, Bool.true_and, Bool.true_and]

set_option maxHeartbeats 4000000 in
set_option maxRecDepth 100000 in
theorem changed1_calls (a b p : Int) (A1 A2 : Option Addr) (c1 c2 : Nat) (d1 d2 : List Int) (hv1 : validI a b p d1 = true) (hv2 : validI a b p d2 = true) (hc1 : d1.length ≤ c1) (hc2 : d2.length ≤ c2) (x y : Nat) (hx : x < 16) (hy : y < 16) (B1 B2 : Nat) (w : World)
    (h1 : w.heap[B1]? = some (.cells #[.int .i64 a, .int .i64 b, .int .i64 p, .slice A1 d1.length c1] 28 (0, 0))) (h2 : w.heap[B2]? = some (.cells #[.int .i64 a, .int .i64 b, .int .i64 p, .slice A2 d2.length c2] 28 (0, 0)))
    (hr1 : Kd.C (Kd.int .i64) w A1 d1.length d1) (hr2 : Kd.C (Kd.int .i64) w A2 d2.length d2) :
    Calls Try.prog 93 #[.int .i64 (x : Int), .int .i64 (y : Int), .pointer (some ⟨B1, 0, none⟩), .pointer (some ⟨B2, 0, none⟩)] w fun e w' => e = .returned (.bool (chg a b p d1 d2 x y)) ∧ Below w.heap.size w w' := by
  have HB1 := Aside0.mk h1
  have HB2 := Aside0.mk h2
  have HR1 := Aside0.mk hr1
  have HR2 := Aside0.mk hr2
  by_cases cx : (x : Int) < a
  · have dx : decide ((x : Int) < a) = true := decide_eq_true cx
    by_cases cy : (y : Int) < b
    · have dy : decide ((y : Int) < b) = true := decide_eq_true cy
      obtain ⟨j, hj⟩ : ∃ j, pixJ a p x y = j := ⟨_, rfl⟩
      have hb1 := pixJ_is hv1 cx cy
      have hb2 := pixJ_is hv2 cx cy
      have hpp := ((validI_iff a b p d1).1 hv1).1
      rw [hj] at hb1 hb2
      have hw : wrap64 (j + p) = j + p := w64 (by omega) (by omega)
      obtain ⟨P1, q1, hq1, HA1⟩ := at_calls a b p A1 c1 d1 (x : Int) (y : Int) j hc1 hj (by omega) (by omega) (by omega)
      obtain ⟨P2, q2, hq2, HA2⟩ := at_calls a b p A2 c2 d2 (x : Int) (y : Int) j hc2 hj (by omega) (by omega) (by omega)
      have HP1 := Aside0.mk (HA1 w hr1).1
      have HP2 := Aside0.mk (HA2 w hr2).1
      replace HA1 := Aside0.mk HA1
      replace HA2 := Aside0.mk HA2
      have hlen : (pixT d1 j p).length ≤ 1000000 := by
        unfold pixT
        rw [List.length_drop, List.length_take]
        omega
      have HQ := Aside0.mk (fun (W : World) (k1 : Kd.C (Kd.int .i64) W P1 (pixT d1 j p).length (pixT d1 j p)) (k2 : Kd.C (Kd.int .i64) W P2 (pixT d2 j p).length (pixT d2 j p)) => slices_Equal_int_int.calls _ P1 q1 (pixT d1 j p) P2 q2 (pixT d2 j p) _ W k1 hq1 k2 hq2 (equalI _ _ hlen ((pixT d1 j p).length + 1) (by omega)))
      have HJ := Aside0.mk hj
      have HX := Aside0.mk cx
      have HY := Aside0.mk cy
      clear hb1 hb2 hpp hw hq1 hq2 hlen hv1 hv2 hj cx cy h1 h2 hr1 hr2
      go_enter Try.func93, Try.ntmps93
      go_wp2
      refine wp_region_held_drew (S := fun W => Aside0 (Below w.heap.size w W)) (by kernel_rfl) ⟨below_drew (Below.refl _ _)⟩ (fun hH => ?_)
      obtain ⟨W0, hW0⟩ : ∃ W, W = w.drew := ⟨_, rfl⟩
      rw [← hW0] at hH ⊢
      clear hW0
      refine wpAnyH_take (i := 0) (v := .int .i64 (x : Int)) rfl (by kernel_rfl) (by kernel_rfl) (by kernel_rfl) (fun _ _ _ h => h) (.inl ⟨by kernel_rfl, fun W hW => by first | (go_simp; done) | (go_simp; intro h_; omega)⟩) hH ?_
      simp only [Act.put, List.setIfInBounds_toArray, List.set_cons_zero, List.set_cons_succ, List.getElem_toArray, List.getElem_cons_zero, List.getElem_cons_succ]
      refine wpAnyH_take (i := 1) (v := .pointer (some ⟨B1, 0, none⟩)) rfl (by kernel_rfl) (by kernel_rfl) (by kernel_rfl) (fun _ _ _ h => h) (.inl ⟨by kernel_rfl, fun W hW => by first | (go_simp; done) | (go_simp; intro h_; omega)⟩) hH ?_
      simp only [Act.put, List.setIfInBounds_toArray, List.set_cons_zero, List.set_cons_succ, List.getElem_toArray, List.getElem_cons_zero, List.getElem_cons_succ]
      refine wpAnyH_take (i := 2) rfl (by kernel_rfl) (by kernel_rfl) (by kernel_rfl) (fun _ _ _ h => h) (yieldsC_int (by kernel_rfl) _ rfl ⟨B1, 0, none⟩ rfl a (fun W hW => (blk_cell (blk_below HB1.out hW.out) 0).trans rfl)) hH ?_
      simp only [Act.put, List.setIfInBounds_toArray, List.set_cons_zero, List.set_cons_succ, List.getElem_toArray, List.getElem_cons_zero, List.getElem_cons_succ]
      refine wpAnyH_take (i := 3) (v := .bool true) rfl (by kernel_rfl) (by kernel_rfl) (by kernel_rfl) (fun _ _ _ h => h) (.inl ⟨by kernel_rfl, fun W hW => by first | (go_simp; done) | (go_simp; intro h_; omega)⟩) hH ?_
      simp only [Act.put, List.setIfInBounds_toArray, List.set_cons_zero, List.set_cons_succ, List.getElem_toArray, List.getElem_cons_zero, List.getElem_cons_succ]
      refine wpAnyH_take (i := 4) (v := .bool true) rfl (by kernel_rfl) (by kernel_rfl) (by kernel_rfl) (fun _ _ _ h => h) (.inl ⟨by kernel_rfl, fun W hW => by first | (go_simp; done) | (go_simp; intro h_; omega)⟩) hH ?_
      simp only [Act.put, List.setIfInBounds_toArray, List.set_cons_zero, List.set_cons_succ, List.getElem_toArray, List.getElem_cons_zero, List.getElem_cons_succ]
      refine wpAnyH_take (i := 5) (v := .int .i64 (y : Int)) rfl (by kernel_rfl) (by kernel_rfl) (by kernel_rfl) (fun _ _ _ h => h) (.inl ⟨by kernel_rfl, fun W hW => by first | (go_simp; done) | (go_simp; intro h_; omega)⟩) hH ?_
      simp only [Act.put, List.setIfInBounds_toArray, List.set_cons_zero, List.set_cons_succ, List.getElem_toArray, List.getElem_cons_zero, List.getElem_cons_succ]
      refine wpAnyH_take (i := 6) (v := .pointer (some ⟨B1, 1, none⟩)) rfl (by kernel_rfl) (by kernel_rfl) (by kernel_rfl) (fun _ _ _ h => h) (.inl ⟨by kernel_rfl, fun W hW => by first | (go_simp; done) | (go_simp; intro h_; omega)⟩) hH ?_
      simp only [Act.put, List.setIfInBounds_toArray, List.set_cons_zero, List.set_cons_succ, List.getElem_toArray, List.getElem_cons_zero, List.getElem_cons_succ]
      refine wpAnyH_take (i := 7) rfl (by kernel_rfl) (by kernel_rfl) (by kernel_rfl) (fun _ _ _ h => h) (yieldsC_int (by kernel_rfl) _ rfl ⟨B1, 1, none⟩ rfl b (fun W hW => (blk_cell (blk_below HB1.out hW.out) 1).trans rfl)) hH ?_
      simp only [Act.put, List.setIfInBounds_toArray, List.set_cons_zero, List.set_cons_succ, List.getElem_toArray, List.getElem_cons_zero, List.getElem_cons_succ]
      refine wpAnyH_take (i := 8) (v := .bool true) rfl (by kernel_rfl) (by kernel_rfl) (by kernel_rfl) (fun _ _ _ h => h) (.inl ⟨by kernel_rfl, fun W hW => by first | (go_simp; done) | (go_simp; intro h_; omega)⟩) hH ?_
      simp only [Act.put, List.setIfInBounds_toArray, List.set_cons_zero, List.set_cons_succ, List.getElem_toArray, List.getElem_cons_zero, List.getElem_cons_succ]
      refine wpAnyH_take (i := 9) (v := .bool true) rfl (by kernel_rfl) (by kernel_rfl) (by kernel_rfl) (fun _ _ _ h => h) (.inl ⟨by kernel_rfl, fun W hW => by first | (go_simp; done) | (go_simp; intro h_; omega)⟩) hH ?_
      simp only [Act.put, List.setIfInBounds_toArray, List.set_cons_zero, List.set_cons_succ, List.getElem_toArray, List.getElem_cons_zero, List.getElem_cons_succ]
      refine wpAnyH_take (i := 10) (v := .bool true) rfl (by kernel_rfl) (by kernel_rfl) (by kernel_rfl) (fun _ _ _ h => h) (.inl ⟨by kernel_rfl, fun W hW => by first | (go_simp; done) | (go_simp; intro h_; omega)⟩) hH ?_
      simp only [Act.put, List.setIfInBounds_toArray, List.set_cons_zero, List.set_cons_succ, List.getElem_toArray, List.getElem_cons_zero, List.getElem_cons_succ]
      refine wpAnyH_take (i := 11) rfl (by kernel_rfl) (by kernel_rfl) (by kernel_rfl) (fun _ _ _ h => h) (yieldsC_img (by kernel_rfl) _ rfl B1 rfl #[.int .i64 a, .int .i64 b, .int .i64 p, .slice A1 d1.length c1] (fun W hW => blk_below HB1.out hW.out) rfl) hH ?_
      simp only [Act.put, List.setIfInBounds_toArray, List.set_cons_zero, List.set_cons_succ, List.getElem_toArray, List.getElem_cons_zero, List.getElem_cons_succ]
      refine wpAnyH_take (i := 12) (v := .int .i64 (x : Int)) rfl (by kernel_rfl) (by kernel_rfl) (by kernel_rfl) (fun _ _ _ h => h) (.inl ⟨by kernel_rfl, fun W hW => by first | (go_simp; done) | (go_simp; intro h_; omega)⟩) hH ?_
      simp only [Act.put, List.setIfInBounds_toArray, List.set_cons_zero, List.set_cons_succ, List.getElem_toArray, List.getElem_cons_zero, List.getElem_cons_succ]
      refine wpAnyH_take (i := 13) (v := .int .i64 (y : Int)) rfl (by kernel_rfl) (by kernel_rfl) (by kernel_rfl) (fun _ _ _ h => h) (.inl ⟨by kernel_rfl, fun W hW => by first | (go_simp; done) | (go_simp; intro h_; omega)⟩) hH ?_
      simp only [Act.put, List.setIfInBounds_toArray, List.set_cons_zero, List.set_cons_succ, List.getElem_toArray, List.getElem_cons_zero, List.getElem_cons_succ]
      refine wpAnyH_take (i := 15) rfl (by kernel_rfl) (by kernel_rfl) (by kernel_rfl) (fun _ _ _ h => h) (yieldsC_img (by kernel_rfl) _ rfl B2 rfl #[.int .i64 a, .int .i64 b, .int .i64 p, .slice A2 d2.length c2] (fun W hW => blk_below HB2.out hW.out) rfl) hH ?_
      simp only [Act.put, List.setIfInBounds_toArray, List.set_cons_zero, List.set_cons_succ, List.getElem_toArray, List.getElem_cons_zero, List.getElem_cons_succ]
      refine wpAnyH_take (i := 16) (v := .int .i64 (x : Int)) rfl (by kernel_rfl) (by kernel_rfl) (by kernel_rfl) (fun _ _ _ h => h) (.inl ⟨by kernel_rfl, fun W hW => by first | (go_simp; done) | (go_simp; intro h_; omega)⟩) hH ?_
      simp only [Act.put, List.setIfInBounds_toArray, List.set_cons_zero, List.set_cons_succ, List.getElem_toArray, List.getElem_cons_zero, List.getElem_cons_succ]
      refine wpAnyH_take (i := 17) (v := .int .i64 (y : Int)) rfl (by kernel_rfl) (by kernel_rfl) (by kernel_rfl) (fun _ _ _ h => h) (.inl ⟨by kernel_rfl, fun W hW => by first | (go_simp; done) | (go_simp; intro h_; omega)⟩) hH ?_
      simp only [Act.put, List.setIfInBounds_toArray, List.set_cons_zero, List.set_cons_succ, List.getElem_toArray, List.getElem_cons_zero, List.getElem_cons_succ]
      refine wpAnyH_ready (rs := [14]) (by kernel_rfl) (by simp) ?_
      refine AllReadyH.cons (i := 14) rfl ?_ AllReadyH.nil
      intro K hK
      rw [if_pos (by rfl)]
      go_simp
      go_wp2_with (first | (go_at_call 59; (with_reducible refine ((HA1.out _ (Kd.C_below HR1.out hH.out)).2).mono ?_); rintro e W1 ⟨rfl, hb⟩))
      refine hK.out _ _ ⟨below_then hH.out hH.out.size hb⟩ (fun hH1 => ?_)
      clear hK K hb hH
      have hH := hH1
      clear hH1
      try simp only [Act.put, List.setIfInBounds_toArray, List.set_cons_zero, List.set_cons_succ, List.getElem_toArray, List.getElem_cons_zero, List.getElem_cons_succ]
      refine wpAnyH_ready (rs := [18]) (by kernel_rfl) (by simp) ?_
      refine AllReadyH.cons (i := 18) rfl ?_ AllReadyH.nil
      intro K hK
      rw [if_pos (by rfl)]
      go_simp
      go_wp2_with (first | (go_at_call 59; (with_reducible refine ((HA2.out _ (Kd.C_below HR2.out hH.out)).2).mono ?_); rintro e W1 ⟨rfl, hb⟩))
      refine hK.out _ _ ⟨below_then hH.out hH.out.size hb⟩ (fun hH1 => ?_)
      clear hK K hb hH
      have hH := hH1
      clear hH1
      try simp only [Act.put, List.setIfInBounds_toArray, List.set_cons_zero, List.set_cons_succ, List.getElem_toArray, List.getElem_cons_zero, List.getElem_cons_succ]
      refine wpAnyH_ready (rs := [19]) (by kernel_rfl) (by simp) ?_
      refine AllReadyH.cons (i := 19) rfl ?_ AllReadyH.nil
      intro K hK
      rw [if_pos (by rfl)]
      go_simp
      go_wp2_with (first | (go_at_call 94; (with_reducible refine (HQ.out _ (Kd.C_below HP1.out hH.out) (Kd.C_below HP2.out hH.out)).mono ?_); rintro e W1 ⟨rfl, hd_⟩; have hb := hd_.below; clear hd_))
      refine hK.out _ _ ⟨below_then hH.out hH.out.size hb⟩ (fun hH1 => ?_)
      clear hK K hb hH
      have hH := hH1
      clear hH1
      try simp only [Act.put, List.setIfInBounds_toArray, List.set_cons_zero, List.set_cons_succ, List.getElem_toArray, List.getElem_cons_zero, List.getElem_cons_succ]
      refine wpAnyH_take (i := 20) (v := .bool (!(decide (pixT d1 j p = pixT d2 j p)))) rfl (by kernel_rfl) (by kernel_rfl) (by kernel_rfl) (fun _ _ _ h => h) (.inl ⟨by kernel_rfl, fun W hW => by first | (go_simp; done) | (go_simp; intro h_; omega)⟩) hH ?_
      simp only [Act.put, List.setIfInBounds_toArray, List.set_cons_zero, List.set_cons_succ, List.getElem_toArray, List.getElem_cons_zero, List.getElem_cons_succ]
      refine wpAnyH_take (i := 21) (v := .bool (!(decide (pixT d1 j p = pixT d2 j p)))) rfl (by kernel_rfl) (by kernel_rfl) (by kernel_rfl) (fun _ _ _ h => h) (.inl ⟨by kernel_rfl, fun W hW => by first | (go_simp; done) | (go_simp; intro h_; omega)⟩) hH ?_
      simp only [Act.put, List.setIfInBounds_toArray, List.set_cons_zero, List.set_cons_succ, List.getElem_toArray, List.getElem_cons_zero, List.getElem_cons_succ]
      refine wpAnyH_take (i := 22) (v := .bool (!(decide (pixT d1 j p = pixT d2 j p)))) rfl (by kernel_rfl) (by kernel_rfl) (by kernel_rfl) (fun _ _ _ h => h) (.inl ⟨by kernel_rfl, fun W hW => by first | (go_simp; done) | (go_simp; intro h_; omega)⟩) hH ?_
      simp only [Act.put, List.setIfInBounds_toArray, List.set_cons_zero, List.set_cons_succ, List.getElem_toArray, List.getElem_cons_zero, List.getElem_cons_succ]
      refine wpAnyH_done (by kernel_rfl) ?_ _
      go_wp2
      go_ret
      exact ⟨by rw [chg_in a b p d1 d2 x y HX.out HY.out, HJ.out]; rfl, hH.out⟩
    · have dy : decide ((y : Int) < b) = false := decide_eq_false cy
      have e : chg a b p d1 d2 x y = false := by unfold chg; rw [dy, Bool.false_and, Bool.and_false]
      rw [e]
      have k0 := (blk_cell h1 0).trans rfl
      have k1 := (blk_cell h1 1).trans rfl
      clear hv1 hv2 cx cy h1 h2 hr1 hr2 e
      go_enter Try.func93, Try.ntmps93
      go_wp2
      go_quiet (fail)
      go_wp2
      go_ret
      exact ⟨rfl, pw_below_drewN (Below.refl _ _) _⟩
  · have dx : decide ((x : Int) < a) = false := decide_eq_false cx
    have e : chg a b p d1 d2 x y = false := by unfold chg; rw [dx, Bool.false_and]
    rw [e]
    have k0 := (blk_cell h1 0).trans rfl
    clear hv1 hv2 cx h1 h2 hr1 hr2 e
    go_enter Try.func93, Try.ntmps93
    go_wp2
    go_quiet (fail)
    go_wp2
    go_ret
    exact ⟨rfl, pw_below_drewN (Below.refl _ _) _⟩
set_option maxHeartbeats 1600000 in
set_option maxRecDepth 100000 in
theorem changed_calls (a b p : Int) (A1 A2 : Option Addr) (c1 c2 : Nat) (d1 d2 : List Int) (hv1 : validI a b p d1 = true) (hv2 : validI a b p d2 = true) (hc1 : d1.length ≤ c1) (hc2 : d2.length ≤ c2) (w : World) (hr1 : Kd.C (Kd.int .i64) w A1 d1.length d1) (hr2 : Kd.C (Kd.int .i64) w A2 d2.length d2) :
    Calls Try.prog 50 #[.agg #[.int .i64 a, .int .i64 b, .int .i64 p, .slice A1 d1.length c1], .agg #[.int .i64 a, .int .i64 b, .int .i64 p, .slice A2 d2.length c2]] w fun e w' => ∃ v0_ : Value, e = .returned (v0_) ∧ Kd.R k47 47 w' w.heap.size (fun _ => True) v0_ (runsL (gso (chg a b p d1 d2) 256)) ∧ Below w.heap.size w w' := by
  have HV1 := Aside0.mk hv1
  have HV2 := Aside0.mk hv2
  have HC1 := Aside0.mk hc1
  have HC2 := Aside0.mk hc2
  have HR1 := Aside0.mk hr1
  have HR2 := Aside0.mk hr2
  have HB0 := Aside0.mk (Below.refl w.heap.size w)
  clear hv1 hv2 hc1 hc2 hr1 hr2
  have hu := Try.underlying28
  go_enter Try.func50, Try.ntmps50
  go_wp2_with (first
    | ((with_reducible refine gate_dst (N := 2) rfl ?_); refine box_event ?hg (N := 2) ?hd (cs := #[.int .i64 a, .int .i64 b, .int .i64 p, .slice A1 d1.length c1]) (t := 28) ?hr ?_; (case hd => rfl); (case hg => rfl); (case hr => first | (go_simp; done) | (go_simp; rfl)); intro g1 hg_ w1 hbox hb; have HB1 := Aside0.mk (below_then HB0.out HB0.out.size hb); have K1 := Aside0.mk hbox; have Gg1 := Aside0.mk (show w.heap.size ≤ g1 from by rw [hg_]; exact HB0.out.size); clear hbox hb hg_)
    | ((with_reducible refine gate_dst (N := 3) rfl ?_); refine box_event ?hg (N := 3) ?hd (cs := #[.int .i64 a, .int .i64 b, .int .i64 p, .slice A2 d2.length c2]) (t := 28) ?hr ?_; (case hd => rfl); (case hg => rfl); (case hr => first | (go_simp; done) | (go_simp; rfl)); intro g2 hg_ w2 hbox hb; have HB2 := Aside0.mk (below_then HB1.out HB1.out.size hb); have K2 := Aside0.mk hbox; have K1b := Aside0.mk (blk_below K1.out hb); have Gg2 := Aside0.mk (show w.heap.size ≤ g2 from by rw [hg_]; exact HB1.out.size); have f0 : w2.cell? ⟨g1, 0, none⟩ = some (.int .i64 a) := (blk_cell K1b.out 0).trans rfl; have f1 : w2.cell? ⟨g1, 1, none⟩ = some (.int .i64 b) := (blk_cell K1b.out 1).trans rfl; have f2 : w2.cell? ⟨g1, 2, none⟩ = some (.int .i64 p) := (blk_cell K1b.out 2).trans rfl; have f3 : w2.cell? ⟨g1, 3, none⟩ = some (.slice A1 d1.length c1) := (blk_cell K1b.out 3).trans rfl; have e0 : w2.cell? ⟨g2, 0, none⟩ = some (.int .i64 a) := (blk_cell K2.out 0).trans rfl; have e1 : w2.cell? ⟨g2, 1, none⟩ = some (.int .i64 b) := (blk_cell K2.out 1).trans rfl; have e2 : w2.cell? ⟨g2, 2, none⟩ = some (.int .i64 p) := (blk_cell K2.out 2).trans rfl; have e3 : w2.cell? ⟨g2, 3, none⟩ = some (.slice A2 d2.length c2) := (blk_cell K2.out 3).trans rfl; clear hbox hb hg_)
    | (go_at_call 67; refine (gridBy_calls 93 #[.pointer (some ⟨g1, 0, none⟩), .pointer (some ⟨g2, 0, none⟩)] (chg a b p d1 d2) w2 (enters_of Try.func93 (by kernel_rfl) rfl) (fun W x y hx hy hW => changed1_calls a b p A1 A2 c1 c2 d1 d2 HV1.out HV2.out HC1.out HC2.out x y hx hy g1 g2 W (blk_below K1b.out hW) (blk_below K2.out hW) (Kd.C_below (Kd.C_below HR1.out HB2.out) hW) (Kd.C_below (Kd.C_below HR2.out HB2.out) hW))).mono ?_; rintro e w5 ⟨rfl, hb5⟩; have HB5 := Aside0.mk (below_then HB2.out HB2.out.size hb5); clear hb5)
    | (go_at_call 71; refine (runs_calls _ _).mono ?_; rintro e w6 ⟨v6, rfl, hr6, hb6⟩; have HR6 := Aside0.mk (Kd.R_lower hr6 HB5.out.size); have HB6 := Aside0.mk (below_then HB5.out HB5.out.size hb6); clear hb6 hr6))
  go_ret
  exact ⟨v6, rfl, HR6.out, HB6.out⟩
end Go.Proofs.Ytbgohbinonkhfaa.Q

namespace Go.Proofs.Ytbgohbinonkhfaa.Q
open Go.RowKit Go.Proofs.YtbgohbinonkhfaaW.PrintWords Go.Proofs.YtbgohbinonkhfaaW.PrintLast Go.Proofs.YtbgohbinonkhfaaW.PrintMore
attribute [local go_sem] max2_int min2_int max_two min_two max_three min_three max_four min_four
set_option linter.unusedVariables false
set_option linter.unusedSimpArgs false
/-! ### impl_alikeImages: function 49 -/
def impl_alikeImages.f (a0_0 : Int) (a0_1 : Int) (a0_2 : Int) (l0_3 : List Int) (a1_0 : Int) (a1_1 : Int) (a1_2 : Int) (l1_3 : List Int) : Option (Bool) := if a0_0 = a1_0 then (if a0_1 = a1_1 then (some (a0_2 == a1_2)) else (some false)) else (some false)
set_option maxHeartbeats 8000000 in
set_option maxRecDepth 100000 in
theorem impl_alikeImages.calls (a0_0 : Int) (a0_1 : Int) (a0_2 : Int) (A0_3 : Option Addr) (c0_3 : Nat) (l0_3 : List Int) (a1_0 : Int) (a1_1 : Int) (a1_2 : Int) (A1_3 : Option Addr) (c1_3 : Nat) (l1_3 : List Int) (r : Bool) (w : World) (hr0_3 : Kd.C (Kd.int .i64) w A0_3 l0_3.length l0_3) (hc0_3 : l0_3.length ≤ c0_3) (hr1_3 : Kd.C (Kd.int .i64) w A1_3 l1_3.length l1_3) (hc1_3 : l1_3.length ≤ c1_3) (h : impl_alikeImages.f a0_0 a0_1 a0_2 l0_3 a1_0 a1_1 a1_2 l1_3 = some r) :
    Calls Try.prog 49 #[.agg #[.int .i64 a0_0, .int .i64 a0_1, .int .i64 a0_2, .slice A0_3 l0_3.length c0_3], .agg #[.int .i64 a1_0, .int .i64 a1_1, .int .i64 a1_2, .slice A1_3 l1_3.length c1_3]] w fun e w' => e = .returned (.bool r) ∧ Below w.heap.size w w' := by
  have hu28 := Try.underlying28
  have HR0_3 := Aside0.mk hr0_3
  have HC0_3 := Aside0.mk hc0_3
  clear hr0_3 hc0_3
  have HR1_3 := Aside0.mk hr1_3
  have HC1_3 := Aside0.mk hc1_3
  clear hr1_3 hc1_3
  have HB := Aside0.mk (Below.refl w.heap.size w)
  have H : (if a0_0 = a1_0 then (if a0_1 = a1_1 then (some (a0_2 == a1_2)) else (some false)) else (some false)) = some r := h
  clear h
  by_cases c3 : a0_0 = a1_0
  · rw [if_pos c3] at H
    have c3b0 : (a0_0 == a1_0) = true := beq_iff_eq.mpr c3
    have c3b1 : (a0_0 != a1_0) = false := bne_eq_false_iff_eq.mpr c3
    clear c3
    by_cases c4 : a0_1 = a1_1
    · rw [if_pos c4] at H
      have c4b0 : (a0_1 == a1_1) = true := beq_iff_eq.mpr c4
      have c4b1 : (a0_1 != a1_1) = false := bne_eq_false_iff_eq.mpr c4
      clear c4
      obtain rfl := Option.some.inj H
      go_enter Try.func49, Try.ntmps49
      go_wp2_with (first | ((with_reducible refine gate_dst (N := 2) rfl ?_); refine box_event ?hg (N := 2) ?hd (cs := #[.int .i64 a0_0, .int .i64 a0_1, .int .i64 a0_2, .slice A0_3 l0_3.length c0_3]) (t := 28) ?hr ?_; (case hd => rfl); (case hg => rfl); (case hr => first | (go_simp; done) | (go_simp; rfl)); intro gb50001 hg w5 hbox hb; have n0_ := Aside0.mk (below_step (by repeat (first | (with_reducible first | exact HB.out | apply below_alloc | apply pw_below_drewN | apply below_drew1) | exact HB.out)) hb); have n1_ := Aside0.mk (hbox); have n2_ := Aside0.mk ((by rw [hg]; exact (below_size (by repeat (first | (with_reducible first | exact HB.out | apply below_alloc | apply pw_below_drewN | apply below_drew1) | exact HB.out))) : w.heap.size ≤ gb50001)); have n3_ := Aside0.mk ((by rw [hg]; exact (below_size (by repeat (first | (with_reducible first | exact HB.out | apply below_alloc | apply pw_below_drewN | apply below_drew1) | exact HB.out))) : w.heap.size ≤ gb50001)); clear HB; have HB := n0_; have BK50001 := n1_; have GW50001 := n2_; have GE50001 := n3_; clear n0_ n1_ n2_ n3_; clear hb hbox hg) | ((with_reducible refine gate_dst (N := 3) rfl ?_); refine box_event ?hg (N := 3) ?hd (cs := #[.int .i64 a1_0, .int .i64 a1_1, .int .i64 a1_2, .slice A1_3 l1_3.length c1_3]) (t := 28) ?hr ?_; (case hd => rfl); (case hg => rfl); (case hr => first | (go_simp; done) | (go_simp; rfl)); intro gb50002 hg w6 hbox hb; have n0_ := Aside0.mk (blk_below (g := gb50001) (o := .cells #[.int .i64 a0_0, .int .i64 a0_1, .int .i64 a0_2, .slice A0_3 l0_3.length c0_3] 28 (0, 0)) (by (with_reducible repeat (first | refine blk_drewN ?_ _ | refine blk_drew ?_ | refine blk_alloc ?_ _)); exact BK50001.out) hb); have n1_ := Aside0.mk (below_step (by repeat (first | (with_reducible first | exact HB.out | apply below_alloc | apply pw_below_drewN | apply below_drew1 | refine below_set ?_ GE50001.out) | exact HB.out)) hb); have n2_ := Aside0.mk (hbox); have n3_ := Aside0.mk ((by rw [hg]; exact (below_size (by repeat (first | (with_reducible first | exact HB.out | apply below_alloc | apply pw_below_drewN | apply below_drew1 | refine below_set ?_ GE50001.out) | exact HB.out))) : w.heap.size ≤ gb50002)); have n4_ := Aside0.mk ((by rw [hg]; exact (below_size (by repeat (first | (with_reducible first | exact HB.out | apply below_alloc | apply pw_below_drewN | apply below_drew1 | refine below_set ?_ GE50001.out) | exact HB.out))) : w.heap.size ≤ gb50002)); have n5_ := Aside0.mk ((by rw [hg]; exact Nat.ne_of_lt (blk_lt (g := gb50001) (o := .cells #[.int .i64 a0_0, .int .i64 a0_1, .int .i64 a0_2, .slice A0_3 l0_3.length c0_3] 28 (0, 0)) (by (with_reducible repeat (first | refine blk_drewN ?_ _ | refine blk_drew ?_ | refine blk_alloc ?_ _)); exact BK50001.out)) : gb50001 ≠ gb50002)); have n6_ := Aside0.mk ((by rw [hg]; exact Nat.ne_of_gt (blk_lt (g := gb50001) (o := .cells #[.int .i64 a0_0, .int .i64 a0_1, .int .i64 a0_2, .slice A0_3 l0_3.length c0_3] 28 (0, 0)) (by (with_reducible repeat (first | refine blk_drewN ?_ _ | refine blk_drew ?_ | refine blk_alloc ?_ _)); exact BK50001.out)) : gb50002 ≠ gb50001)); clear BK50001; clear HB; have BK50001 := n0_; have HB := n1_; have BK50002 := n2_; have GW50002 := n3_; have GE50002 := n4_; have NB50001_50002 := n5_; have NB50002_50001 := n6_; clear n0_ n1_ n2_ n3_ n4_ n5_ n6_; clear hb hbox hg; have hnb7 := NB50001_50002.out; have hnc7 := NB50002_50001.out; have hcz8_0 : w6.cell? ⟨gb50001, 0, none⟩ = some (.int .i64 a0_0) := (blk_cell BK50001.out 0).trans rfl; have hcz8_1 : w6.cell? ⟨gb50001, 1, none⟩ = some (.int .i64 a0_1) := (blk_cell BK50001.out 1).trans rfl; have hcz8_2 : w6.cell? ⟨gb50001, 2, none⟩ = some (.int .i64 a0_2) := (blk_cell BK50001.out 2).trans rfl; have hcz8_3 : w6.cell? ⟨gb50001, 3, none⟩ = some (.slice A0_3 l0_3.length c0_3) := (blk_cell BK50001.out 3).trans rfl; have hfz8_0 := blk_frozen BK50001.out 0; have hfz8_1 := blk_frozen BK50001.out 1; have hfz8_2 := blk_frozen BK50001.out 2; have hfz8_3 := blk_frozen BK50001.out 3; have hcz9_0 : w6.cell? ⟨gb50002, 0, none⟩ = some (.int .i64 a1_0) := (blk_cell BK50002.out 0).trans rfl; have hcz9_1 : w6.cell? ⟨gb50002, 1, none⟩ = some (.int .i64 a1_1) := (blk_cell BK50002.out 1).trans rfl; have hcz9_2 : w6.cell? ⟨gb50002, 2, none⟩ = some (.int .i64 a1_2) := (blk_cell BK50002.out 2).trans rfl; have hcz9_3 : w6.cell? ⟨gb50002, 3, none⟩ = some (.slice A1_3 l1_3.length c1_3) := (blk_cell BK50002.out 3).trans rfl; have hfz9_0 := blk_frozen BK50002.out 0; have hfz9_1 := blk_frozen BK50002.out 1; have hfz9_2 := blk_frozen BK50002.out 2; have hfz9_3 := blk_frozen BK50002.out 3))
      go_ret
      exact ⟨by first | rfl | (simp [errW_none, errW_some] <;> rfl) | (simp [*, errW_none, errW_some] <;> rfl), by repeat (first | (with_reducible first | exact HB.out | apply below_alloc | apply pw_below_drewN | apply below_drew1 | refine below_set ?_ GE50001.out | refine below_set ?_ GE50002.out) | exact HB.out)⟩
    · rw [if_neg c4] at H
      have c4b0 : (a0_1 == a1_1) = false := beq_eq_false_iff_ne.mpr c4
      have c4b1 : (a0_1 != a1_1) = true := bne_iff_ne.mpr c4
      obtain rfl := Option.some.inj H
      go_enter Try.func49, Try.ntmps49
      go_wp2_with (first | ((with_reducible refine gate_dst (N := 2) rfl ?_); refine box_event ?hg (N := 2) ?hd (cs := #[.int .i64 a0_0, .int .i64 a0_1, .int .i64 a0_2, .slice A0_3 l0_3.length c0_3]) (t := 28) ?hr ?_; (case hd => rfl); (case hg => rfl); (case hr => first | (go_simp; done) | (go_simp; rfl)); intro gb50001 hg w10 hbox hb; have n0_ := Aside0.mk (below_step (by repeat (first | (with_reducible first | exact HB.out | apply below_alloc | apply pw_below_drewN | apply below_drew1) | exact HB.out)) hb); have n1_ := Aside0.mk (hbox); have n2_ := Aside0.mk ((by rw [hg]; exact (below_size (by repeat (first | (with_reducible first | exact HB.out | apply below_alloc | apply pw_below_drewN | apply below_drew1) | exact HB.out))) : w.heap.size ≤ gb50001)); have n3_ := Aside0.mk ((by rw [hg]; exact (below_size (by repeat (first | (with_reducible first | exact HB.out | apply below_alloc | apply pw_below_drewN | apply below_drew1) | exact HB.out))) : w.heap.size ≤ gb50001)); clear HB; have HB := n0_; have BK50001 := n1_; have GW50001 := n2_; have GE50001 := n3_; clear n0_ n1_ n2_ n3_; clear hb hbox hg) | ((with_reducible refine gate_dst (N := 3) rfl ?_); refine box_event ?hg (N := 3) ?hd (cs := #[.int .i64 a1_0, .int .i64 a1_1, .int .i64 a1_2, .slice A1_3 l1_3.length c1_3]) (t := 28) ?hr ?_; (case hd => rfl); (case hg => rfl); (case hr => first | (go_simp; done) | (go_simp; rfl)); intro gb50002 hg w11 hbox hb; have n0_ := Aside0.mk (blk_below (g := gb50001) (o := .cells #[.int .i64 a0_0, .int .i64 a0_1, .int .i64 a0_2, .slice A0_3 l0_3.length c0_3] 28 (0, 0)) (by (with_reducible repeat (first | refine blk_drewN ?_ _ | refine blk_drew ?_ | refine blk_alloc ?_ _)); exact BK50001.out) hb); have n1_ := Aside0.mk (below_step (by repeat (first | (with_reducible first | exact HB.out | apply below_alloc | apply pw_below_drewN | apply below_drew1 | refine below_set ?_ GE50001.out) | exact HB.out)) hb); have n2_ := Aside0.mk (hbox); have n3_ := Aside0.mk ((by rw [hg]; exact (below_size (by repeat (first | (with_reducible first | exact HB.out | apply below_alloc | apply pw_below_drewN | apply below_drew1 | refine below_set ?_ GE50001.out) | exact HB.out))) : w.heap.size ≤ gb50002)); have n4_ := Aside0.mk ((by rw [hg]; exact (below_size (by repeat (first | (with_reducible first | exact HB.out | apply below_alloc | apply pw_below_drewN | apply below_drew1 | refine below_set ?_ GE50001.out) | exact HB.out))) : w.heap.size ≤ gb50002)); have n5_ := Aside0.mk ((by rw [hg]; exact Nat.ne_of_lt (blk_lt (g := gb50001) (o := .cells #[.int .i64 a0_0, .int .i64 a0_1, .int .i64 a0_2, .slice A0_3 l0_3.length c0_3] 28 (0, 0)) (by (with_reducible repeat (first | refine blk_drewN ?_ _ | refine blk_drew ?_ | refine blk_alloc ?_ _)); exact BK50001.out)) : gb50001 ≠ gb50002)); have n6_ := Aside0.mk ((by rw [hg]; exact Nat.ne_of_gt (blk_lt (g := gb50001) (o := .cells #[.int .i64 a0_0, .int .i64 a0_1, .int .i64 a0_2, .slice A0_3 l0_3.length c0_3] 28 (0, 0)) (by (with_reducible repeat (first | refine blk_drewN ?_ _ | refine blk_drew ?_ | refine blk_alloc ?_ _)); exact BK50001.out)) : gb50002 ≠ gb50001)); clear BK50001; clear HB; have BK50001 := n0_; have HB := n1_; have BK50002 := n2_; have GW50002 := n3_; have GE50002 := n4_; have NB50001_50002 := n5_; have NB50002_50001 := n6_; clear n0_ n1_ n2_ n3_ n4_ n5_ n6_; clear hb hbox hg; have hnb12 := NB50001_50002.out; have hnc12 := NB50002_50001.out; have hcz13_0 : w11.cell? ⟨gb50001, 0, none⟩ = some (.int .i64 a0_0) := (blk_cell BK50001.out 0).trans rfl; have hcz13_1 : w11.cell? ⟨gb50001, 1, none⟩ = some (.int .i64 a0_1) := (blk_cell BK50001.out 1).trans rfl; have hcz13_2 : w11.cell? ⟨gb50001, 2, none⟩ = some (.int .i64 a0_2) := (blk_cell BK50001.out 2).trans rfl; have hcz13_3 : w11.cell? ⟨gb50001, 3, none⟩ = some (.slice A0_3 l0_3.length c0_3) := (blk_cell BK50001.out 3).trans rfl; have hfz13_0 := blk_frozen BK50001.out 0; have hfz13_1 := blk_frozen BK50001.out 1; have hfz13_2 := blk_frozen BK50001.out 2; have hfz13_3 := blk_frozen BK50001.out 3; have hcz14_0 : w11.cell? ⟨gb50002, 0, none⟩ = some (.int .i64 a1_0) := (blk_cell BK50002.out 0).trans rfl; have hcz14_1 : w11.cell? ⟨gb50002, 1, none⟩ = some (.int .i64 a1_1) := (blk_cell BK50002.out 1).trans rfl; have hcz14_2 : w11.cell? ⟨gb50002, 2, none⟩ = some (.int .i64 a1_2) := (blk_cell BK50002.out 2).trans rfl; have hcz14_3 : w11.cell? ⟨gb50002, 3, none⟩ = some (.slice A1_3 l1_3.length c1_3) := (blk_cell BK50002.out 3).trans rfl; have hfz14_0 := blk_frozen BK50002.out 0; have hfz14_1 := blk_frozen BK50002.out 1; have hfz14_2 := blk_frozen BK50002.out 2; have hfz14_3 := blk_frozen BK50002.out 3))
      go_ret
      exact ⟨by first | rfl | (simp [errW_none, errW_some] <;> rfl) | (simp [*, errW_none, errW_some] <;> rfl), by repeat (first | (with_reducible first | exact HB.out | apply below_alloc | apply pw_below_drewN | apply below_drew1 | refine below_set ?_ GE50001.out | refine below_set ?_ GE50002.out) | exact HB.out)⟩
  · rw [if_neg c3] at H
    have c3b0 : (a0_0 == a1_0) = false := beq_eq_false_iff_ne.mpr c3
    have c3b1 : (a0_0 != a1_0) = true := bne_iff_ne.mpr c3
    obtain rfl := Option.some.inj H
    go_enter Try.func49, Try.ntmps49
    go_wp2_with (first | ((with_reducible refine gate_dst (N := 2) rfl ?_); refine box_event ?hg (N := 2) ?hd (cs := #[.int .i64 a0_0, .int .i64 a0_1, .int .i64 a0_2, .slice A0_3 l0_3.length c0_3]) (t := 28) ?hr ?_; (case hd => rfl); (case hg => rfl); (case hr => first | (go_simp; done) | (go_simp; rfl)); intro gb50001 hg w15 hbox hb; have n0_ := Aside0.mk (below_step (by repeat (first | (with_reducible first | exact HB.out | apply below_alloc | apply pw_below_drewN | apply below_drew1) | exact HB.out)) hb); have n1_ := Aside0.mk (hbox); have n2_ := Aside0.mk ((by rw [hg]; exact (below_size (by repeat (first | (with_reducible first | exact HB.out | apply below_alloc | apply pw_below_drewN | apply below_drew1) | exact HB.out))) : w.heap.size ≤ gb50001)); have n3_ := Aside0.mk ((by rw [hg]; exact (below_size (by repeat (first | (with_reducible first | exact HB.out | apply below_alloc | apply pw_below_drewN | apply below_drew1) | exact HB.out))) : w.heap.size ≤ gb50001)); clear HB; have HB := n0_; have BK50001 := n1_; have GW50001 := n2_; have GE50001 := n3_; clear n0_ n1_ n2_ n3_; clear hb hbox hg) | ((with_reducible refine gate_dst (N := 3) rfl ?_); refine box_event ?hg (N := 3) ?hd (cs := #[.int .i64 a1_0, .int .i64 a1_1, .int .i64 a1_2, .slice A1_3 l1_3.length c1_3]) (t := 28) ?hr ?_; (case hd => rfl); (case hg => rfl); (case hr => first | (go_simp; done) | (go_simp; rfl)); intro gb50002 hg w16 hbox hb; have n0_ := Aside0.mk (blk_below (g := gb50001) (o := .cells #[.int .i64 a0_0, .int .i64 a0_1, .int .i64 a0_2, .slice A0_3 l0_3.length c0_3] 28 (0, 0)) (by (with_reducible repeat (first | refine blk_drewN ?_ _ | refine blk_drew ?_ | refine blk_alloc ?_ _)); exact BK50001.out) hb); have n1_ := Aside0.mk (below_step (by repeat (first | (with_reducible first | exact HB.out | apply below_alloc | apply pw_below_drewN | apply below_drew1 | refine below_set ?_ GE50001.out) | exact HB.out)) hb); have n2_ := Aside0.mk (hbox); have n3_ := Aside0.mk ((by rw [hg]; exact (below_size (by repeat (first | (with_reducible first | exact HB.out | apply below_alloc | apply pw_below_drewN | apply below_drew1 | refine below_set ?_ GE50001.out) | exact HB.out))) : w.heap.size ≤ gb50002)); have n4_ := Aside0.mk ((by rw [hg]; exact (below_size (by repeat (first | (with_reducible first | exact HB.out | apply below_alloc | apply pw_below_drewN | apply below_drew1 | refine below_set ?_ GE50001.out) | exact HB.out))) : w.heap.size ≤ gb50002)); have n5_ := Aside0.mk ((by rw [hg]; exact Nat.ne_of_lt (blk_lt (g := gb50001) (o := .cells #[.int .i64 a0_0, .int .i64 a0_1, .int .i64 a0_2, .slice A0_3 l0_3.length c0_3] 28 (0, 0)) (by (with_reducible repeat (first | refine blk_drewN ?_ _ | refine blk_drew ?_ | refine blk_alloc ?_ _)); exact BK50001.out)) : gb50001 ≠ gb50002)); have n6_ := Aside0.mk ((by rw [hg]; exact Nat.ne_of_gt (blk_lt (g := gb50001) (o := .cells #[.int .i64 a0_0, .int .i64 a0_1, .int .i64 a0_2, .slice A0_3 l0_3.length c0_3] 28 (0, 0)) (by (with_reducible repeat (first | refine blk_drewN ?_ _ | refine blk_drew ?_ | refine blk_alloc ?_ _)); exact BK50001.out)) : gb50002 ≠ gb50001)); clear BK50001; clear HB; have BK50001 := n0_; have HB := n1_; have BK50002 := n2_; have GW50002 := n3_; have GE50002 := n4_; have NB50001_50002 := n5_; have NB50002_50001 := n6_; clear n0_ n1_ n2_ n3_ n4_ n5_ n6_; clear hb hbox hg; have hnb17 := NB50001_50002.out; have hnc17 := NB50002_50001.out; have hcz18_0 : w16.cell? ⟨gb50001, 0, none⟩ = some (.int .i64 a0_0) := (blk_cell BK50001.out 0).trans rfl; have hcz18_1 : w16.cell? ⟨gb50001, 1, none⟩ = some (.int .i64 a0_1) := (blk_cell BK50001.out 1).trans rfl; have hcz18_2 : w16.cell? ⟨gb50001, 2, none⟩ = some (.int .i64 a0_2) := (blk_cell BK50001.out 2).trans rfl; have hcz18_3 : w16.cell? ⟨gb50001, 3, none⟩ = some (.slice A0_3 l0_3.length c0_3) := (blk_cell BK50001.out 3).trans rfl; have hfz18_0 := blk_frozen BK50001.out 0; have hfz18_1 := blk_frozen BK50001.out 1; have hfz18_2 := blk_frozen BK50001.out 2; have hfz18_3 := blk_frozen BK50001.out 3; have hcz19_0 : w16.cell? ⟨gb50002, 0, none⟩ = some (.int .i64 a1_0) := (blk_cell BK50002.out 0).trans rfl; have hcz19_1 : w16.cell? ⟨gb50002, 1, none⟩ = some (.int .i64 a1_1) := (blk_cell BK50002.out 1).trans rfl; have hcz19_2 : w16.cell? ⟨gb50002, 2, none⟩ = some (.int .i64 a1_2) := (blk_cell BK50002.out 2).trans rfl; have hcz19_3 : w16.cell? ⟨gb50002, 3, none⟩ = some (.slice A1_3 l1_3.length c1_3) := (blk_cell BK50002.out 3).trans rfl; have hfz19_0 := blk_frozen BK50002.out 0; have hfz19_1 := blk_frozen BK50002.out 1; have hfz19_2 := blk_frozen BK50002.out 2; have hfz19_3 := blk_frozen BK50002.out 3))
    go_ret
    exact ⟨by first | rfl | (simp [errW_none, errW_some] <;> rfl) | (simp [*, errW_none, errW_some] <;> rfl), by repeat (first | (with_reducible first | exact HB.out | apply below_alloc | apply pw_below_drewN | apply below_drew1 | refine below_set ?_ GE50001.out | refine below_set ?_ GE50002.out) | exact HB.out)⟩

end Go.Proofs.Ytbgohbinonkhfaa.Q

/- Two images of the same shape. -/
namespace Go.Proofs.Ytbgohbinonkhfaa.Pure
open Go.RowKit Go.Proofs.Ytbgohbinonkhfaa.Q Go.Proofs.YtbgohbinonkhfaaW.PrintWords Go.Proofs.YtbgohbinonkhfaaW.PrintLast Go.Proofs.YtbgohbinonkhfaaW.PrintMore
set_option linter.unusedVariables false
set_option linter.unusedSimpArgs false

def sameV (w h p : Int) (d : List Int) (w' h' p' : Int) (d' : List Int) : Bool := validI w h p d && (validI w' h' p' d' && decide (w = w' ∧ h = h' ∧ p = p'))
theorem sameV_iff (w h p : Int) (d : List Int) (w' h' p' : Int) (d' : List Int) : sameV w h p d w' h' p' d' = true ↔ validI w h p d = true ∧ validI w' h' p' d' = true ∧ w = w' ∧ h = h' ∧ p = p' := by
  simp [sameV]
theorem alikeB (w h p w' h' p' : Int) : (if w = w' then (if h = h' then (some (p == p')) else (some false)) else (some false)) = some (decide (w = w' ∧ h = h' ∧ p = p')) := by
  by_cases c1 : w = w'
  · rw [if_pos c1]
    by_cases c2 : h = h'
    · rw [if_pos c2]
      by_cases c3 : p = p'
      · rw [decide_eq_true (show w = w' ∧ h = h' ∧ p = p' from ⟨c1, c2, c3⟩), beq_iff_eq.2 c3]
      · rw [decide_eq_false (by simp [c3]), beq_eq_false_iff_ne.2 c3]
    · rw [if_neg c2, decide_eq_false (by simp [c2])]
  · rw [if_neg c1, decide_eq_false (by simp [c1])]
theorem impl_alike_eq (w h p : Int) (d : List Int) (w' h' p' : Int) (d' : List Int) : impl_alikeImages.f w h p d w' h' p' d' = some (decide (w = w' ∧ h = h' ∧ p = p')) := by
  unfold impl_alikeImages.f
  exact alikeB w h p w' h' p'
theorem spec_sameShape_ev (w h p : Int) (d : List Int) (w' h' p' : Int) (d' : List Int) (hl : d.length ≤ 1000000000000) (hl' : d'.length ≤ 1000000000000) : Ev (fun k => spec_sameShape.f k w h p d w' h' p' d') (sameV w h p d w' h' p' d') := by
  unfold spec_sameShape.f sameV
  refine ev_bind (spec_validImage_ev w h p d hl) ?_
  by_cases c : validI w h p d = true
  · rw [c, Bool.true_and]
    refine ev_pos rfl (ev_bind (spec_validImage_ev w' h' p' d' hl') ?_)
    by_cases c' : validI w' h' p' d' = true
    · rw [c', Bool.true_and]
      exact ev_pos rfl (ev_const (alikeB w h p w' h' p'))
    · rw [Bool.eq_false_iff.2 c', Bool.false_and]
      exact ev_neg (by simp) (Ev.now _)
  · rw [Bool.eq_false_iff.2 c, Bool.false_and]
    exact ev_neg (by simp) (Ev.now _)
end Go.Proofs.Ytbgohbinonkhfaa.Pure

/- impl.ChangedRegion: the region in which two images differ. -/
namespace Go.Proofs.Ytbgohbinonkhfaa.Q
open Go.RowKit Go.Proofs.YtbgohbinonkhfaaW.PrintWords Go.Proofs.YtbgohbinonkhfaaW.PrintLast Go.Proofs.YtbgohbinonkhfaaW.PrintMore
attribute [local go_sem] max2_int min2_int max_two min_two max_three min_three max_four min_four
set_option linter.unusedVariables false
set_option linter.unusedSimpArgs false
open Go.Proofs.Ytbgohbinonkhfaa.Pure

def impl_ChangedRegion.f (a b p : Int) (d1 : List Int) (a' b' p' : Int) (d2 : List Int) : Option (List S47) := some (if sameV a b p d1 a' b' p' d2 = true then runsL (gso (chg a b p d1 d2) 256) else [])

set_option maxHeartbeats 1600000 in
set_option maxRecDepth 100000 in
theorem impl_ChangedRegion.calls (a b p : Int) (A1 : Option Addr) (c1 : Nat) (d1 : List Int) (a' b' p' : Int) (A2 : Option Addr) (c2 : Nat) (d2 : List Int) (r : List S47) (w : World) (hr0_3 : Kd.C (Kd.int .i64) w A1 d1.length d1) (hc0_3 : d1.length ≤ c1) (hr1_3 : Kd.C (Kd.int .i64) w A2 d2.length d2) (hc1_3 : d2.length ≤ c2) (h : impl_ChangedRegion.f a b p d1 a' b' p' d2 = some r) :
    Calls Try.prog 14 #[.agg #[.int .i64 a, .int .i64 b, .int .i64 p, .slice A1 d1.length c1], .agg #[.int .i64 a', .int .i64 b', .int .i64 p', .slice A2 d2.length c2]] w fun e w' => ∃ v0_ : Value, e = .returned (v0_) ∧ Kd.R k47 47 w' w.heap.size (fun _ => True) v0_ r ∧ Below w.heap.size w w' := by
  obtain rfl := Option.some.inj h
  clear h
  have HC1 := Aside0.mk hc0_3
  have HC2 := Aside0.mk hc1_3
  have HR1 := Aside0.mk hr0_3
  have HR2 := Aside0.mk hr1_3
  have HB0 := Aside0.mk (Below.refl w.heap.size w)
  have E1 := Aside0.mk (impl_isImage_eq a b p d1)
  have E2 := Aside0.mk (impl_isImage_eq a' b' p' d2)
  have E3 := Aside0.mk (impl_alike_eq a b p d1 a' b' p' d2)
  clear hr0_3 hc0_3 hr1_3 hc1_3
  have hu := Try.underlying28
  cases hv1 : validI a b p d1 with
  | false =>
    rw [show sameV a b p d1 a' b' p' d2 = false from by unfold sameV; rw [hv1, Bool.false_and], if_neg (by simp)]
    rw [hv1] at E1
    clear hv1
    go_enter Try.func14, Try.ntmps14
    go_wp2_with (first
      | ((with_reducible refine gate_dst (N := 2) rfl ?_); refine box_event ?hg (N := 2) ?hd (cs := #[.int .i64 a, .int .i64 b, .int .i64 p, .slice A1 d1.length c1]) (t := 28) ?hr ?_; (case hd => rfl); (case hg => rfl); (case hr => first | (go_simp; done) | (go_simp; rfl)); intro g1 hg_ w1 hbox hb; have HB1 := Aside0.mk (below_then HB0.out HB0.out.size hb); have K1 := Aside0.mk hbox; have Gg1 := Aside0.mk (show w.heap.size ≤ g1 from by rw [hg_]; exact HB0.out.size); clear hbox hb hg_)
      | ((with_reducible refine gate_dst (N := 3) rfl ?_); refine box_event ?hg (N := 3) ?hd (cs := #[.int .i64 a', .int .i64 b', .int .i64 p', .slice A2 d2.length c2]) (t := 28) ?hr ?_; (case hd => rfl); (case hg => rfl); (case hr => first | (go_simp; done) | (go_simp; rfl)); intro g2 hg_ w2 hbox hb; have HB2 := Aside0.mk (below_then HB1.out HB1.out.size hb); have K2 := Aside0.mk hbox; have K1b := Aside0.mk (blk_below K1.out hb); have Gg2 := Aside0.mk (show w.heap.size ≤ g2 from by rw [hg_]; exact HB1.out.size); have M1 := K1b; have M2 := K2; have f0 : w2.cell? ⟨g1, 0, none⟩ = some (.int .i64 a) := (blk_cell K1b.out 0).trans rfl; have f1 : w2.cell? ⟨g1, 1, none⟩ = some (.int .i64 b) := (blk_cell K1b.out 1).trans rfl; have f2 : w2.cell? ⟨g1, 2, none⟩ = some (.int .i64 p) := (blk_cell K1b.out 2).trans rfl; have f3 : w2.cell? ⟨g1, 3, none⟩ = some (.slice A1 d1.length c1) := (blk_cell K1b.out 3).trans rfl; have e0 : w2.cell? ⟨g2, 0, none⟩ = some (.int .i64 a') := (blk_cell K2.out 0).trans rfl; have e1 : w2.cell? ⟨g2, 1, none⟩ = some (.int .i64 b') := (blk_cell K2.out 1).trans rfl; have e2 : w2.cell? ⟨g2, 2, none⟩ = some (.int .i64 p') := (blk_cell K2.out 2).trans rfl; have e3 : w2.cell? ⟨g2, 3, none⟩ = some (.slice A2 d2.length c2) := (blk_cell K2.out 3).trans rfl; clear hbox hb hg_)
      | (go_at_call 48; (with_reducible refine (impl_isImage.calls a b p A1 c1 d1 _ w2 (Kd.C_below HR1.out HB2.out) HC1.out E1.out).mono ?_); rintro e w3 ⟨rfl, hb_⟩; have HB3 := Aside0.mk (below_then HB2.out HB2.out.size hb_); have N1 := Aside0.mk (blk_below M1.out hb_); have N2 := Aside0.mk (blk_below M2.out hb_); have fw30 : w3.cell? ⟨g1, 0, none⟩ = some (.int .i64 a) := (blk_cell N1.out 0).trans rfl; have fw31 : w3.cell? ⟨g1, 1, none⟩ = some (.int .i64 b) := (blk_cell N1.out 1).trans rfl; have fw32 : w3.cell? ⟨g1, 2, none⟩ = some (.int .i64 p) := (blk_cell N1.out 2).trans rfl; have fw33 : w3.cell? ⟨g1, 3, none⟩ = some (.slice A1 d1.length c1) := (blk_cell N1.out 3).trans rfl; have ew30 : w3.cell? ⟨g2, 0, none⟩ = some (.int .i64 a') := (blk_cell N2.out 0).trans rfl; have ew31 : w3.cell? ⟨g2, 1, none⟩ = some (.int .i64 b') := (blk_cell N2.out 1).trans rfl; have ew32 : w3.cell? ⟨g2, 2, none⟩ = some (.int .i64 p') := (blk_cell N2.out 2).trans rfl; have ew33 : w3.cell? ⟨g2, 3, none⟩ = some (.slice A2 d2.length c2) := (blk_cell N2.out 3).trans rfl; clear hb_))
    go_ret
    exact ⟨_, rfl, Kd.R_nil _ _ _ _ _, HB3.out⟩
  | true =>
    rw [hv1] at E1
    cases hv2 : validI a' b' p' d2 with
    | false =>
      rw [show sameV a b p d1 a' b' p' d2 = false from by unfold sameV; rw [hv2, Bool.false_and, Bool.and_false], if_neg (by simp)]
      rw [hv2] at E2
      clear hv1 hv2
      go_enter Try.func14, Try.ntmps14
      go_wp2_with (first
        | ((with_reducible refine gate_dst (N := 2) rfl ?_); refine box_event ?hg (N := 2) ?hd (cs := #[.int .i64 a, .int .i64 b, .int .i64 p, .slice A1 d1.length c1]) (t := 28) ?hr ?_; (case hd => rfl); (case hg => rfl); (case hr => first | (go_simp; done) | (go_simp; rfl)); intro g1 hg_ w1 hbox hb; have HB1 := Aside0.mk (below_then HB0.out HB0.out.size hb); have K1 := Aside0.mk hbox; have Gg1 := Aside0.mk (show w.heap.size ≤ g1 from by rw [hg_]; exact HB0.out.size); clear hbox hb hg_)
        | ((with_reducible refine gate_dst (N := 3) rfl ?_); refine box_event ?hg (N := 3) ?hd (cs := #[.int .i64 a', .int .i64 b', .int .i64 p', .slice A2 d2.length c2]) (t := 28) ?hr ?_; (case hd => rfl); (case hg => rfl); (case hr => first | (go_simp; done) | (go_simp; rfl)); intro g2 hg_ w2 hbox hb; have HB2 := Aside0.mk (below_then HB1.out HB1.out.size hb); have K2 := Aside0.mk hbox; have K1b := Aside0.mk (blk_below K1.out hb); have Gg2 := Aside0.mk (show w.heap.size ≤ g2 from by rw [hg_]; exact HB1.out.size); have M1 := K1b; have M2 := K2; have f0 : w2.cell? ⟨g1, 0, none⟩ = some (.int .i64 a) := (blk_cell K1b.out 0).trans rfl; have f1 : w2.cell? ⟨g1, 1, none⟩ = some (.int .i64 b) := (blk_cell K1b.out 1).trans rfl; have f2 : w2.cell? ⟨g1, 2, none⟩ = some (.int .i64 p) := (blk_cell K1b.out 2).trans rfl; have f3 : w2.cell? ⟨g1, 3, none⟩ = some (.slice A1 d1.length c1) := (blk_cell K1b.out 3).trans rfl; have e0 : w2.cell? ⟨g2, 0, none⟩ = some (.int .i64 a') := (blk_cell K2.out 0).trans rfl; have e1 : w2.cell? ⟨g2, 1, none⟩ = some (.int .i64 b') := (blk_cell K2.out 1).trans rfl; have e2 : w2.cell? ⟨g2, 2, none⟩ = some (.int .i64 p') := (blk_cell K2.out 2).trans rfl; have e3 : w2.cell? ⟨g2, 3, none⟩ = some (.slice A2 d2.length c2) := (blk_cell K2.out 3).trans rfl; clear hbox hb hg_)
        | (go_at_call 48; (with_reducible refine (impl_isImage.calls a b p A1 c1 d1 _ w2 (Kd.C_below HR1.out HB2.out) HC1.out E1.out).mono ?_); rintro e w3 ⟨rfl, hb_⟩; have HB3 := Aside0.mk (below_then HB2.out HB2.out.size hb_); have N1 := Aside0.mk (blk_below M1.out hb_); have N2 := Aside0.mk (blk_below M2.out hb_); have fw30 : w3.cell? ⟨g1, 0, none⟩ = some (.int .i64 a) := (blk_cell N1.out 0).trans rfl; have fw31 : w3.cell? ⟨g1, 1, none⟩ = some (.int .i64 b) := (blk_cell N1.out 1).trans rfl; have fw32 : w3.cell? ⟨g1, 2, none⟩ = some (.int .i64 p) := (blk_cell N1.out 2).trans rfl; have fw33 : w3.cell? ⟨g1, 3, none⟩ = some (.slice A1 d1.length c1) := (blk_cell N1.out 3).trans rfl; have ew30 : w3.cell? ⟨g2, 0, none⟩ = some (.int .i64 a') := (blk_cell N2.out 0).trans rfl; have ew31 : w3.cell? ⟨g2, 1, none⟩ = some (.int .i64 b') := (blk_cell N2.out 1).trans rfl; have ew32 : w3.cell? ⟨g2, 2, none⟩ = some (.int .i64 p') := (blk_cell N2.out 2).trans rfl; have ew33 : w3.cell? ⟨g2, 3, none⟩ = some (.slice A2 d2.length c2) := (blk_cell N2.out 3).trans rfl; clear hb_)
        | (go_at_call 48; (with_reducible refine (impl_isImage.calls a' b' p' A2 c2 d2 _ w3 (Kd.C_below HR2.out HB3.out) HC2.out E2.out).mono ?_); rintro e w4 ⟨rfl, hb_⟩; have HB4 := Aside0.mk (below_then HB3.out HB3.out.size hb_); have O1 := Aside0.mk (blk_below N1.out hb_); have O2 := Aside0.mk (blk_below N2.out hb_); have fw40 : w4.cell? ⟨g1, 0, none⟩ = some (.int .i64 a) := (blk_cell O1.out 0).trans rfl; have fw41 : w4.cell? ⟨g1, 1, none⟩ = some (.int .i64 b) := (blk_cell O1.out 1).trans rfl; have fw42 : w4.cell? ⟨g1, 2, none⟩ = some (.int .i64 p) := (blk_cell O1.out 2).trans rfl; have fw43 : w4.cell? ⟨g1, 3, none⟩ = some (.slice A1 d1.length c1) := (blk_cell O1.out 3).trans rfl; have ew40 : w4.cell? ⟨g2, 0, none⟩ = some (.int .i64 a') := (blk_cell O2.out 0).trans rfl; have ew41 : w4.cell? ⟨g2, 1, none⟩ = some (.int .i64 b') := (blk_cell O2.out 1).trans rfl; have ew42 : w4.cell? ⟨g2, 2, none⟩ = some (.int .i64 p') := (blk_cell O2.out 2).trans rfl; have ew43 : w4.cell? ⟨g2, 3, none⟩ = some (.slice A2 d2.length c2) := (blk_cell O2.out 3).trans rfl; clear hb_))
      go_ret
      exact ⟨_, rfl, Kd.R_nil _ _ _ _ _, HB4.out⟩
    | true =>
      rw [hv2] at E2
      have es : sameV a b p d1 a' b' p' d2 = decide (a = a' ∧ b = b' ∧ p = p') := by unfold sameV; rw [hv1, hv2, Bool.true_and, Bool.true_and]
      by_cases hs : a = a' ∧ b = b' ∧ p = p'
      · rw [es, decide_eq_true hs, if_pos rfl]
        rw [decide_eq_true hs] at E3
        obtain ⟨rfl, rfl, rfl⟩ := hs
        have HV1 := Aside0.mk hv1
        have HV2 := Aside0.mk hv2
        clear hv1 hv2 es
        go_enter Try.func14, Try.ntmps14
        go_wp2_with (first
          | ((with_reducible refine gate_dst (N := 2) rfl ?_); refine box_event ?hg (N := 2) ?hd (cs := #[.int .i64 a, .int .i64 b, .int .i64 p, .slice A1 d1.length c1]) (t := 28) ?hr ?_; (case hd => rfl); (case hg => rfl); (case hr => first | (go_simp; done) | (go_simp; rfl)); intro g1 hg_ w1 hbox hb; have HB1 := Aside0.mk (below_then HB0.out HB0.out.size hb); have K1 := Aside0.mk hbox; have Gg1 := Aside0.mk (show w.heap.size ≤ g1 from by rw [hg_]; exact HB0.out.size); clear hbox hb hg_)
          | ((with_reducible refine gate_dst (N := 3) rfl ?_); refine box_event ?hg (N := 3) ?hd (cs := #[.int .i64 a, .int .i64 b, .int .i64 p, .slice A2 d2.length c2]) (t := 28) ?hr ?_; (case hd => rfl); (case hg => rfl); (case hr => first | (go_simp; done) | (go_simp; rfl)); intro g2 hg_ w2 hbox hb; have HB2 := Aside0.mk (below_then HB1.out HB1.out.size hb); have K2 := Aside0.mk hbox; have K1b := Aside0.mk (blk_below K1.out hb); have Gg2 := Aside0.mk (show w.heap.size ≤ g2 from by rw [hg_]; exact HB1.out.size); have M1 := K1b; have M2 := K2; have f0 : w2.cell? ⟨g1, 0, none⟩ = some (.int .i64 a) := (blk_cell K1b.out 0).trans rfl; have f1 : w2.cell? ⟨g1, 1, none⟩ = some (.int .i64 b) := (blk_cell K1b.out 1).trans rfl; have f2 : w2.cell? ⟨g1, 2, none⟩ = some (.int .i64 p) := (blk_cell K1b.out 2).trans rfl; have f3 : w2.cell? ⟨g1, 3, none⟩ = some (.slice A1 d1.length c1) := (blk_cell K1b.out 3).trans rfl; have e0 : w2.cell? ⟨g2, 0, none⟩ = some (.int .i64 a) := (blk_cell K2.out 0).trans rfl; have e1 : w2.cell? ⟨g2, 1, none⟩ = some (.int .i64 b) := (blk_cell K2.out 1).trans rfl; have e2 : w2.cell? ⟨g2, 2, none⟩ = some (.int .i64 p) := (blk_cell K2.out 2).trans rfl; have e3 : w2.cell? ⟨g2, 3, none⟩ = some (.slice A2 d2.length c2) := (blk_cell K2.out 3).trans rfl; clear hbox hb hg_)
          | (go_at_call 48; (with_reducible refine (impl_isImage.calls a b p A1 c1 d1 _ w2 (Kd.C_below HR1.out HB2.out) HC1.out E1.out).mono ?_); rintro e w3 ⟨rfl, hb_⟩; have HB3 := Aside0.mk (below_then HB2.out HB2.out.size hb_); have N1 := Aside0.mk (blk_below M1.out hb_); have N2 := Aside0.mk (blk_below M2.out hb_); have fw30 : w3.cell? ⟨g1, 0, none⟩ = some (.int .i64 a) := (blk_cell N1.out 0).trans rfl; have fw31 : w3.cell? ⟨g1, 1, none⟩ = some (.int .i64 b) := (blk_cell N1.out 1).trans rfl; have fw32 : w3.cell? ⟨g1, 2, none⟩ = some (.int .i64 p) := (blk_cell N1.out 2).trans rfl; have fw33 : w3.cell? ⟨g1, 3, none⟩ = some (.slice A1 d1.length c1) := (blk_cell N1.out 3).trans rfl; have ew30 : w3.cell? ⟨g2, 0, none⟩ = some (.int .i64 a) := (blk_cell N2.out 0).trans rfl; have ew31 : w3.cell? ⟨g2, 1, none⟩ = some (.int .i64 b) := (blk_cell N2.out 1).trans rfl; have ew32 : w3.cell? ⟨g2, 2, none⟩ = some (.int .i64 p) := (blk_cell N2.out 2).trans rfl; have ew33 : w3.cell? ⟨g2, 3, none⟩ = some (.slice A2 d2.length c2) := (blk_cell N2.out 3).trans rfl; clear hb_)
          | (go_at_call 48; (with_reducible refine (impl_isImage.calls a b p A2 c2 d2 _ w3 (Kd.C_below HR2.out HB3.out) HC2.out E2.out).mono ?_); rintro e w4 ⟨rfl, hb_⟩; have HB4 := Aside0.mk (below_then HB3.out HB3.out.size hb_); have O1 := Aside0.mk (blk_below N1.out hb_); have O2 := Aside0.mk (blk_below N2.out hb_); have fw40 : w4.cell? ⟨g1, 0, none⟩ = some (.int .i64 a) := (blk_cell O1.out 0).trans rfl; have fw41 : w4.cell? ⟨g1, 1, none⟩ = some (.int .i64 b) := (blk_cell O1.out 1).trans rfl; have fw42 : w4.cell? ⟨g1, 2, none⟩ = some (.int .i64 p) := (blk_cell O1.out 2).trans rfl; have fw43 : w4.cell? ⟨g1, 3, none⟩ = some (.slice A1 d1.length c1) := (blk_cell O1.out 3).trans rfl; have ew40 : w4.cell? ⟨g2, 0, none⟩ = some (.int .i64 a) := (blk_cell O2.out 0).trans rfl; have ew41 : w4.cell? ⟨g2, 1, none⟩ = some (.int .i64 b) := (blk_cell O2.out 1).trans rfl; have ew42 : w4.cell? ⟨g2, 2, none⟩ = some (.int .i64 p) := (blk_cell O2.out 2).trans rfl; have ew43 : w4.cell? ⟨g2, 3, none⟩ = some (.slice A2 d2.length c2) := (blk_cell O2.out 3).trans rfl; clear hb_)
          | (go_at_call 49; (with_reducible refine (impl_alikeImages.calls a b p A1 c1 d1 a b p A2 c2 d2 _ w4 (Kd.C_below HR1.out HB4.out) HC1.out (Kd.C_below HR2.out HB4.out) HC2.out E3.out).mono ?_); rintro e w5 ⟨rfl, hb_⟩; have HB5 := Aside0.mk (below_then HB4.out HB4.out.size hb_); have P1 := Aside0.mk (blk_below O1.out hb_); have P2 := Aside0.mk (blk_below O2.out hb_); have fw50 : w5.cell? ⟨g1, 0, none⟩ = some (.int .i64 a) := (blk_cell P1.out 0).trans rfl; have fw51 : w5.cell? ⟨g1, 1, none⟩ = some (.int .i64 b) := (blk_cell P1.out 1).trans rfl; have fw52 : w5.cell? ⟨g1, 2, none⟩ = some (.int .i64 p) := (blk_cell P1.out 2).trans rfl; have fw53 : w5.cell? ⟨g1, 3, none⟩ = some (.slice A1 d1.length c1) := (blk_cell P1.out 3).trans rfl; have ew50 : w5.cell? ⟨g2, 0, none⟩ = some (.int .i64 a) := (blk_cell P2.out 0).trans rfl; have ew51 : w5.cell? ⟨g2, 1, none⟩ = some (.int .i64 b) := (blk_cell P2.out 1).trans rfl; have ew52 : w5.cell? ⟨g2, 2, none⟩ = some (.int .i64 p) := (blk_cell P2.out 2).trans rfl; have ew53 : w5.cell? ⟨g2, 3, none⟩ = some (.slice A2 d2.length c2) := (blk_cell P2.out 3).trans rfl; clear hb_)
          | (go_at_call 50; (with_reducible refine (changed_calls a b p A1 A2 c1 c2 d1 d2 HV1.out HV2.out HC1.out HC2.out w5 (Kd.C_below HR1.out HB5.out) (Kd.C_below HR2.out HB5.out)).mono ?_); rintro e w6 ⟨v6, rfl, hr6, hb6⟩; have HR6 := Aside0.mk (Kd.R_lower hr6 HB5.out.size); have HB6 := Aside0.mk (below_then HB5.out HB5.out.size hb6); clear hb6 hr6))
        go_ret
        exact ⟨v6, rfl, HR6.out, HB6.out⟩
      · rw [es, decide_eq_false hs, if_neg (by simp)]
        rw [decide_eq_false hs] at E3
        clear hv1 hv2 es hs
        go_enter Try.func14, Try.ntmps14
        go_wp2_with (first
          | ((with_reducible refine gate_dst (N := 2) rfl ?_); refine box_event ?hg (N := 2) ?hd (cs := #[.int .i64 a, .int .i64 b, .int .i64 p, .slice A1 d1.length c1]) (t := 28) ?hr ?_; (case hd => rfl); (case hg => rfl); (case hr => first | (go_simp; done) | (go_simp; rfl)); intro g1 hg_ w1 hbox hb; have HB1 := Aside0.mk (below_then HB0.out HB0.out.size hb); have K1 := Aside0.mk hbox; have Gg1 := Aside0.mk (show w.heap.size ≤ g1 from by rw [hg_]; exact HB0.out.size); clear hbox hb hg_)
          | ((with_reducible refine gate_dst (N := 3) rfl ?_); refine box_event ?hg (N := 3) ?hd (cs := #[.int .i64 a', .int .i64 b', .int .i64 p', .slice A2 d2.length c2]) (t := 28) ?hr ?_; (case hd => rfl); (case hg => rfl); (case hr => first | (go_simp; done) | (go_simp; rfl)); intro g2 hg_ w2 hbox hb; have HB2 := Aside0.mk (below_then HB1.out HB1.out.size hb); have K2 := Aside0.mk hbox; have K1b := Aside0.mk (blk_below K1.out hb); have Gg2 := Aside0.mk (show w.heap.size ≤ g2 from by rw [hg_]; exact HB1.out.size); have M1 := K1b; have M2 := K2; have f0 : w2.cell? ⟨g1, 0, none⟩ = some (.int .i64 a) := (blk_cell K1b.out 0).trans rfl; have f1 : w2.cell? ⟨g1, 1, none⟩ = some (.int .i64 b) := (blk_cell K1b.out 1).trans rfl; have f2 : w2.cell? ⟨g1, 2, none⟩ = some (.int .i64 p) := (blk_cell K1b.out 2).trans rfl; have f3 : w2.cell? ⟨g1, 3, none⟩ = some (.slice A1 d1.length c1) := (blk_cell K1b.out 3).trans rfl; have e0 : w2.cell? ⟨g2, 0, none⟩ = some (.int .i64 a') := (blk_cell K2.out 0).trans rfl; have e1 : w2.cell? ⟨g2, 1, none⟩ = some (.int .i64 b') := (blk_cell K2.out 1).trans rfl; have e2 : w2.cell? ⟨g2, 2, none⟩ = some (.int .i64 p') := (blk_cell K2.out 2).trans rfl; have e3 : w2.cell? ⟨g2, 3, none⟩ = some (.slice A2 d2.length c2) := (blk_cell K2.out 3).trans rfl; clear hbox hb hg_)
          | (go_at_call 48; (with_reducible refine (impl_isImage.calls a b p A1 c1 d1 _ w2 (Kd.C_below HR1.out HB2.out) HC1.out E1.out).mono ?_); rintro e w3 ⟨rfl, hb_⟩; have HB3 := Aside0.mk (below_then HB2.out HB2.out.size hb_); have N1 := Aside0.mk (blk_below M1.out hb_); have N2 := Aside0.mk (blk_below M2.out hb_); have fw30 : w3.cell? ⟨g1, 0, none⟩ = some (.int .i64 a) := (blk_cell N1.out 0).trans rfl; have fw31 : w3.cell? ⟨g1, 1, none⟩ = some (.int .i64 b) := (blk_cell N1.out 1).trans rfl; have fw32 : w3.cell? ⟨g1, 2, none⟩ = some (.int .i64 p) := (blk_cell N1.out 2).trans rfl; have fw33 : w3.cell? ⟨g1, 3, none⟩ = some (.slice A1 d1.length c1) := (blk_cell N1.out 3).trans rfl; have ew30 : w3.cell? ⟨g2, 0, none⟩ = some (.int .i64 a') := (blk_cell N2.out 0).trans rfl; have ew31 : w3.cell? ⟨g2, 1, none⟩ = some (.int .i64 b') := (blk_cell N2.out 1).trans rfl; have ew32 : w3.cell? ⟨g2, 2, none⟩ = some (.int .i64 p') := (blk_cell N2.out 2).trans rfl; have ew33 : w3.cell? ⟨g2, 3, none⟩ = some (.slice A2 d2.length c2) := (blk_cell N2.out 3).trans rfl; clear hb_)
          | (go_at_call 48; (with_reducible refine (impl_isImage.calls a' b' p' A2 c2 d2 _ w3 (Kd.C_below HR2.out HB3.out) HC2.out E2.out).mono ?_); rintro e w4 ⟨rfl, hb_⟩; have HB4 := Aside0.mk (below_then HB3.out HB3.out.size hb_); have O1 := Aside0.mk (blk_below N1.out hb_); have O2 := Aside0.mk (blk_below N2.out hb_); have fw40 : w4.cell? ⟨g1, 0, none⟩ = some (.int .i64 a) := (blk_cell O1.out 0).trans rfl; have fw41 : w4.cell? ⟨g1, 1, none⟩ = some (.int .i64 b) := (blk_cell O1.out 1).trans rfl; have fw42 : w4.cell? ⟨g1, 2, none⟩ = some (.int .i64 p) := (blk_cell O1.out 2).trans rfl; have fw43 : w4.cell? ⟨g1, 3, none⟩ = some (.slice A1 d1.length c1) := (blk_cell O1.out 3).trans rfl; have ew40 : w4.cell? ⟨g2, 0, none⟩ = some (.int .i64 a') := (blk_cell O2.out 0).trans rfl; have ew41 : w4.cell? ⟨g2, 1, none⟩ = some (.int .i64 b') := (blk_cell O2.out 1).trans rfl; have ew42 : w4.cell? ⟨g2, 2, none⟩ = some (.int .i64 p') := (blk_cell O2.out 2).trans rfl; have ew43 : w4.cell? ⟨g2, 3, none⟩ = some (.slice A2 d2.length c2) := (blk_cell O2.out 3).trans rfl; clear hb_)
          | (go_at_call 49; (with_reducible refine (impl_alikeImages.calls a b p A1 c1 d1 a' b' p' A2 c2 d2 _ w4 (Kd.C_below HR1.out HB4.out) HC1.out (Kd.C_below HR2.out HB4.out) HC2.out E3.out).mono ?_); rintro e w5 ⟨rfl, hb_⟩; have HB5 := Aside0.mk (below_then HB4.out HB4.out.size hb_); have P1 := Aside0.mk (blk_below O1.out hb_); have P2 := Aside0.mk (blk_below O2.out hb_); have fw50 : w5.cell? ⟨g1, 0, none⟩ = some (.int .i64 a) := (blk_cell P1.out 0).trans rfl; have fw51 : w5.cell? ⟨g1, 1, none⟩ = some (.int .i64 b) := (blk_cell P1.out 1).trans rfl; have fw52 : w5.cell? ⟨g1, 2, none⟩ = some (.int .i64 p) := (blk_cell P1.out 2).trans rfl; have fw53 : w5.cell? ⟨g1, 3, none⟩ = some (.slice A1 d1.length c1) := (blk_cell P1.out 3).trans rfl; have ew50 : w5.cell? ⟨g2, 0, none⟩ = some (.int .i64 a') := (blk_cell P2.out 0).trans rfl; have ew51 : w5.cell? ⟨g2, 1, none⟩ = some (.int .i64 b') := (blk_cell P2.out 1).trans rfl; have ew52 : w5.cell? ⟨g2, 2, none⟩ = some (.int .i64 p') := (blk_cell P2.out 2).trans rfl; have ew53 : w5.cell? ⟨g2, 3, none⟩ = some (.slice A2 d2.length c2) := (blk_cell P2.out 3).trans rfl; clear hb_))
        go_ret
        exact ⟨_, rfl, Kd.R_nil _ _ _ _ _, HB5.out⟩
end Go.Proofs.Ytbgohbinonkhfaa.Q

namespace Go.Proofs.Ytbgohbinonkhfaa.Q
open Go.RowKit Go.Proofs.YtbgohbinonkhfaaW.PrintWords Go.Proofs.YtbgohbinonkhfaaW.PrintLast Go.Proofs.YtbgohbinonkhfaaW.PrintMore
attribute [local go_sem] max2_int min2_int max_two min_two max_three min_three max_four min_four
set_option linter.unusedVariables false
set_option linter.unusedSimpArgs false
/-! ### laws_eqRun: function 51 -/
def laws_eqRun.f (a0_0 : Int) (a0_1 : Int) (a0_2 : Int) (a1_0 : Int) (a1_1 : Int) (a1_2 : Int) : Option (Bool) := if a0_0 = a1_0 then (if a0_1 = a1_1 then (if a0_2 = a1_2 then (some true) else (some false)) else (some false)) else (some false)
set_option maxHeartbeats 8000000 in
set_option maxRecDepth 100000 in
theorem laws_eqRun.calls (a0_0 : Int) (a0_1 : Int) (a0_2 : Int) (a1_0 : Int) (a1_1 : Int) (a1_2 : Int) (r : Bool) (w : World) (h : laws_eqRun.f a0_0 a0_1 a0_2 a1_0 a1_1 a1_2 = some r) :
    Calls Try.prog 51 #[.agg #[.int .i64 a0_0, .int .i64 a0_1, .int .i64 a0_2], .agg #[.int .i64 a1_0, .int .i64 a1_1, .int .i64 a1_2]] w fun e w' => e = .returned (.bool r) ∧ Below w.heap.size w w' := by
  have hu47 := Try.underlying47
  have HB := Aside0.mk (Below.refl w.heap.size w)
  have H : (if a0_0 = a1_0 then (if a0_1 = a1_1 then (if a0_2 = a1_2 then (some true) else (some false)) else (some false)) else (some false)) = some r := h
  clear h
  by_cases c3 : a0_0 = a1_0
  · rw [if_pos c3] at H
    have c3b0 : (a0_0 == a1_0) = true := beq_iff_eq.mpr c3
    have c3b1 : (a0_0 != a1_0) = false := bne_eq_false_iff_eq.mpr c3
    clear c3
    by_cases c4 : a0_1 = a1_1
    · rw [if_pos c4] at H
      have c4b0 : (a0_1 == a1_1) = true := beq_iff_eq.mpr c4
      have c4b1 : (a0_1 != a1_1) = false := bne_eq_false_iff_eq.mpr c4
      clear c4
      by_cases c5 : a0_2 = a1_2
      · rw [if_pos c5] at H
        have c5b0 : (a0_2 == a1_2) = true := beq_iff_eq.mpr c5
        have c5b1 : (a0_2 != a1_2) = false := bne_eq_false_iff_eq.mpr c5
        clear c5
        obtain rfl := Option.some.inj H
        go_enter Try.func51, Try.ntmps51
        go_wp2_with (first | ((with_reducible refine gate_dst (N := 2) rfl ?_); refine box_event ?hg (N := 2) ?hd (cs := #[.int .i64 a0_0, .int .i64 a0_1, .int .i64 a0_2]) (t := 47) ?hr ?_; (case hd => rfl); (case hg => rfl); (case hr => first | (go_simp; done) | (go_simp; rfl)); intro gb52001 hg w6 hbox hb; have n0_ := Aside0.mk (below_step (by repeat (first | (with_reducible first | exact HB.out | apply below_alloc | apply pw_below_drewN | apply below_drew1) | exact HB.out)) hb); have n1_ := Aside0.mk (hbox); have n2_ := Aside0.mk ((by rw [hg]; exact (below_size (by repeat (first | (with_reducible first | exact HB.out | apply below_alloc | apply pw_below_drewN | apply below_drew1) | exact HB.out))) : w.heap.size ≤ gb52001)); have n3_ := Aside0.mk ((by rw [hg]; exact (below_size (by repeat (first | (with_reducible first | exact HB.out | apply below_alloc | apply pw_below_drewN | apply below_drew1) | exact HB.out))) : w.heap.size ≤ gb52001)); clear HB; have HB := n0_; have BK52001 := n1_; have GW52001 := n2_; have GE52001 := n3_; clear n0_ n1_ n2_ n3_; clear hb hbox hg) | ((with_reducible refine gate_dst (N := 3) rfl ?_); refine box_event ?hg (N := 3) ?hd (cs := #[.int .i64 a1_0, .int .i64 a1_1, .int .i64 a1_2]) (t := 47) ?hr ?_; (case hd => rfl); (case hg => rfl); (case hr => first | (go_simp; done) | (go_simp; rfl)); intro gb52002 hg w7 hbox hb; have n0_ := Aside0.mk (blk_below (g := gb52001) (o := .cells #[.int .i64 a0_0, .int .i64 a0_1, .int .i64 a0_2] 47 (0, 0)) (by (with_reducible repeat (first | refine blk_drewN ?_ _ | refine blk_drew ?_ | refine blk_alloc ?_ _)); exact BK52001.out) hb); have n1_ := Aside0.mk (below_step (by repeat (first | (with_reducible first | exact HB.out | apply below_alloc | apply pw_below_drewN | apply below_drew1 | refine below_set ?_ GE52001.out) | exact HB.out)) hb); have n2_ := Aside0.mk (hbox); have n3_ := Aside0.mk ((by rw [hg]; exact (below_size (by repeat (first | (with_reducible first | exact HB.out | apply below_alloc | apply pw_below_drewN | apply below_drew1 | refine below_set ?_ GE52001.out) | exact HB.out))) : w.heap.size ≤ gb52002)); have n4_ := Aside0.mk ((by rw [hg]; exact (below_size (by repeat (first | (with_reducible first | exact HB.out | apply below_alloc | apply pw_below_drewN | apply below_drew1 | refine below_set ?_ GE52001.out) | exact HB.out))) : w.heap.size ≤ gb52002)); have n5_ := Aside0.mk ((by rw [hg]; exact Nat.ne_of_lt (blk_lt (g := gb52001) (o := .cells #[.int .i64 a0_0, .int .i64 a0_1, .int .i64 a0_2] 47 (0, 0)) (by (with_reducible repeat (first | refine blk_drewN ?_ _ | refine blk_drew ?_ | refine blk_alloc ?_ _)); exact BK52001.out)) : gb52001 ≠ gb52002)); have n6_ := Aside0.mk ((by rw [hg]; exact Nat.ne_of_gt (blk_lt (g := gb52001) (o := .cells #[.int .i64 a0_0, .int .i64 a0_1, .int .i64 a0_2] 47 (0, 0)) (by (with_reducible repeat (first | refine blk_drewN ?_ _ | refine blk_drew ?_ | refine blk_alloc ?_ _)); exact BK52001.out)) : gb52002 ≠ gb52001)); clear BK52001; clear HB; have BK52001 := n0_; have HB := n1_; have BK52002 := n2_; have GW52002 := n3_; have GE52002 := n4_; have NB52001_52002 := n5_; have NB52002_52001 := n6_; clear n0_ n1_ n2_ n3_ n4_ n5_ n6_; clear hb hbox hg; have hnb8 := NB52001_52002.out; have hnc8 := NB52002_52001.out; have hcz9_0 : w7.cell? ⟨gb52001, 0, none⟩ = some (.int .i64 a0_0) := (blk_cell BK52001.out 0).trans rfl; have hcz9_1 : w7.cell? ⟨gb52001, 1, none⟩ = some (.int .i64 a0_1) := (blk_cell BK52001.out 1).trans rfl; have hcz9_2 : w7.cell? ⟨gb52001, 2, none⟩ = some (.int .i64 a0_2) := (blk_cell BK52001.out 2).trans rfl; have hfz9_0 := blk_frozen BK52001.out 0; have hfz9_1 := blk_frozen BK52001.out 1; have hfz9_2 := blk_frozen BK52001.out 2; have hcz10_0 : w7.cell? ⟨gb52002, 0, none⟩ = some (.int .i64 a1_0) := (blk_cell BK52002.out 0).trans rfl; have hcz10_1 : w7.cell? ⟨gb52002, 1, none⟩ = some (.int .i64 a1_1) := (blk_cell BK52002.out 1).trans rfl; have hcz10_2 : w7.cell? ⟨gb52002, 2, none⟩ = some (.int .i64 a1_2) := (blk_cell BK52002.out 2).trans rfl; have hfz10_0 := blk_frozen BK52002.out 0; have hfz10_1 := blk_frozen BK52002.out 1; have hfz10_2 := blk_frozen BK52002.out 2))
        go_ret
        exact ⟨by first | rfl | (simp [errW_none, errW_some] <;> rfl) | (simp [*, errW_none, errW_some] <;> rfl), by repeat (first | (with_reducible first | exact HB.out | apply below_alloc | apply pw_below_drewN | apply below_drew1 | refine below_set ?_ GE52001.out | refine below_set ?_ GE52002.out) | exact HB.out)⟩
      · rw [if_neg c5] at H
        have c5b0 : (a0_2 == a1_2) = false := beq_eq_false_iff_ne.mpr c5
        have c5b1 : (a0_2 != a1_2) = true := bne_iff_ne.mpr c5
        obtain rfl := Option.some.inj H
        go_enter Try.func51, Try.ntmps51
        go_wp2_with (first | ((with_reducible refine gate_dst (N := 2) rfl ?_); refine box_event ?hg (N := 2) ?hd (cs := #[.int .i64 a0_0, .int .i64 a0_1, .int .i64 a0_2]) (t := 47) ?hr ?_; (case hd => rfl); (case hg => rfl); (case hr => first | (go_simp; done) | (go_simp; rfl)); intro gb52001 hg w11 hbox hb; have n0_ := Aside0.mk (below_step (by repeat (first | (with_reducible first | exact HB.out | apply below_alloc | apply pw_below_drewN | apply below_drew1) | exact HB.out)) hb); have n1_ := Aside0.mk (hbox); have n2_ := Aside0.mk ((by rw [hg]; exact (below_size (by repeat (first | (with_reducible first | exact HB.out | apply below_alloc | apply pw_below_drewN | apply below_drew1) | exact HB.out))) : w.heap.size ≤ gb52001)); have n3_ := Aside0.mk ((by rw [hg]; exact (below_size (by repeat (first | (with_reducible first | exact HB.out | apply below_alloc | apply pw_below_drewN | apply below_drew1) | exact HB.out))) : w.heap.size ≤ gb52001)); clear HB; have HB := n0_; have BK52001 := n1_; have GW52001 := n2_; have GE52001 := n3_; clear n0_ n1_ n2_ n3_; clear hb hbox hg) | ((with_reducible refine gate_dst (N := 3) rfl ?_); refine box_event ?hg (N := 3) ?hd (cs := #[.int .i64 a1_0, .int .i64 a1_1, .int .i64 a1_2]) (t := 47) ?hr ?_; (case hd => rfl); (case hg => rfl); (case hr => first | (go_simp; done) | (go_simp; rfl)); intro gb52002 hg w12 hbox hb; have n0_ := Aside0.mk (blk_below (g := gb52001) (o := .cells #[.int .i64 a0_0, .int .i64 a0_1, .int .i64 a0_2] 47 (0, 0)) (by (with_reducible repeat (first | refine blk_drewN ?_ _ | refine blk_drew ?_ | refine blk_alloc ?_ _)); exact BK52001.out) hb); have n1_ := Aside0.mk (below_step (by repeat (first | (with_reducible first | exact HB.out | apply below_alloc | apply pw_below_drewN | apply below_drew1 | refine below_set ?_ GE52001.out) | exact HB.out)) hb); have n2_ := Aside0.mk (hbox); have n3_ := Aside0.mk ((by rw [hg]; exact (below_size (by repeat (first | (with_reducible first | exact HB.out | apply below_alloc | apply pw_below_drewN | apply below_drew1 | refine below_set ?_ GE52001.out) | exact HB.out))) : w.heap.size ≤ gb52002)); have n4_ := Aside0.mk ((by rw [hg]; exact (below_size (by repeat (first | (with_reducible first | exact HB.out | apply below_alloc | apply pw_below_drewN | apply below_drew1 | refine below_set ?_ GE52001.out) | exact HB.out))) : w.heap.size ≤ gb52002)); have n5_ := Aside0.mk ((by rw [hg]; exact Nat.ne_of_lt (blk_lt (g := gb52001) (o := .cells #[.int .i64 a0_0, .int .i64 a0_1, .int .i64 a0_2] 47 (0, 0)) (by (with_reducible repeat (first | refine blk_drewN ?_ _ | refine blk_drew ?_ | refine blk_alloc ?_ _)); exact BK52001.out)) : gb52001 ≠ gb52002)); have n6_ := Aside0.mk ((by rw [hg]; exact Nat.ne_of_gt (blk_lt (g := gb52001) (o := .cells #[.int .i64 a0_0, .int .i64 a0_1, .int .i64 a0_2] 47 (0, 0)) (by (with_reducible repeat (first | refine blk_drewN ?_ _ | refine blk_drew ?_ | refine blk_alloc ?_ _)); exact BK52001.out)) : gb52002 ≠ gb52001)); clear BK52001; clear HB; have BK52001 := n0_; have HB := n1_; have BK52002 := n2_; have GW52002 := n3_; have GE52002 := n4_; have NB52001_52002 := n5_; have NB52002_52001 := n6_; clear n0_ n1_ n2_ n3_ n4_ n5_ n6_; clear hb hbox hg; have hnb13 := NB52001_52002.out; have hnc13 := NB52002_52001.out; have hcz14_0 : w12.cell? ⟨gb52001, 0, none⟩ = some (.int .i64 a0_0) := (blk_cell BK52001.out 0).trans rfl; have hcz14_1 : w12.cell? ⟨gb52001, 1, none⟩ = some (.int .i64 a0_1) := (blk_cell BK52001.out 1).trans rfl; have hcz14_2 : w12.cell? ⟨gb52001, 2, none⟩ = some (.int .i64 a0_2) := (blk_cell BK52001.out 2).trans rfl; have hfz14_0 := blk_frozen BK52001.out 0; have hfz14_1 := blk_frozen BK52001.out 1; have hfz14_2 := blk_frozen BK52001.out 2; have hcz15_0 : w12.cell? ⟨gb52002, 0, none⟩ = some (.int .i64 a1_0) := (blk_cell BK52002.out 0).trans rfl; have hcz15_1 : w12.cell? ⟨gb52002, 1, none⟩ = some (.int .i64 a1_1) := (blk_cell BK52002.out 1).trans rfl; have hcz15_2 : w12.cell? ⟨gb52002, 2, none⟩ = some (.int .i64 a1_2) := (blk_cell BK52002.out 2).trans rfl; have hfz15_0 := blk_frozen BK52002.out 0; have hfz15_1 := blk_frozen BK52002.out 1; have hfz15_2 := blk_frozen BK52002.out 2))
        go_ret
        exact ⟨by first | rfl | (simp [errW_none, errW_some] <;> rfl) | (simp [*, errW_none, errW_some] <;> rfl), by repeat (first | (with_reducible first | exact HB.out | apply below_alloc | apply pw_below_drewN | apply below_drew1 | refine below_set ?_ GE52001.out | refine below_set ?_ GE52002.out) | exact HB.out)⟩
    · rw [if_neg c4] at H
      have c4b0 : (a0_1 == a1_1) = false := beq_eq_false_iff_ne.mpr c4
      have c4b1 : (a0_1 != a1_1) = true := bne_iff_ne.mpr c4
      obtain rfl := Option.some.inj H
      go_enter Try.func51, Try.ntmps51
      go_wp2_with (first | ((with_reducible refine gate_dst (N := 2) rfl ?_); refine box_event ?hg (N := 2) ?hd (cs := #[.int .i64 a0_0, .int .i64 a0_1, .int .i64 a0_2]) (t := 47) ?hr ?_; (case hd => rfl); (case hg => rfl); (case hr => first | (go_simp; done) | (go_simp; rfl)); intro gb52001 hg w16 hbox hb; have n0_ := Aside0.mk (below_step (by repeat (first | (with_reducible first | exact HB.out | apply below_alloc | apply pw_below_drewN | apply below_drew1) | exact HB.out)) hb); have n1_ := Aside0.mk (hbox); have n2_ := Aside0.mk ((by rw [hg]; exact (below_size (by repeat (first | (with_reducible first | exact HB.out | apply below_alloc | apply pw_below_drewN | apply below_drew1) | exact HB.out))) : w.heap.size ≤ gb52001)); have n3_ := Aside0.mk ((by rw [hg]; exact (below_size (by repeat (first | (with_reducible first | exact HB.out | apply below_alloc | apply pw_below_drewN | apply below_drew1) | exact HB.out))) : w.heap.size ≤ gb52001)); clear HB; have HB := n0_; have BK52001 := n1_; have GW52001 := n2_; have GE52001 := n3_; clear n0_ n1_ n2_ n3_; clear hb hbox hg) | ((with_reducible refine gate_dst (N := 3) rfl ?_); refine box_event ?hg (N := 3) ?hd (cs := #[.int .i64 a1_0, .int .i64 a1_1, .int .i64 a1_2]) (t := 47) ?hr ?_; (case hd => rfl); (case hg => rfl); (case hr => first | (go_simp; done) | (go_simp; rfl)); intro gb52002 hg w17 hbox hb; have n0_ := Aside0.mk (blk_below (g := gb52001) (o := .cells #[.int .i64 a0_0, .int .i64 a0_1, .int .i64 a0_2] 47 (0, 0)) (by (with_reducible repeat (first | refine blk_drewN ?_ _ | refine blk_drew ?_ | refine blk_alloc ?_ _)); exact BK52001.out) hb); have n1_ := Aside0.mk (below_step (by repeat (first | (with_reducible first | exact HB.out | apply below_alloc | apply pw_below_drewN | apply below_drew1 | refine below_set ?_ GE52001.out) | exact HB.out)) hb); have n2_ := Aside0.mk (hbox); have n3_ := Aside0.mk ((by rw [hg]; exact (below_size (by repeat (first | (with_reducible first | exact HB.out | apply below_alloc | apply pw_below_drewN | apply below_drew1 | refine below_set ?_ GE52001.out) | exact HB.out))) : w.heap.size ≤ gb52002)); have n4_ := Aside0.mk ((by rw [hg]; exact (below_size (by repeat (first | (with_reducible first | exact HB.out | apply below_alloc | apply pw_below_drewN | apply below_drew1 | refine below_set ?_ GE52001.out) | exact HB.out))) : w.heap.size ≤ gb52002)); have n5_ := Aside0.mk ((by rw [hg]; exact Nat.ne_of_lt (blk_lt (g := gb52001) (o := .cells #[.int .i64 a0_0, .int .i64 a0_1, .int .i64 a0_2] 47 (0, 0)) (by (with_reducible repeat (first | refine blk_drewN ?_ _ | refine blk_drew ?_ | refine blk_alloc ?_ _)); exact BK52001.out)) : gb52001 ≠ gb52002)); have n6_ := Aside0.mk ((by rw [hg]; exact Nat.ne_of_gt (blk_lt (g := gb52001) (o := .cells #[.int .i64 a0_0, .int .i64 a0_1, .int .i64 a0_2] 47 (0, 0)) (by (with_reducible repeat (first | refine blk_drewN ?_ _ | refine blk_drew ?_ | refine blk_alloc ?_ _)); exact BK52001.out)) : gb52002 ≠ gb52001)); clear BK52001; clear HB; have BK52001 := n0_; have HB := n1_; have BK52002 := n2_; have GW52002 := n3_; have GE52002 := n4_; have NB52001_52002 := n5_; have NB52002_52001 := n6_; clear n0_ n1_ n2_ n3_ n4_ n5_ n6_; clear hb hbox hg; have hnb18 := NB52001_52002.out; have hnc18 := NB52002_52001.out; have hcz19_0 : w17.cell? ⟨gb52001, 0, none⟩ = some (.int .i64 a0_0) := (blk_cell BK52001.out 0).trans rfl; have hcz19_1 : w17.cell? ⟨gb52001, 1, none⟩ = some (.int .i64 a0_1) := (blk_cell BK52001.out 1).trans rfl; have hcz19_2 : w17.cell? ⟨gb52001, 2, none⟩ = some (.int .i64 a0_2) := (blk_cell BK52001.out 2).trans rfl; have hfz19_0 := blk_frozen BK52001.out 0; have hfz19_1 := blk_frozen BK52001.out 1; have hfz19_2 := blk_frozen BK52001.out 2; have hcz20_0 : w17.cell? ⟨gb52002, 0, none⟩ = some (.int .i64 a1_0) := (blk_cell BK52002.out 0).trans rfl; have hcz20_1 : w17.cell? ⟨gb52002, 1, none⟩ = some (.int .i64 a1_1) := (blk_cell BK52002.out 1).trans rfl; have hcz20_2 : w17.cell? ⟨gb52002, 2, none⟩ = some (.int .i64 a1_2) := (blk_cell BK52002.out 2).trans rfl; have hfz20_0 := blk_frozen BK52002.out 0; have hfz20_1 := blk_frozen BK52002.out 1; have hfz20_2 := blk_frozen BK52002.out 2))
      go_ret
      exact ⟨by first | rfl | (simp [errW_none, errW_some] <;> rfl) | (simp [*, errW_none, errW_some] <;> rfl), by repeat (first | (with_reducible first | exact HB.out | apply below_alloc | apply pw_below_drewN | apply below_drew1 | refine below_set ?_ GE52001.out | refine below_set ?_ GE52002.out) | exact HB.out)⟩
  · rw [if_neg c3] at H
    have c3b0 : (a0_0 == a1_0) = false := beq_eq_false_iff_ne.mpr c3
    have c3b1 : (a0_0 != a1_0) = true := bne_iff_ne.mpr c3
    obtain rfl := Option.some.inj H
    go_enter Try.func51, Try.ntmps51
    go_wp2_with (first | ((with_reducible refine gate_dst (N := 2) rfl ?_); refine box_event ?hg (N := 2) ?hd (cs := #[.int .i64 a0_0, .int .i64 a0_1, .int .i64 a0_2]) (t := 47) ?hr ?_; (case hd => rfl); (case hg => rfl); (case hr => first | (go_simp; done) | (go_simp; rfl)); intro gb52001 hg w21 hbox hb; have n0_ := Aside0.mk (below_step (by repeat (first | (with_reducible first | exact HB.out | apply below_alloc | apply pw_below_drewN | apply below_drew1) | exact HB.out)) hb); have n1_ := Aside0.mk (hbox); have n2_ := Aside0.mk ((by rw [hg]; exact (below_size (by repeat (first | (with_reducible first | exact HB.out | apply below_alloc | apply pw_below_drewN | apply below_drew1) | exact HB.out))) : w.heap.size ≤ gb52001)); have n3_ := Aside0.mk ((by rw [hg]; exact (below_size (by repeat (first | (with_reducible first | exact HB.out | apply below_alloc | apply pw_below_drewN | apply below_drew1) | exact HB.out))) : w.heap.size ≤ gb52001)); clear HB; have HB := n0_; have BK52001 := n1_; have GW52001 := n2_; have GE52001 := n3_; clear n0_ n1_ n2_ n3_; clear hb hbox hg) | ((with_reducible refine gate_dst (N := 3) rfl ?_); refine box_event ?hg (N := 3) ?hd (cs := #[.int .i64 a1_0, .int .i64 a1_1, .int .i64 a1_2]) (t := 47) ?hr ?_; (case hd => rfl); (case hg => rfl); (case hr => first | (go_simp; done) | (go_simp; rfl)); intro gb52002 hg w22 hbox hb; have n0_ := Aside0.mk (blk_below (g := gb52001) (o := .cells #[.int .i64 a0_0, .int .i64 a0_1, .int .i64 a0_2] 47 (0, 0)) (by (with_reducible repeat (first | refine blk_drewN ?_ _ | refine blk_drew ?_ | refine blk_alloc ?_ _)); exact BK52001.out) hb); have n1_ := Aside0.mk (below_step (by repeat (first | (with_reducible first | exact HB.out | apply below_alloc | apply pw_below_drewN | apply below_drew1 | refine below_set ?_ GE52001.out) | exact HB.out)) hb); have n2_ := Aside0.mk (hbox); have n3_ := Aside0.mk ((by rw [hg]; exact (below_size (by repeat (first | (with_reducible first | exact HB.out | apply below_alloc | apply pw_below_drewN | apply below_drew1 | refine below_set ?_ GE52001.out) | exact HB.out))) : w.heap.size ≤ gb52002)); have n4_ := Aside0.mk ((by rw [hg]; exact (below_size (by repeat (first | (with_reducible first | exact HB.out | apply below_alloc | apply pw_below_drewN | apply below_drew1 | refine below_set ?_ GE52001.out) | exact HB.out))) : w.heap.size ≤ gb52002)); have n5_ := Aside0.mk ((by rw [hg]; exact Nat.ne_of_lt (blk_lt (g := gb52001) (o := .cells #[.int .i64 a0_0, .int .i64 a0_1, .int .i64 a0_2] 47 (0, 0)) (by (with_reducible repeat (first | refine blk_drewN ?_ _ | refine blk_drew ?_ | refine blk_alloc ?_ _)); exact BK52001.out)) : gb52001 ≠ gb52002)); have n6_ := Aside0.mk ((by rw [hg]; exact Nat.ne_of_gt (blk_lt (g := gb52001) (o := .cells #[.int .i64 a0_0, .int .i64 a0_1, .int .i64 a0_2] 47 (0, 0)) (by (with_reducible repeat (first | refine blk_drewN ?_ _ | refine blk_drew ?_ | refine blk_alloc ?_ _)); exact BK52001.out)) : gb52002 ≠ gb52001)); clear BK52001; clear HB; have BK52001 := n0_; have HB := n1_; have BK52002 := n2_; have GW52002 := n3_; have GE52002 := n4_; have NB52001_52002 := n5_; have NB52002_52001 := n6_; clear n0_ n1_ n2_ n3_ n4_ n5_ n6_; clear hb hbox hg; have hnb23 := NB52001_52002.out; have hnc23 := NB52002_52001.out; have hcz24_0 : w22.cell? ⟨gb52001, 0, none⟩ = some (.int .i64 a0_0) := (blk_cell BK52001.out 0).trans rfl; have hcz24_1 : w22.cell? ⟨gb52001, 1, none⟩ = some (.int .i64 a0_1) := (blk_cell BK52001.out 1).trans rfl; have hcz24_2 : w22.cell? ⟨gb52001, 2, none⟩ = some (.int .i64 a0_2) := (blk_cell BK52001.out 2).trans rfl; have hfz24_0 := blk_frozen BK52001.out 0; have hfz24_1 := blk_frozen BK52001.out 1; have hfz24_2 := blk_frozen BK52001.out 2; have hcz25_0 : w22.cell? ⟨gb52002, 0, none⟩ = some (.int .i64 a1_0) := (blk_cell BK52002.out 0).trans rfl; have hcz25_1 : w22.cell? ⟨gb52002, 1, none⟩ = some (.int .i64 a1_1) := (blk_cell BK52002.out 1).trans rfl; have hcz25_2 : w22.cell? ⟨gb52002, 2, none⟩ = some (.int .i64 a1_2) := (blk_cell BK52002.out 2).trans rfl; have hfz25_0 := blk_frozen BK52002.out 0; have hfz25_1 := blk_frozen BK52002.out 1; have hfz25_2 := blk_frozen BK52002.out 2))
    go_ret
    exact ⟨by first | rfl | (simp [errW_none, errW_some] <;> rfl) | (simp [*, errW_none, errW_some] <;> rfl), by repeat (first | (with_reducible first | exact HB.out | apply below_alloc | apply pw_below_drewN | apply below_drew1 | refine below_set ?_ GE52001.out | refine below_set ?_ GE52002.out) | exact HB.out)⟩

end Go.Proofs.Ytbgohbinonkhfaa.Q

namespace Go.Proofs.Ytbgohbinonkhfaa.Q
open Go.RowKit Go.Proofs.YtbgohbinonkhfaaW.PrintWords Go.Proofs.YtbgohbinonkhfaaW.PrintLast Go.Proofs.YtbgohbinonkhfaaW.PrintMore
attribute [local go_sem] max2_int min2_int max_two min_two max_three min_three max_four min_four
set_option linter.unusedVariables false
set_option linter.unusedSimpArgs false
/-! ### laws_eqRunS: function 15 -/
def laws_eqRunS.l0 : Nat → List (S47) → List (S47) → Int → Option (Bool)
  | 0, _, _, _ => none
  | k + 1, x0, x1, x5 => if x5 < (x0.length : Int) then (if 0 ≤ x5 then (if x5 < (x1.length : Int) then ((laws_eqRun.f ((rd_T47 x0 x5).f0) ((rd_T47 x0 x5).f1) ((rd_T47 x0 x5).f2) ((rd_T47 x1 x5).f0) ((rd_T47 x1 x5).f1) ((rd_T47 x1 x5).f2)).bind fun t16003 => (if t16003 = true then (laws_eqRunS.l0 k x0 x1 (wrap64 (x5 + 1))) else (some false))) else (none)) else (none)) else (some true)
def laws_eqRunS.f (k : Nat) (l0 : List (S47)) (l1 : List (S47)) : Option (Bool) := if (l0.length : Int) = (l1.length : Int) then (laws_eqRunS.l0 k l0 l1 0) else (some false)
theorem laws_eqRunS.mono_l : ∀ k, (∀ y0 y1 y2, LeO (laws_eqRunS.l0 k y0 y1 y2) (laws_eqRunS.l0 (k + 1) y0 y1 y2))
  | 0 => fun _ _ _ r h => by simp [laws_eqRunS.l0] at h
  | k + 1 => by
    have ih0 := laws_eqRunS.mono_l k
    · intro y0 y1 y2
      unfold laws_eqRunS.l0
      repeat' first
      | (with_reducible exact ih0 _ _ _)
      | (with_reducible exact LeO.refl _)
      | (with_reducible exact LeO.none _)
      | (with_reducible refine LeO.ite ?_ ?_)
      | (with_reducible refine LeO.bind ?_ (fun _ => ?_))
      | exact ih0 _ _ _
      | exact LeO.none _
      | refine LeO.ite ?_ ?_
      | refine LeO.bind ?_ (fun _ => ?_)
theorem laws_eqRunS.mono : ∀ a0 a1 k, LeO (laws_eqRunS.f k a0 a1) (laws_eqRunS.f (k + 1) a0 a1) := by
  intro a0 a1 k
  have ih0 := laws_eqRunS.mono_l k
  unfold laws_eqRunS.f
  repeat' first
      | (with_reducible exact ih0 _ _ _)
      | (with_reducible exact LeO.refl _)
      | (with_reducible exact LeO.none _)
      | (with_reducible refine LeO.ite ?_ ?_)
      | (with_reducible refine LeO.bind ?_ (fun _ => ?_))
      | exact ih0 _ _ _
      | exact LeO.none _
      | refine LeO.ite ?_ ?_
      | refine LeO.bind ?_ (fun _ => ?_)
def laws_eqRunS.T6 : Bool × List (List Nat × List Nat) := (true, [([], []), ([], []), ([0, 1], [0, 1]), ([2], [2]), ([], []), ([], []), ([4, 5], [4, 5]), ([6], [6]), ([3, 7], [3, 7]), ([8], [8])])
def laws_eqRunS.B6 : List Nat := [0, 0, 3, 7, 0, 0, 48, 112, 255, 511]
theorem laws_eqRunS.tab6 : rtab .any (opsOf Try.f15 6) = laws_eqRunS.T6 := by kernel_rfl
theorem laws_eqRunS.bits6 : waitsOk laws_eqRunS.T6.2 laws_eqRunS.B6 = true := by kernel_rfl
set_option maxHeartbeats 8000000 in
set_option maxRecDepth 100000 in
theorem laws_eqRunS.calls (k : Nat) (A0 : Option Addr) (c0 : Nat) (l0 : List (S47)) (A1 : Option Addr) (c1 : Nat) (l1 : List (S47)) (r : Bool) (w : World) (hr0 : Kd.C k47 w A0 l0.length l0) (hc0 : l0.length ≤ c0) (hr1 : Kd.C k47 w A1 l1.length l1) (hc1 : l1.length ≤ c1) (h : laws_eqRunS.f k l0 l1 = some r) :
    Calls Try.prog 15 #[.slice A0 l0.length c0, .slice A1 l1.length c1] w fun e w' => e = .returned (.bool r) ∧ Below w.heap.size w w' := by
  have hu47 := Try.underlying47
  have HR0 := Aside0.mk hr0
  have HC0 := Aside0.mk hc0
  clear hr0 hc0
  have HR1 := Aside0.mk hr1
  have HC1 := Aside0.mk hc1
  clear hr1 hc1
  have HB := Aside0.mk (Below.refl w.heap.size w)
  have H : (if (l0.length : Int) = (l1.length : Int) then (laws_eqRunS.l0 k l0 l1 0) else (some false)) = some r := h
  clear h
  by_cases c3 : (l0.length : Int) = (l1.length : Int)
  · rw [if_pos c3] at H
    have c3b0 : ((l0.length : Int) == (l1.length : Int)) = true := beq_iff_eq.mpr c3
    have c3b1 : ((l0.length : Int) != (l1.length : Int)) = false := bne_eq_false_iff_eq.mpr c3
    have c3b2 : (l0.length == l1.length) = true := by first | simpa using c3 | (simp at c3 ⊢; omega)
    clear c3
    have H' := Aside0.mk H
    clear H
    go_enter Try.func15, Try.ntmps15
    go_wp2
    go_loopg [5] k (fun kq v5 w' => ∃ (x5_1 : Int), v5 = .int .i64 x5_1 ∧ Aside0 (laws_eqRunS.l0 kq l0 l1 x5_1 = some r) ∧ Aside0 (kq ≤ k) ∧ Aside0 (Below w.heap.size w w'))
    case atStart => exact ⟨(0), (by first | rfl | (simp; done) | (simp [*]; done)), H', ⟨Nat.le_refl _⟩, ⟨by repeat (first | (with_reducible first | exact HB.out | apply below_alloc | apply pw_below_drewN | apply below_drew1) | exact HB.out)⟩⟩
    case round =>
      clear H'
      try clear c1
      try clear p2
      try clear c3
      try clear c3b0
      try clear c3b1
      try clear c3b2
      obtain ⟨x5_1, rfl, HA, HK1, HB⟩ := hrel
      cases gk with
      | zero => exact absurd HA.out (by simp [laws_eqRunS.l0])
      | succ k1 =>
        have H := HA.out
        clear HA
        simp only [laws_eqRunS.l0] at H
        by_cases c4 : x5_1 < (l0.length : Int)
        · rw [if_pos c4] at H
          have c4b0 : decide (x5_1 < (l0.length : Int)) = true := decide_eq_true c4
          clear c4
          by_cases c5 : 0 ≤ x5_1
          · rw [if_pos c5] at H
            have c5b0 : decide (0 ≤ x5_1) = true := decide_eq_true c5
            clear c5
            by_cases c6 : x5_1 < (l1.length : Int)
            · rw [if_pos c6] at H
              have c6b0 : decide (x5_1 < (l1.length : Int)) = true := decide_eq_true c6
              clear c6
              replace H := Option.bind_eq_some_iff.mp H
              obtain ⟨t16003, A70, H⟩ := H
              replace H : (if t16003 = true then (laws_eqRunS.l0 k1 l0 l1 (wrap64 (x5_1 + 1))) else (some false)) = some r := H
              have A7 := Aside0.mk A70
              clear A70
              by_cases c8 : t16003 = true
              · subst c8
                have H1 : (laws_eqRunS.l0 k1 l0 l1 (wrap64 (x5_1 + 1))) = some r := by rw [if_pos rfl] at H; exact H
                clear H
                have H := H1
                clear H1
                have H' := Aside0.mk H
                clear H
                try go_wp2
                have n0_ := Aside0.mk (below_drew1 HB.out)
                clear HB
                have HB := n0_
                clear n0_
                have p16001 : 0 ≤ (x5_1 : Int) := of_decide_eq_true (by first | (with_reducible assumption) | assumption)
                have q16001 : x5_1 < (l0.length : Int) := of_decide_eq_true (by first | (with_reducible assumption) | assumption)
                obtain ⟨ad16001, e16001, hx16001_0, hx16001_1, hx16001_2⟩ := at_T47 HR0.out x5_1 p16001 q16001
                have hw16001_2 := hx16001_2
                have hw16001_1 := hx16001_1
                have hw16001_0 := hx16001_0
                cases e16001
                replace hx16001_0 := (HB.out.cell (World.block_lt_of_cell? w _ hx16001_0)).trans hx16001_0
                replace hx16001_1 := (HB.out.cell (World.block_lt_of_cell? w _ hx16001_1)).trans hx16001_1
                replace hx16001_2 := (HB.out.cell (World.block_lt_of_cell? w _ hx16001_2)).trans hx16001_2
                replace p16001 := eq_true p16001
                replace q16001 := eq_true q16001
                have p16002 : 0 ≤ (x5_1 : Int) := of_decide_eq_true (by first | (with_reducible assumption) | assumption)
                have q16002 : x5_1 < (l1.length : Int) := of_decide_eq_true (by first | (with_reducible assumption) | assumption)
                obtain ⟨ad16002, e16002, hx16002_0, hx16002_1, hx16002_2⟩ := at_T47 HR1.out x5_1 p16002 q16002
                have hw16002_2 := hx16002_2
                have hw16002_1 := hx16002_1
                have hw16002_0 := hx16002_0
                cases e16002
                replace hx16002_0 := (HB.out.cell (World.block_lt_of_cell? w _ hx16002_0)).trans hx16002_0
                replace hx16002_1 := (HB.out.cell (World.block_lt_of_cell? w _ hx16002_1)).trans hx16002_1
                replace hx16002_2 := (HB.out.cell (World.block_lt_of_cell? w _ hx16002_2)).trans hx16002_2
                replace p16002 := eq_true p16002
                replace q16002 := eq_true q16002
                refine start_ (n := 10) (S := fun w' => w'.cell? (ad16001.add ((x5_1).toNat * 3)) = some (.int .i64 ((rd_T47 l0 x5_1).f0)) ∧ w'.cell? ⟨(ad16001.add ((x5_1).toNat * 3)).block, (ad16001.add ((x5_1).toNat * 3)).off + 1, none⟩ = some (.int .i64 ((rd_T47 l0 x5_1).f1)) ∧ w'.cell? ⟨(ad16001.add ((x5_1).toNat * 3)).block, (ad16001.add ((x5_1).toNat * 3)).off + 2, none⟩ = some (.int .i64 ((rd_T47 l0 x5_1).f2)) ∧ w'.cell? (ad16002.add ((x5_1).toNat * 3)) = some (.int .i64 ((rd_T47 l1 x5_1).f0)) ∧ w'.cell? ⟨(ad16002.add ((x5_1).toNat * 3)).block, (ad16002.add ((x5_1).toNat * 3)).off + 1, none⟩ = some (.int .i64 ((rd_T47 l1 x5_1).f1)) ∧ w'.cell? ⟨(ad16002.add ((x5_1).toNat * 3)).block, (ad16002.add ((x5_1).toNat * 3)).off + 2, none⟩ = some (.int .i64 ((rd_T47 l1 x5_1).f2))) (ds := []) #[false, false, false, false, false, false, false, false, false, false] (by kernel_rfl) rfl rfl ⟨((HB.out.cell (World.block_lt_of_cell? w _ hw16001_0)).trans hw16001_0), ((HB.out.cell (World.block_lt_of_cell? w _ hw16001_1)).trans hw16001_1), ((HB.out.cell (World.block_lt_of_cell? w _ hw16001_2)).trans hw16001_2), ((HB.out.cell (World.block_lt_of_cell? w _ hw16002_0)).trans hw16002_0), ((HB.out.cell (World.block_lt_of_cell? w _ hw16002_1)).trans hw16002_1), ((HB.out.cell (World.block_lt_of_cell? w _ hw16002_2)).trans hw16002_2)⟩ (fun hHeld => ?_); refine with_tabW laws_eqRunS.tab6 laws_eqRunS.bits6 (fun HT_ HW_ => ?_)
                generalize wr.drew = w9 at HB hx16001_0 hx16001_1 hx16001_2 hx16002_0 hx16002_1 hx16002_2 hHeld ⊢
                refine pure_ (i := 0) (N := some 17) (v := ?_) (a' := ?_) #[true, false, false, false, false, false, false, false, false, false] rfl rfl (any_of HT_.out (by kernel_rfl)) (fun _ _ _ h => h) (Or.inl ⟨by rfl, ?_⟩) ?_ ?_
                rotate_left
                · intro w'
                  go_simp
                  with_reducible rfl
                rotate_left
                · simp only [Act.put, List.setIfInBounds_toArray, List.set_cons_zero, List.set_cons_succ, i64_w, i32_w]
                  rfl
                refine pure_ (i := 1) (N := some 18) (v := ?_) (a' := ?_) #[true, true, false, false, false, false, false, false, false, false] rfl rfl (any_of HT_.out (by kernel_rfl)) (fun _ _ _ h => h) (Or.inl ⟨by rfl, ?_⟩) ?_ ?_
                rotate_left
                · intro w'
                  go_simp
                  with_reducible rfl
                rotate_left
                · simp only [Act.put, List.setIfInBounds_toArray, List.set_cons_zero, List.set_cons_succ, i64_w, i32_w]
                  rfl
                refine pure_ (i := 2) (N := some 19) (v := ?_) (a' := ?_) #[true, true, true, false, false, false, false, false, false, false] rfl rfl (any_of HT_.out (by kernel_rfl)) (fun _ _ _ h => h) (Or.inl ⟨by rfl, ?_⟩) ?_ ?_
                rotate_left
                · intro w'
                  go_simp
                  with_reducible rfl
                rotate_left
                · simp only [Act.put, List.setIfInBounds_toArray, List.set_cons_zero, List.set_cons_succ, i64_w, i32_w]
                  rfl
                refine pure_ (i := 4) (N := some 21) (v := ?_) (a' := ?_) #[true, true, true, false, true, false, false, false, false, false] rfl rfl (any_of HT_.out (by kernel_rfl)) (fun _ _ _ h => h) (Or.inl ⟨by rfl, ?_⟩) ?_ ?_
                rotate_left
                · intro w'
                  go_simp
                  with_reducible rfl
                rotate_left
                · simp only [Act.put, List.setIfInBounds_toArray, List.set_cons_zero, List.set_cons_succ, i64_w, i32_w]
                  rfl
                refine pure_ (i := 5) (N := some 22) (v := ?_) (a' := ?_) #[true, true, true, false, true, true, false, false, false, false] rfl rfl (any_of HT_.out (by kernel_rfl)) (fun _ _ _ h => h) (Or.inl ⟨by rfl, ?_⟩) ?_ ?_
                rotate_left
                · intro w'
                  go_simp
                  with_reducible rfl
                rotate_left
                · simp only [Act.put, List.setIfInBounds_toArray, List.set_cons_zero, List.set_cons_succ, i64_w, i32_w]
                  rfl
                refine pure_ (i := 6) (N := some 23) (v := ?_) (a' := ?_) #[true, true, true, false, true, true, true, false, false, false] rfl rfl (any_of HT_.out (by kernel_rfl)) (fun _ _ _ h => h) (Or.inl ⟨by rfl, ?_⟩) ?_ ?_
                rotate_left
                · intro w'
                  go_simp
                  with_reducible rfl
                rotate_left
                · simp only [Act.put, List.setIfInBounds_toArray, List.set_cons_zero, List.set_cons_succ, i64_w, i32_w]
                  rfl
                refine take_ (i := 3) (N := some 20) (v := ?_) (a' := ?_) #[true, true, true, true, true, true, true, false, false, false] rfl rfl (take_ofW HT_.out HW_.out (by kernel_rfl)) (fun _ _ _ h => h) (Or.inl ⟨by rfl, ?_⟩) hHeld ?_ ?_
                rotate_left
                · rintro w' ⟨s0, s1, s2, s3, s4, s5⟩
                  go_simp
                  with_reducible rfl
                rotate_left
                · simp only [Act.put, List.setIfInBounds_toArray, List.set_cons_zero, List.set_cons_succ, i64_w, i32_w]
                  rfl
                refine take_ (i := 7) (N := some 24) (v := ?_) (a' := ?_) #[true, true, true, true, true, true, true, true, false, false] rfl rfl (take_ofW HT_.out HW_.out (by kernel_rfl)) (fun _ _ _ h => h) (Or.inl ⟨by rfl, ?_⟩) hHeld ?_ ?_
                rotate_left
                · rintro w' ⟨s0, s1, s2, s3, s4, s5⟩
                  go_simp
                  with_reducible rfl
                rotate_left
                · simp only [Act.put, List.setIfInBounds_toArray, List.set_cons_zero, List.set_cons_succ, i64_w, i32_w]
                  rfl
                refine one_ (i := 8) (N := some 25) #[true, true, true, true, true, true, true, true, true, false] rfl rfl (one_of HT_.out (by kernel_rfl)) (by decide) (fun K hK => ?_)
                refine goes_ Try.func51 (by kernel_rfl) rfl #[.agg #[.int .i64 ((rd_T47 l0 x5_1).f0), .int .i64 ((rd_T47 l0 x5_1).f1), .int .i64 ((rd_T47 l0 x5_1).f2)], .agg #[.int .i64 ((rd_T47 l1 x5_1).f0), .int .i64 ((rd_T47 l1 x5_1).f1), .int .i64 ((rd_T47 l1 x5_1).f2)]] (by rfl) rfl rfl (by (try simp only [List.map_toArray, List.map_cons, List.map_nil]); first | done | rfl | (simp only [List.length_drop, List.length_take]; rfl)) ?_
                with_reducible refine (laws_eqRun.calls ((rd_T47 l0 x5_1).f0) ((rd_T47 l0 x5_1).f1) ((rd_T47 l0 x5_1).f2) ((rd_T47 l1 x5_1).f0) ((rd_T47 l1 x5_1).f1) ((rd_T47 l1 x5_1).f2) true _ A7.out).mono ?_
                rintro e w10 ⟨rfl, hb⟩
                refine ⟨_, rfl, ?_⟩
                have n0_ := Aside0.mk (below_step (by repeat (first | (with_reducible first | exact HB.out | apply below_alloc | apply pw_below_drewN | apply below_drew1) | exact HB.out)) hb)
                clear HB
                have HB := n0_
                clear n0_
                (try clear hb)
                (try clear hb2)
                (try clear hk)
                (try clear hi)
                refine hK.out _ _ ⟨((HB.out.cell (World.block_lt_of_cell? w _ hw16001_0)).trans hw16001_0), ((HB.out.cell (World.block_lt_of_cell? w _ hw16001_1)).trans hw16001_1), ((HB.out.cell (World.block_lt_of_cell? w _ hw16001_2)).trans hw16001_2), ((HB.out.cell (World.block_lt_of_cell? w _ hw16002_0)).trans hw16002_0), ((HB.out.cell (World.block_lt_of_cell? w _ hw16002_1)).trans hw16002_1), ((HB.out.cell (World.block_lt_of_cell? w _ hw16002_2)).trans hw16002_2)⟩ (fun hHeld => ?_)
                clear hK K
                refine norm_ (a' := ?_) ?_ ?_
                rotate_left
                · show Act.put _ (some 25) _ = _
                  simp only [Act.put, List.setIfInBounds_toArray, List.set_cons_zero, List.set_cons_succ, i64_w, i32_w]
                  rfl
                refine pure_ (i := 9) (N := some 26) (v := ?_) (a' := ?_) #[true, true, true, true, true, true, true, true, true, true] rfl rfl (any_of HT_.out (by kernel_rfl)) (fun _ _ _ h => h) (Or.inl ⟨by rfl, ?_⟩) ?_ ?_
                rotate_left
                · intro w'
                  go_simp
                  with_reducible rfl
                rotate_left
                · simp only [Act.put, List.setIfInBounds_toArray, List.set_cons_zero, List.set_cons_succ, i64_w, i32_w]
                  rfl
                refine done_ (done_of HT_.out (by kernel_rfl)) ?_
                try go_wp2
                go_roundg k1
                case measure => have := HK1.out; omega
                case rel => exact ⟨(wrap64 (x5_1 + 1)), (by first | rfl | (simp; done) | (simp [*]; done)), H', ⟨by have := HK1.out; omega⟩, ⟨by repeat (first | (with_reducible first | exact HB.out | apply below_alloc | apply pw_below_drewN | apply below_drew1) | exact HB.out)⟩⟩
              · replace c8 := Bool.eq_false_iff.mpr c8
                subst c8
                have H1 : (some false) = some r := by rw [if_neg (show ¬ (false = true) by decide)] at H; exact H
                clear H
                have H := H1
                clear H1
                obtain rfl := Option.some.inj H
                try go_wp2
                have n0_ := Aside0.mk (below_drew1 HB.out)
                clear HB
                have HB := n0_
                clear n0_
                have p16001 : 0 ≤ (x5_1 : Int) := of_decide_eq_true (by first | (with_reducible assumption) | assumption)
                have q16001 : x5_1 < (l0.length : Int) := of_decide_eq_true (by first | (with_reducible assumption) | assumption)
                obtain ⟨ad16001, e16001, hx16001_0, hx16001_1, hx16001_2⟩ := at_T47 HR0.out x5_1 p16001 q16001
                have hw16001_2 := hx16001_2
                have hw16001_1 := hx16001_1
                have hw16001_0 := hx16001_0
                cases e16001
                replace hx16001_0 := (HB.out.cell (World.block_lt_of_cell? w _ hx16001_0)).trans hx16001_0
                replace hx16001_1 := (HB.out.cell (World.block_lt_of_cell? w _ hx16001_1)).trans hx16001_1
                replace hx16001_2 := (HB.out.cell (World.block_lt_of_cell? w _ hx16001_2)).trans hx16001_2
                replace p16001 := eq_true p16001
                replace q16001 := eq_true q16001
                have p16002 : 0 ≤ (x5_1 : Int) := of_decide_eq_true (by first | (with_reducible assumption) | assumption)
                have q16002 : x5_1 < (l1.length : Int) := of_decide_eq_true (by first | (with_reducible assumption) | assumption)
                obtain ⟨ad16002, e16002, hx16002_0, hx16002_1, hx16002_2⟩ := at_T47 HR1.out x5_1 p16002 q16002
                have hw16002_2 := hx16002_2
                have hw16002_1 := hx16002_1
                have hw16002_0 := hx16002_0
                cases e16002
                replace hx16002_0 := (HB.out.cell (World.block_lt_of_cell? w _ hx16002_0)).trans hx16002_0
                replace hx16002_1 := (HB.out.cell (World.block_lt_of_cell? w _ hx16002_1)).trans hx16002_1
                replace hx16002_2 := (HB.out.cell (World.block_lt_of_cell? w _ hx16002_2)).trans hx16002_2
                replace p16002 := eq_true p16002
                replace q16002 := eq_true q16002
                refine start_ (n := 10) (S := fun w' => w'.cell? (ad16001.add ((x5_1).toNat * 3)) = some (.int .i64 ((rd_T47 l0 x5_1).f0)) ∧ w'.cell? ⟨(ad16001.add ((x5_1).toNat * 3)).block, (ad16001.add ((x5_1).toNat * 3)).off + 1, none⟩ = some (.int .i64 ((rd_T47 l0 x5_1).f1)) ∧ w'.cell? ⟨(ad16001.add ((x5_1).toNat * 3)).block, (ad16001.add ((x5_1).toNat * 3)).off + 2, none⟩ = some (.int .i64 ((rd_T47 l0 x5_1).f2)) ∧ w'.cell? (ad16002.add ((x5_1).toNat * 3)) = some (.int .i64 ((rd_T47 l1 x5_1).f0)) ∧ w'.cell? ⟨(ad16002.add ((x5_1).toNat * 3)).block, (ad16002.add ((x5_1).toNat * 3)).off + 1, none⟩ = some (.int .i64 ((rd_T47 l1 x5_1).f1)) ∧ w'.cell? ⟨(ad16002.add ((x5_1).toNat * 3)).block, (ad16002.add ((x5_1).toNat * 3)).off + 2, none⟩ = some (.int .i64 ((rd_T47 l1 x5_1).f2))) (ds := []) #[false, false, false, false, false, false, false, false, false, false] (by kernel_rfl) rfl rfl ⟨((HB.out.cell (World.block_lt_of_cell? w _ hw16001_0)).trans hw16001_0), ((HB.out.cell (World.block_lt_of_cell? w _ hw16001_1)).trans hw16001_1), ((HB.out.cell (World.block_lt_of_cell? w _ hw16001_2)).trans hw16001_2), ((HB.out.cell (World.block_lt_of_cell? w _ hw16002_0)).trans hw16002_0), ((HB.out.cell (World.block_lt_of_cell? w _ hw16002_1)).trans hw16002_1), ((HB.out.cell (World.block_lt_of_cell? w _ hw16002_2)).trans hw16002_2)⟩ (fun hHeld => ?_); refine with_tabW laws_eqRunS.tab6 laws_eqRunS.bits6 (fun HT_ HW_ => ?_)
                generalize wr.drew = w11 at HB hx16001_0 hx16001_1 hx16001_2 hx16002_0 hx16002_1 hx16002_2 hHeld ⊢
                refine pure_ (i := 0) (N := some 17) (v := ?_) (a' := ?_) #[true, false, false, false, false, false, false, false, false, false] rfl rfl (any_of HT_.out (by kernel_rfl)) (fun _ _ _ h => h) (Or.inl ⟨by rfl, ?_⟩) ?_ ?_
                rotate_left
                · intro w'
                  go_simp
                  with_reducible rfl
                rotate_left
                · simp only [Act.put, List.setIfInBounds_toArray, List.set_cons_zero, List.set_cons_succ, i64_w, i32_w]
                  rfl
                refine pure_ (i := 1) (N := some 18) (v := ?_) (a' := ?_) #[true, true, false, false, false, false, false, false, false, false] rfl rfl (any_of HT_.out (by kernel_rfl)) (fun _ _ _ h => h) (Or.inl ⟨by rfl, ?_⟩) ?_ ?_
                rotate_left
                · intro w'
                  go_simp
                  with_reducible rfl
                rotate_left
                · simp only [Act.put, List.setIfInBounds_toArray, List.set_cons_zero, List.set_cons_succ, i64_w, i32_w]
                  rfl
                refine pure_ (i := 2) (N := some 19) (v := ?_) (a' := ?_) #[true, true, true, false, false, false, false, false, false, false] rfl rfl (any_of HT_.out (by kernel_rfl)) (fun _ _ _ h => h) (Or.inl ⟨by rfl, ?_⟩) ?_ ?_
                rotate_left
                · intro w'
                  go_simp
                  with_reducible rfl
                rotate_left
                · simp only [Act.put, List.setIfInBounds_toArray, List.set_cons_zero, List.set_cons_succ, i64_w, i32_w]
                  rfl
                refine pure_ (i := 4) (N := some 21) (v := ?_) (a' := ?_) #[true, true, true, false, true, false, false, false, false, false] rfl rfl (any_of HT_.out (by kernel_rfl)) (fun _ _ _ h => h) (Or.inl ⟨by rfl, ?_⟩) ?_ ?_
                rotate_left
                · intro w'
                  go_simp
                  with_reducible rfl
                rotate_left
                · simp only [Act.put, List.setIfInBounds_toArray, List.set_cons_zero, List.set_cons_succ, i64_w, i32_w]
                  rfl
                refine pure_ (i := 5) (N := some 22) (v := ?_) (a' := ?_) #[true, true, true, false, true, true, false, false, false, false] rfl rfl (any_of HT_.out (by kernel_rfl)) (fun _ _ _ h => h) (Or.inl ⟨by rfl, ?_⟩) ?_ ?_
                rotate_left
                · intro w'
                  go_simp
                  with_reducible rfl
                rotate_left
                · simp only [Act.put, List.setIfInBounds_toArray, List.set_cons_zero, List.set_cons_succ, i64_w, i32_w]
                  rfl
                refine pure_ (i := 6) (N := some 23) (v := ?_) (a' := ?_) #[true, true, true, false, true, true, true, false, false, false] rfl rfl (any_of HT_.out (by kernel_rfl)) (fun _ _ _ h => h) (Or.inl ⟨by rfl, ?_⟩) ?_ ?_
                rotate_left
                · intro w'
                  go_simp
                  with_reducible rfl
                rotate_left
                · simp only [Act.put, List.setIfInBounds_toArray, List.set_cons_zero, List.set_cons_succ, i64_w, i32_w]
                  rfl
                refine take_ (i := 3) (N := some 20) (v := ?_) (a' := ?_) #[true, true, true, true, true, true, true, false, false, false] rfl rfl (take_ofW HT_.out HW_.out (by kernel_rfl)) (fun _ _ _ h => h) (Or.inl ⟨by rfl, ?_⟩) hHeld ?_ ?_
                rotate_left
                · rintro w' ⟨s0, s1, s2, s3, s4, s5⟩
                  go_simp
                  with_reducible rfl
                rotate_left
                · simp only [Act.put, List.setIfInBounds_toArray, List.set_cons_zero, List.set_cons_succ, i64_w, i32_w]
                  rfl
                refine take_ (i := 7) (N := some 24) (v := ?_) (a' := ?_) #[true, true, true, true, true, true, true, true, false, false] rfl rfl (take_ofW HT_.out HW_.out (by kernel_rfl)) (fun _ _ _ h => h) (Or.inl ⟨by rfl, ?_⟩) hHeld ?_ ?_
                rotate_left
                · rintro w' ⟨s0, s1, s2, s3, s4, s5⟩
                  go_simp
                  with_reducible rfl
                rotate_left
                · simp only [Act.put, List.setIfInBounds_toArray, List.set_cons_zero, List.set_cons_succ, i64_w, i32_w]
                  rfl
                refine one_ (i := 8) (N := some 25) #[true, true, true, true, true, true, true, true, true, false] rfl rfl (one_of HT_.out (by kernel_rfl)) (by decide) (fun K hK => ?_)
                refine goes_ Try.func51 (by kernel_rfl) rfl #[.agg #[.int .i64 ((rd_T47 l0 x5_1).f0), .int .i64 ((rd_T47 l0 x5_1).f1), .int .i64 ((rd_T47 l0 x5_1).f2)], .agg #[.int .i64 ((rd_T47 l1 x5_1).f0), .int .i64 ((rd_T47 l1 x5_1).f1), .int .i64 ((rd_T47 l1 x5_1).f2)]] (by rfl) rfl rfl (by (try simp only [List.map_toArray, List.map_cons, List.map_nil]); first | done | rfl | (simp only [List.length_drop, List.length_take]; rfl)) ?_
                with_reducible refine (laws_eqRun.calls ((rd_T47 l0 x5_1).f0) ((rd_T47 l0 x5_1).f1) ((rd_T47 l0 x5_1).f2) ((rd_T47 l1 x5_1).f0) ((rd_T47 l1 x5_1).f1) ((rd_T47 l1 x5_1).f2) false _ A7.out).mono ?_
                rintro e w12 ⟨rfl, hb⟩
                refine ⟨_, rfl, ?_⟩
                have n0_ := Aside0.mk (below_step (by repeat (first | (with_reducible first | exact HB.out | apply below_alloc | apply pw_below_drewN | apply below_drew1) | exact HB.out)) hb)
                clear HB
                have HB := n0_
                clear n0_
                (try clear hb)
                (try clear hb2)
                (try clear hk)
                (try clear hi)
                refine hK.out _ _ ⟨((HB.out.cell (World.block_lt_of_cell? w _ hw16001_0)).trans hw16001_0), ((HB.out.cell (World.block_lt_of_cell? w _ hw16001_1)).trans hw16001_1), ((HB.out.cell (World.block_lt_of_cell? w _ hw16001_2)).trans hw16001_2), ((HB.out.cell (World.block_lt_of_cell? w _ hw16002_0)).trans hw16002_0), ((HB.out.cell (World.block_lt_of_cell? w _ hw16002_1)).trans hw16002_1), ((HB.out.cell (World.block_lt_of_cell? w _ hw16002_2)).trans hw16002_2)⟩ (fun hHeld => ?_)
                clear hK K
                refine norm_ (a' := ?_) ?_ ?_
                rotate_left
                · show Act.put _ (some 25) _ = _
                  simp only [Act.put, List.setIfInBounds_toArray, List.set_cons_zero, List.set_cons_succ, i64_w, i32_w]
                  rfl
                refine pure_ (i := 9) (N := some 26) (v := ?_) (a' := ?_) #[true, true, true, true, true, true, true, true, true, true] rfl rfl (any_of HT_.out (by kernel_rfl)) (fun _ _ _ h => h) (Or.inl ⟨by rfl, ?_⟩) ?_ ?_
                rotate_left
                · intro w'
                  go_simp
                  with_reducible rfl
                rotate_left
                · simp only [Act.put, List.setIfInBounds_toArray, List.set_cons_zero, List.set_cons_succ, i64_w, i32_w]
                  rfl
                refine done_ (done_of HT_.out (by kernel_rfl)) ?_
                try go_wp2
                go_ret
                exact ⟨by first | rfl | (simp [errW_none, errW_some] <;> rfl) | (simp [*, errW_none, errW_some] <;> rfl), by repeat (first | (with_reducible first | exact HB.out | apply below_alloc | apply pw_below_drewN | apply below_drew1) | exact HB.out)⟩
            · rw [if_neg c6] at H
              exact absurd H (by simp)
          · rw [if_neg c5] at H
            exact absurd H (by simp)
        · rw [if_neg c4] at H
          have c4b0 : decide (x5_1 < (l0.length : Int)) = false := decide_eq_false c4
          clear c4
          obtain rfl := Option.some.inj H
          go_wp2
          go_ret
          exact ⟨by first | rfl | (simp [errW_none, errW_some] <;> rfl) | (simp [*, errW_none, errW_some] <;> rfl), by repeat (first | (with_reducible first | exact HB.out | apply below_alloc | apply pw_below_drewN | apply below_drew1) | exact HB.out)⟩
  · rw [if_neg c3] at H
    have c3b0 : ((l0.length : Int) == (l1.length : Int)) = false := beq_eq_false_iff_ne.mpr c3
    have c3b1 : ((l0.length : Int) != (l1.length : Int)) = true := bne_iff_ne.mpr c3
    have c3b2 : (l0.length == l1.length) = false := by first | simpa using c3 | (simp at c3 ⊢; omega)
    obtain rfl := Option.some.inj H
    go_enter Try.func15, Try.ntmps15
    go_wp2
    go_ret
    exact ⟨by first | rfl | (simp [errW_none, errW_some] <;> rfl) | (simp [*, errW_none, errW_some] <;> rfl), by repeat (first | (with_reducible first | exact HB.out | apply below_alloc | apply pw_below_drewN | apply below_drew1) | exact HB.out)⟩

end Go.Proofs.Ytbgohbinonkhfaa.Q
