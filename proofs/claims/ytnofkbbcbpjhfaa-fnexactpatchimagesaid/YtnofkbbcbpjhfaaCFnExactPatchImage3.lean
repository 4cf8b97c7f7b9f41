/- A part of the proof that the statement FnExactPatchImageSaid holds, under no condition of its own: The program's PatchImage and the reference's return the same, and what is returned is held by nobody else: over lists of numbers alone. -/
import Derived.Test.YtnofkbbcbpjhfaaCFnExactPatchImage1
import Derived.Test.YtnofkbbcbpjhfaaCFnExactPatchImage2
import Derived.Deep.WholeRow
import Derived.Deep.RegionWith
import Derived.OrdersHeld
import Derived.Deep.RegionHeld
import Derived.RegionTactic
namespace Go.Proofs.Ytnofkbbcbpjhfaa.Q
open Go.RowKit Go.Proofs.YtnofkbbcbpjhfaaW.PrintWords Go.Proofs.YtnofkbbcbpjhfaaW.PrintLast Go.Proofs.YtnofkbbcbpjhfaaW.PrintMore
attribute [local go_sem] max2_int min2_int max_two min_two max_three min_three max_four min_four
set_option linter.unusedVariables false
set_option linter.unusedSimpArgs false
def impl_alikeImages.f (a0_0 : Int) (a0_1 : Int) (a0_2 : Int) (l0_3 : List Int) (a1_0 : Int) (a1_1 : Int) (a1_2 : Int) (l1_3 : List Int) : Option (Bool) := if a0_0 = a1_0 then (if a0_1 = a1_1 then (some (a0_2 == a1_2)) else (some false)) else (some false)
set_option maxHeartbeats 8000000 in
set_option maxRecDepth 100000 in
theorem impl_alikeImages.calls (a0_0 : Int) (a0_1 : Int) (a0_2 : Int) (A0_3 : Option Addr) (c0_3 : Nat) (l0_3 : List Int) (a1_0 : Int) (a1_1 : Int) (a1_2 : Int) (A1_3 : Option Addr) (c1_3 : Nat) (l1_3 : List Int) (r : Bool) (w : World) (hr0_3 : Kd.C (Kd.int .i64) w A0_3 l0_3.length l0_3) (hc0_3 : l0_3.length ≤ c0_3) (hr1_3 : Kd.C (Kd.int .i64) w A1_3 l1_3.length l1_3) (hc1_3 : l1_3.length ≤ c1_3) (h : impl_alikeImages.f a0_0 a0_1 a0_2 l0_3 a1_0 a1_1 a1_2 l1_3 = some r) :
    Calls Try.prog 84 #[.agg #[.int .i64 a0_0, .int .i64 a0_1, .int .i64 a0_2, .slice A0_3 l0_3.length c0_3], .agg #[.int .i64 a1_0, .int .i64 a1_1, .int .i64 a1_2, .slice A1_3 l1_3.length c1_3]] w fun e w' => e = .returned (.bool r) ∧ Below w.heap.size w w' := by
  have hu27 := Try.underlying27
  have HR0_3 := Aside0.mk hr0_3
  have HC0_3 := Aside0.mk hc0_3
  clear hr0_3 hc0_3
  have HR1_3 := Aside0.mk hr1_3
  have HC1_3 := Aside0.mk hc1_3
  clear hr1_3 hc1_3
  have HB := Aside0.mk (Below.refl w.heap.size w)
  have H : (if a0_0 = a1_0 then (if a0_1 = a1_1 then (some (a0_2 == a1_2)) else (some false)) else (some false)) = some r := h
  clear h
  by_cases c3 : a0_0 = a1_0
  · rw [if_pos c3] at H
    have c3b0 : (a0_0 == a1_0) = true := beq_iff_eq.mpr c3
    have c3b1 : (a0_0 != a1_0) = false := bne_eq_false_iff_eq.mpr c3
    clear c3
    by_cases c4 : a0_1 = a1_1
    · rw [if_pos c4] at H
      have c4b0 : (a0_1 == a1_1) = true := beq_iff_eq.mpr c4
      have c4b1 : (a0_1 != a1_1) = false := bne_eq_false_iff_eq.mpr c4
      clear c4
      obtain rfl := Option.some.inj H
      go_enter Try.func84, Try.ntmps84
      go_wp2_with (first | ((with_reducible refine gate_dst (N := 2) rfl ?_); refine box_event ?hg (N := 2) ?hd (cs := #[.int .i64 a0_0, .int .i64 a0_1, .int .i64 a0_2, .slice A0_3 l0_3.length c0_3]) (t := 27) ?hr ?_; (case hd => rfl); (case hg => rfl); (case hr => first | (go_simp; done) | (go_simp; rfl)); intro gb85001 hg w5 hbox hb; have n0_ := Aside0.mk (below_step (by repeat (first | (with_reducible first | exact HB.out | apply below_alloc | apply pw_below_drewN | apply below_drew1) | exact HB.out)) hb); have n1_ := Aside0.mk (hbox); have n2_ := Aside0.mk ((by rw [hg]; exact (below_size (by repeat (first | (with_reducible first | exact HB.out | apply below_alloc | apply pw_below_drewN | apply below_drew1) | exact HB.out))) : w.heap.size ≤ gb85001)); have n3_ := Aside0.mk ((by rw [hg]; exact (below_size (by repeat (first | (with_reducible first | exact HB.out | apply below_alloc | apply pw_below_drewN | apply below_drew1) | exact HB.out))) : w.heap.size ≤ gb85001)); clear HB; have HB := n0_; have BK85001 := n1_; have GW85001 := n2_; have GE85001 := n3_; clear n0_ n1_ n2_ n3_; clear hb hbox hg) | ((with_reducible refine gate_dst (N := 3) rfl ?_); refine box_event ?hg (N := 3) ?hd (cs := #[.int .i64 a1_0, .int .i64 a1_1, .int .i64 a1_2, .slice A1_3 l1_3.length c1_3]) (t := 27) ?hr ?_; (case hd => rfl); (case hg => rfl); (case hr => first | (go_simp; done) | (go_simp; rfl)); intro gb85002 hg w6 hbox hb; have n0_ := Aside0.mk (blk_below (g := gb85001) (o := .cells #[.int .i64 a0_0, .int .i64 a0_1, .int .i64 a0_2, .slice A0_3 l0_3.length c0_3] 27 (0, 0)) (by (with_reducible repeat (first | refine blk_drewN ?_ _ | refine blk_drew ?_ | refine blk_alloc ?_ _)); exact BK85001.out) hb); have n1_ := Aside0.mk (below_step (by repeat (first | (with_reducible first | exact HB.out | apply below_alloc | apply pw_below_drewN | apply below_drew1 | refine below_set ?_ GE85001.out) | exact HB.out)) hb); have n2_ := Aside0.mk (hbox); have n3_ := Aside0.mk ((by rw [hg]; exact (below_size (by repeat (first | (with_reducible first | exact HB.out | apply below_alloc | apply pw_below_drewN | apply below_drew1 | refine below_set ?_ GE85001.out) | exact HB.out))) : w.heap.size ≤ gb85002)); have n4_ := Aside0.mk ((by rw [hg]; exact (below_size (by repeat (first | (with_reducible first | exact HB.out | apply below_alloc | apply pw_below_drewN | apply below_drew1 | refine below_set ?_ GE85001.out) | exact HB.out))) : w.heap.size ≤ gb85002)); have n5_ := Aside0.mk ((by rw [hg]; exact Nat.ne_of_lt (blk_lt (g := gb85001) (o := .cells #[.int .i64 a0_0, .int .i64 a0_1, .int .i64 a0_2, .slice A0_3 l0_3.length c0_3] 27 (0, 0)) (by (with_reducible repeat (first | refine blk_drewN ?_ _ | refine blk_drew ?_ | refine blk_alloc ?_ _)); exact BK85001.out)) : gb85001 ≠ gb85002)); have n6_ := Aside0.mk ((by rw [hg]; exact Nat.ne_of_gt (blk_lt (g := gb85001) (o := .cells #[.int .i64 a0_0, .int .i64 a0_1, .int .i64 a0_2, .slice A0_3 l0_3.length c0_3] 27 (0, 0)) (by (with_reducible repeat (first | refine blk_drewN ?_ _ | refine blk_drew ?_ | refine blk_alloc ?_ _)); exact BK85001.out)) : gb85002 ≠ gb85001)); clear BK85001; clear HB; have BK85001 := n0_; have HB := n1_; have BK85002 := n2_; have GW85002 := n3_; have GE85002 := n4_; have NB85001_85002 := n5_; have NB85002_85001 := n6_; clear n0_ n1_ n2_ n3_ n4_ n5_ n6_; clear hb hbox hg; have hnb7 := NB85001_85002.out; have hnc7 := NB85002_85001.out; have hcz8_0 : w6.cell? ⟨gb85001, 0, none⟩ = some (.int .i64 a0_0) := (blk_cell BK85001.out 0).trans rfl; have hcz8_1 : w6.cell? ⟨gb85001, 1, none⟩ = some (.int .i64 a0_1) := (blk_cell BK85001.out 1).trans rfl; have hcz8_2 : w6.cell? ⟨gb85001, 2, none⟩ = some (.int .i64 a0_2) := (blk_cell BK85001.out 2).trans rfl; have hcz8_3 : w6.cell? ⟨gb85001, 3, none⟩ = some (.slice A0_3 l0_3.length c0_3) := (blk_cell BK85001.out 3).trans rfl; have hfz8_0 := blk_frozen BK85001.out 0; have hfz8_1 := blk_frozen BK85001.out 1; have hfz8_2 := blk_frozen BK85001.out 2; have hfz8_3 := blk_frozen BK85001.out 3; have hcz9_0 : w6.cell? ⟨gb85002, 0, none⟩ = some (.int .i64 a1_0) := (blk_cell BK85002.out 0).trans rfl; have hcz9_1 : w6.cell? ⟨gb85002, 1, none⟩ = some (.int .i64 a1_1) := (blk_cell BK85002.out 1).trans rfl; have hcz9_2 : w6.cell? ⟨gb85002, 2, none⟩ = some (.int .i64 a1_2) := (blk_cell BK85002.out 2).trans rfl; have hcz9_3 : w6.cell? ⟨gb85002, 3, none⟩ = some (.slice A1_3 l1_3.length c1_3) := (blk_cell BK85002.out 3).trans rfl; have hfz9_0 := blk_frozen BK85002.out 0; have hfz9_1 := blk_frozen BK85002.out 1; have hfz9_2 := blk_frozen BK85002.out 2; have hfz9_3 := blk_frozen BK85002.out 3))
      go_ret
      exact ⟨by first | rfl | (simp [errW_none, errW_some] <;> rfl) | (simp [*, errW_none, errW_some] <;> rfl), by repeat (first | (with_reducible first | exact HB.out | apply below_alloc | apply pw_below_drewN | apply below_drew1 | refine below_set ?_ GE85001.out | refine below_set ?_ GE85002.out) | exact HB.out)⟩
    · rw [if_neg c4] at H
      have c4b0 : (a0_1 == a1_1) = false := beq_eq_false_iff_ne.mpr c4
      have c4b1 : (a0_1 != a1_1) = true := bne_iff_ne.mpr c4
      obtain rfl := Option.some.inj H
      go_enter Try.func84, Try.ntmps84
      go_wp2_with (first | ((with_reducible refine gate_dst (N := 2) rfl ?_); refine box_event ?hg (N := 2) ?hd (cs := #[.int .i64 a0_0, .int .i64 a0_1, .int .i64 a0_2, .slice A0_3 l0_3.length c0_3]) (t := 27) ?hr ?_; (case hd => rfl); (case hg => rfl); (case hr => first | (go_simp; done) | (go_simp; rfl)); intro gb85001 hg w10 hbox hb; have n0_ := Aside0.mk (below_step (by repeat (first | (with_reducible first | exact HB.out | apply below_alloc | apply pw_below_drewN | apply below_drew1) | exact HB.out)) hb); have n1_ := Aside0.mk (hbox); have n2_ := Aside0.mk ((by rw [hg]; exact (below_size (by repeat (first | (with_reducible first | exact HB.out | apply below_alloc | apply pw_below_drewN | apply below_drew1) | exact HB.out))) : w.heap.size ≤ gb85001)); have n3_ := Aside0.mk ((by rw [hg]; exact (below_size (by repeat (first | (with_reducible first | exact HB.out | apply below_alloc | apply pw_below_drewN | apply below_drew1) | exact HB.out))) : w.heap.size ≤ gb85001)); clear HB; have HB := n0_; have BK85001 := n1_; have GW85001 := n2_; have GE85001 := n3_; clear n0_ n1_ n2_ n3_; clear hb hbox hg) | ((with_reducible refine gate_dst (N := 3) rfl ?_); refine box_event ?hg (N := 3) ?hd (cs := #[.int .i64 a1_0, .int .i64 a1_1, .int .i64 a1_2, .slice A1_3 l1_3.length c1_3]) (t := 27) ?hr ?_; (case hd => rfl); (case hg => rfl); (case hr => first | (go_simp; done) | (go_simp; rfl)); intro gb85002 hg w11 hbox hb; have n0_ := Aside0.mk (blk_below (g := gb85001) (o := .cells #[.int .i64 a0_0, .int .i64 a0_1, .int .i64 a0_2, .slice A0_3 l0_3.length c0_3] 27 (0, 0)) (by (with_reducible repeat (first | refine blk_drewN ?_ _ | refine blk_drew ?_ | refine blk_alloc ?_ _)); exact BK85001.out) hb); have n1_ := Aside0.mk (below_step (by repeat (first | (with_reducible first | exact HB.out | apply below_alloc | apply pw_below_drewN | apply below_drew1 | refine below_set ?_ GE85001.out) | exact HB.out)) hb); have n2_ := Aside0.mk (hbox); have n3_ := Aside0.mk ((by rw [hg]; exact (below_size (by repeat (first | (with_reducible first | exact HB.out | apply below_alloc | apply pw_below_drewN | apply below_drew1 | refine below_set ?_ GE85001.out) | exact HB.out))) : w.heap.size ≤ gb85002)); have n4_ := Aside0.mk ((by rw [hg]; exact (below_size (by repeat (first | (with_reducible first | exact HB.out | apply below_alloc | apply pw_below_drewN | apply below_drew1 | refine below_set ?_ GE85001.out) | exact HB.out))) : w.heap.size ≤ gb85002)); have n5_ := Aside0.mk ((by rw [hg]; exact Nat.ne_of_lt (blk_lt (g := gb85001) (o := .cells #[.int .i64 a0_0, .int .i64 a0_1, .int .i64 a0_2, .slice A0_3 l0_3.length c0_3] 27 (0, 0)) (by (with_reducible repeat (first | refine blk_drewN ?_ _ | refine blk_drew ?_ | refine blk_alloc ?_ _)); exact BK85001.out)) : gb85001 ≠ gb85002)); have n6_ := Aside0.mk ((by rw [hg]; exact Nat.ne_of_gt (blk_lt (g := gb85001) (o := .cells #[.int .i64 a0_0, .int .i64 a0_1, .int .i64 a0_2, .slice A0_3 l0_3.length c0_3] 27 (0, 0)) (by (with_reducible repeat (first | refine blk_drewN ?_ _ | refine blk_drew ?_ | refine blk_alloc ?_ _)); exact BK85001.out)) : gb85002 ≠ gb85001)); clear BK85001; clear HB; have BK85001 := n0_; have HB := n1_; have BK85002 := n2_; have GW85002 := n3_; have GE85002 := n4_; have NB85001_85002 := n5_; have NB85002_85001 := n6_; clear n0_ n1_ n2_ n3_ n4_ n5_ n6_; clear hb hbox hg; have hnb12 := NB85001_85002.out; have hnc12 := NB85002_85001.out; have hcz13_0 : w11.cell? ⟨gb85001, 0, none⟩ = some (.int .i64 a0_0) := (blk_cell BK85001.out 0).trans rfl; have hcz13_1 : w11.cell? ⟨gb85001, 1, none⟩ = some (.int .i64 a0_1) := (blk_cell BK85001.out 1).trans rfl; have hcz13_2 : w11.cell? ⟨gb85001, 2, none⟩ = some (.int .i64 a0_2) := (blk_cell BK85001.out 2).trans rfl; have hcz13_3 : w11.cell? ⟨gb85001, 3, none⟩ = some (.slice A0_3 l0_3.length c0_3) := (blk_cell BK85001.out 3).trans rfl; have hfz13_0 := blk_frozen BK85001.out 0; have hfz13_1 := blk_frozen BK85001.out 1; have hfz13_2 := blk_frozen BK85001.out 2; have hfz13_3 := blk_frozen BK85001.out 3; have hcz14_0 : w11.cell? ⟨gb85002, 0, none⟩ = some (.int .i64 a1_0) := (blk_cell BK85002.out 0).trans rfl; have hcz14_1 : w11.cell? ⟨gb85002, 1, none⟩ = some (.int .i64 a1_1) := (blk_cell BK85002.out 1).trans rfl; have hcz14_2 : w11.cell? ⟨gb85002, 2, none⟩ = some (.int .i64 a1_2) := (blk_cell BK85002.out 2).trans rfl; have hcz14_3 : w11.cell? ⟨gb85002, 3, none⟩ = some (.slice A1_3 l1_3.length c1_3) := (blk_cell BK85002.out 3).trans rfl; have hfz14_0 := blk_frozen BK85002.out 0; have hfz14_1 := blk_frozen BK85002.out 1; have hfz14_2 := blk_frozen BK85002.out 2; have hfz14_3 := blk_frozen BK85002.out 3))
      go_ret
      exact ⟨by first | rfl | (simp [errW_none, errW_some] <;> rfl) | (simp [*, errW_none, errW_some] <;> rfl), by repeat (first | (with_reducible first | exact HB.out | apply below_alloc | apply pw_below_drewN | apply below_drew1 | refine below_set ?_ GE85001.out | refine below_set ?_ GE85002.out) | exact HB.out)⟩
  · rw [if_neg c3] at H
    have c3b0 : (a0_0 == a1_0) = false := beq_eq_false_iff_ne.mpr c3
    have c3b1 : (a0_0 != a1_0) = true := bne_iff_ne.mpr c3
    obtain rfl := Option.some.inj H
    go_enter Try.func84, Try.ntmps84
    go_wp2_with (first | ((with_reducible refine gate_dst (N := 2) rfl ?_); refine box_event ?hg (N := 2) ?hd (cs := #[.int .i64 a0_0, .int .i64 a0_1, .int .i64 a0_2, .slice A0_3 l0_3.length c0_3]) (t := 27) ?hr ?_; (case hd => rfl); (case hg => rfl); (case hr => first | (go_simp; done) | (go_simp; rfl)); intro gb85001 hg w15 hbox hb; have n0_ := Aside0.mk (below_step (by repeat (first | (with_reducible first | exact HB.out | apply below_alloc | apply pw_below_drewN | apply below_drew1) | exact HB.out)) hb); have n1_ := Aside0.mk (hbox); have n2_ := Aside0.mk ((by rw [hg]; exact (below_size (by repeat (first | (with_reducible first | exact HB.out | apply below_alloc | apply pw_below_drewN | apply below_drew1) | exact HB.out))) : w.heap.size ≤ gb85001)); have n3_ := Aside0.mk ((by rw [hg]; exact (below_size (by repeat (first | (with_reducible first | exact HB.out | apply below_alloc | apply pw_below_drewN | apply below_drew1) | exact HB.out))) : w.heap.size ≤ gb85001)); clear HB; have HB := n0_; have BK85001 := n1_; have GW85001 := n2_; have GE85001 := n3_; clear n0_ n1_ n2_ n3_; clear hb hbox hg) | ((with_reducible refine gate_dst (N := 3) rfl ?_); refine box_event ?hg (N := 3) ?hd (cs := #[.int .i64 a1_0, .int .i64 a1_1, .int .i64 a1_2, .slice A1_3 l1_3.length c1_3]) (t := 27) ?hr ?_; (case hd => rfl); (case hg => rfl); (case hr => first | (go_simp; done) | (go_simp; rfl)); intro gb85002 hg w16 hbox hb; have n0_ := Aside0.mk (blk_below (g := gb85001) (o := .cells #[.int .i64 a0_0, .int .i64 a0_1, .int .i64 a0_2, .slice A0_3 l0_3.length c0_3] 27 (0, 0)) (by (with_reducible repeat (first | refine blk_drewN ?_ _ | refine blk_drew ?_ | refine blk_alloc ?_ _)); exact BK85001.out) hb); have n1_ := Aside0.mk (below_step (by repeat (first | (with_reducible first | exact HB.out | apply below_alloc | apply pw_below_drewN | apply below_drew1 | refine below_set ?_ GE85001.out) | exact HB.out)) hb); have n2_ := Aside0.mk (hbox); have n3_ := Aside0.mk ((by rw [hg]; exact (below_size (by repeat (first | (with_reducible first | exact HB.out | apply below_alloc | apply pw_below_drewN | apply below_drew1 | refine below_set ?_ GE85001.out) | exact HB.out))) : w.heap.size ≤ gb85002)); have n4_ := Aside0.mk ((by rw [hg]; exact (below_size (by repeat (first | (with_reducible first | exact HB.out | apply below_alloc | apply pw_below_drewN | apply below_drew1 | refine below_set ?_ GE85001.out) | exact HB.out))) : w.heap.size ≤ gb85002)); have n5_ := Aside0.mk ((by rw [hg]; exact Nat.ne_of_lt (blk_lt (g := gb85001) (o := .cells #[.int .i64 a0_0, .int .i64 a0_1, .int .i64 a0_2, .slice A0_3 l0_3.length c0_3] 27 (0, 0)) (by (with_reducible repeat (first | refine blk_drewN ?_ _ | refine blk_drew ?_ | refine blk_alloc ?_ _)); exact BK85001.out)) : gb85001 ≠ gb85002)); have n6_ := Aside0.mk ((by rw [hg]; exact Nat.ne_of_gt (blk_lt (g := gb85001) (o := .cells #[.int .i64 a0_0, .int .i64 a0_1, .int .i64 a0_2, .slice A0_3 l0_3.length c0_3] 27 (0, 0)) (by (with_reducible repeat (first | refine blk_drewN ?_ _ | refine blk_drew ?_ | refine blk_alloc ?_ _)); exact BK85001.out)) : gb85002 ≠ gb85001)); clear BK85001; clear HB; have BK85001 := n0_; have HB := n1_; have BK85002 := n2_; have GW85002 := n3_; have GE85002 := n4_; have NB85001_85002 := n5_; have NB85002_85001 := n6_; clear n0_ n1_ n2_ n3_ n4_ n5_ n6_; clear hb hbox hg; have hnb17 := NB85001_85002.out; have hnc17 := NB85002_85001.out; have hcz18_0 : w16.cell? ⟨gb85001, 0, none⟩ = some (.int .i64 a0_0) := (blk_cell BK85001.out 0).trans rfl; have hcz18_1 : w16.cell? ⟨gb85001, 1, none⟩ = some (.int .i64 a0_1) := (blk_cell BK85001.out 1).trans rfl; have hcz18_2 : w16.cell? ⟨gb85001, 2, none⟩ = some (.int .i64 a0_2) := (blk_cell BK85001.out 2).trans rfl; have hcz18_3 : w16.cell? ⟨gb85001, 3, none⟩ = some (.slice A0_3 l0_3.length c0_3) := (blk_cell BK85001.out 3).trans rfl; have hfz18_0 := blk_frozen BK85001.out 0; have hfz18_1 := blk_frozen BK85001.out 1; have hfz18_2 := blk_frozen BK85001.out 2; have hfz18_3 := blk_frozen BK85001.out 3; have hcz19_0 : w16.cell? ⟨gb85002, 0, none⟩ = some (.int .i64 a1_0) := (blk_cell BK85002.out 0).trans rfl; have hcz19_1 : w16.cell? ⟨gb85002, 1, none⟩ = some (.int .i64 a1_1) := (blk_cell BK85002.out 1).trans rfl; have hcz19_2 : w16.cell? ⟨gb85002, 2, none⟩ = some (.int .i64 a1_2) := (blk_cell BK85002.out 2).trans rfl; have hcz19_3 : w16.cell? ⟨gb85002, 3, none⟩ = some (.slice A1_3 l1_3.length c1_3) := (blk_cell BK85002.out 3).trans rfl; have hfz19_0 := blk_frozen BK85002.out 0; have hfz19_1 := blk_frozen BK85002.out 1; have hfz19_2 := blk_frozen BK85002.out 2; have hfz19_3 := blk_frozen BK85002.out 3))
    go_ret
    exact ⟨by first | rfl | (simp [errW_none, errW_some] <;> rfl) | (simp [*, errW_none, errW_some] <;> rfl), by repeat (first | (with_reducible first | exact HB.out | apply below_alloc | apply pw_below_drewN | apply below_drew1 | refine below_set ?_ GE85001.out | refine below_set ?_ GE85002.out) | exact HB.out)⟩


def impl_isBoxOn.f (a0_0 : Int) (a0_1 : Int) (a0_2 : Int) (l0_3 : List Int) (a1_0 : Int) (a1_1 : Int) (a1_2 : Int) (a1_3 : Int) : Option (Bool) := if a1_0 ≥ 0 then (if a1_0 < a0_0 then (if a1_1 ≥ 0 then (if a1_1 < a0_1 then (if a1_2 ≥ 1 then (if a1_2 ≤ (wrap64 (a0_0 - a1_0)) then (if a1_3 ≥ 1 then (some (decide (a1_3 ≤ (wrap64 (a0_1 - a1_1))))) else (some false)) else (some false)) else (some false)) else (some false)) else (some false)) else (some false)) else (some false)
set_option maxHeartbeats 8000000 in
set_option maxRecDepth 100000 in
theorem impl_isBoxOn.calls (a0_0 : Int) (a0_1 : Int) (a0_2 : Int) (A0_3 : Option Addr) (c0_3 : Nat) (l0_3 : List Int) (a1_0 : Int) (a1_1 : Int) (a1_2 : Int) (a1_3 : Int) (r : Bool) (w : World) (hr0_3 : Kd.C (Kd.int .i64) w A0_3 l0_3.length l0_3) (hc0_3 : l0_3.length ≤ c0_3) (h : impl_isBoxOn.f a0_0 a0_1 a0_2 l0_3 a1_0 a1_1 a1_2 a1_3 = some r) :
    Calls Try.prog 106 #[.agg #[.int .i64 a0_0, .int .i64 a0_1, .int .i64 a0_2, .slice A0_3 l0_3.length c0_3], .agg #[.int .i64 a1_0, .int .i64 a1_1, .int .i64 a1_2, .int .i64 a1_3]] w fun e w' => e = .returned (.bool r) ∧ Below w.heap.size w w' := by
  have hu27 := Try.underlying27
  have hu47 := Try.underlying47
  have HR0_3 := Aside0.mk hr0_3
  have HC0_3 := Aside0.mk hc0_3
  clear hr0_3 hc0_3
  have HB := Aside0.mk (Below.refl w.heap.size w)
  have H : (if a1_0 ≥ 0 then (if a1_0 < a0_0 then (if a1_1 ≥ 0 then (if a1_1 < a0_1 then (if a1_2 ≥ 1 then (if a1_2 ≤ (wrap64 (a0_0 - a1_0)) then (if a1_3 ≥ 1 then (some (decide (a1_3 ≤ (wrap64 (a0_1 - a1_1))))) else (some false)) else (some false)) else (some false)) else (some false)) else (some false)) else (some false)) else (some false)) = some r := h
  clear h
  by_cases c3 : a1_0 ≥ 0
  · rw [if_pos c3] at H
    have c3b0 : decide (0 ≤ a1_0) = true := decide_eq_true c3
    clear c3
    by_cases c4 : a1_0 < a0_0
    · rw [if_pos c4] at H
      have c4b0 : decide (a1_0 < a0_0) = true := decide_eq_true c4
      clear c4
      by_cases c5 : a1_1 ≥ 0
      · rw [if_pos c5] at H
        have c5b0 : decide (0 ≤ a1_1) = true := decide_eq_true c5
        clear c5
        by_cases c6 : a1_1 < a0_1
        · rw [if_pos c6] at H
          have c6b0 : decide (a1_1 < a0_1) = true := decide_eq_true c6
          clear c6
          by_cases c7 : a1_2 ≥ 1
          · rw [if_pos c7] at H
            have c7b0 : decide (1 ≤ a1_2) = true := decide_eq_true c7
            clear c7
            by_cases c8 : a1_2 ≤ (wrap64 (a0_0 - a1_0))
            · rw [if_pos c8] at H
              have c8b0 : decide (a1_2 ≤ (wrap64 (a0_0 - a1_0))) = true := decide_eq_true c8
              clear c8
              by_cases c9 : a1_3 ≥ 1
              · rw [if_pos c9] at H
                have c9b0 : decide (1 ≤ a1_3) = true := decide_eq_true c9
                clear c9
                obtain rfl := Option.some.inj H
                go_enter Try.func106, Try.ntmps106
                go_wp2_with (first | ((with_reducible refine gate_dst (N := 2) rfl ?_); refine box_event ?hg (N := 2) ?hd (cs := #[.int .i64 a0_0, .int .i64 a0_1, .int .i64 a0_2, .slice A0_3 l0_3.length c0_3]) (t := 27) ?hr ?_; (case hd => rfl); (case hg => rfl); (case hr => first | (go_simp; done) | (go_simp; rfl)); intro gb107001 hg w10 hbox hb; have n0_ := Aside0.mk (below_step (by repeat (first | (with_reducible first | exact HB.out | apply below_alloc | apply pw_below_drewN | apply below_drew1) | exact HB.out)) hb); have n1_ := Aside0.mk (hbox); have n2_ := Aside0.mk ((by rw [hg]; exact (below_size (by repeat (first | (with_reducible first | exact HB.out | apply below_alloc | apply pw_below_drewN | apply below_drew1) | exact HB.out))) : w.heap.size ≤ gb107001)); have n3_ := Aside0.mk ((by rw [hg]; exact (below_size (by repeat (first | (with_reducible first | exact HB.out | apply below_alloc | apply pw_below_drewN | apply below_drew1) | exact HB.out))) : w.heap.size ≤ gb107001)); clear HB; have HB := n0_; have BK107001 := n1_; have GW107001 := n2_; have GE107001 := n3_; clear n0_ n1_ n2_ n3_; clear hb hbox hg) | ((with_reducible refine gate_dst (N := 3) rfl ?_); refine box_event ?hg (N := 3) ?hd (cs := #[.int .i64 a1_0, .int .i64 a1_1, .int .i64 a1_2, .int .i64 a1_3]) (t := 47) ?hr ?_; (case hd => rfl); (case hg => rfl); (case hr => first | (go_simp; done) | (go_simp; rfl)); intro gb107002 hg w11 hbox hb; have n0_ := Aside0.mk (blk_below (g := gb107001) (o := .cells #[.int .i64 a0_0, .int .i64 a0_1, .int .i64 a0_2, .slice A0_3 l0_3.length c0_3] 27 (0, 0)) (by (with_reducible repeat (first | refine blk_drewN ?_ _ | refine blk_drew ?_ | refine blk_alloc ?_ _)); exact BK107001.out) hb); have n1_ := Aside0.mk (below_step (by repeat (first | (with_reducible first | exact HB.out | apply below_alloc | apply pw_below_drewN | apply below_drew1 | refine below_set ?_ GE107001.out) | exact HB.out)) hb); have n2_ := Aside0.mk (hbox); have n3_ := Aside0.mk ((by rw [hg]; exact (below_size (by repeat (first | (with_reducible first | exact HB.out | apply below_alloc | apply pw_below_drewN | apply below_drew1 | refine below_set ?_ GE107001.out) | exact HB.out))) : w.heap.size ≤ gb107002)); have n4_ := Aside0.mk ((by rw [hg]; exact (below_size (by repeat (first | (with_reducible first | exact HB.out | apply below_alloc | apply pw_below_drewN | apply below_drew1 | refine below_set ?_ GE107001.out) | exact HB.out))) : w.heap.size ≤ gb107002)); have n5_ := Aside0.mk ((by rw [hg]; exact Nat.ne_of_lt (blk_lt (g := gb107001) (o := .cells #[.int .i64 a0_0, .int .i64 a0_1, .int .i64 a0_2, .slice A0_3 l0_3.length c0_3] 27 (0, 0)) (by (with_reducible repeat (first | refine blk_drewN ?_ _ | refine blk_drew ?_ | refine blk_alloc ?_ _)); exact BK107001.out)) : gb107001 ≠ gb107002)); have n6_ := Aside0.mk ((by rw [hg]; exact Nat.ne_of_gt (blk_lt (g := gb107001) (o := .cells #[.int .i64 a0_0, .int .i64 a0_1, .int .i64 a0_2, .slice A0_3 l0_3.length c0_3] 27 (0, 0)) (by (with_reducible repeat (first | refine blk_drewN ?_ _ | refine blk_drew ?_ | refine blk_alloc ?_ _)); exact BK107001.out)) : gb107002 ≠ gb107001)); clear BK107001; clear HB; have BK107001 := n0_; have HB := n1_; have BK107002 := n2_; have GW107002 := n3_; have GE107002 := n4_; have NB107001_107002 := n5_; have NB107002_107001 := n6_; clear n0_ n1_ n2_ n3_ n4_ n5_ n6_; clear hb hbox hg; have hnb12 := NB107002_107001.out; have hnc12 := NB107001_107002.out; have hcz13_0 : w11.cell? ⟨gb107002, 0, none⟩ = some (.int .i64 a1_0) := (blk_cell BK107002.out 0).trans rfl; have hcz13_1 : w11.cell? ⟨gb107002, 1, none⟩ = some (.int .i64 a1_1) := (blk_cell BK107002.out 1).trans rfl; have hcz13_2 : w11.cell? ⟨gb107002, 2, none⟩ = some (.int .i64 a1_2) := (blk_cell BK107002.out 2).trans rfl; have hcz13_3 : w11.cell? ⟨gb107002, 3, none⟩ = some (.int .i64 a1_3) := (blk_cell BK107002.out 3).trans rfl; have hfz13_0 := blk_frozen BK107002.out 0; have hfz13_1 := blk_frozen BK107002.out 1; have hfz13_2 := blk_frozen BK107002.out 2; have hfz13_3 := blk_frozen BK107002.out 3; have hcz14_0 : w11.cell? ⟨gb107001, 0, none⟩ = some (.int .i64 a0_0) := (blk_cell BK107001.out 0).trans rfl; have hcz14_1 : w11.cell? ⟨gb107001, 1, none⟩ = some (.int .i64 a0_1) := (blk_cell BK107001.out 1).trans rfl; have hcz14_2 : w11.cell? ⟨gb107001, 2, none⟩ = some (.int .i64 a0_2) := (blk_cell BK107001.out 2).trans rfl; have hcz14_3 : w11.cell? ⟨gb107001, 3, none⟩ = some (.slice A0_3 l0_3.length c0_3) := (blk_cell BK107001.out 3).trans rfl; have hfz14_0 := blk_frozen BK107001.out 0; have hfz14_1 := blk_frozen BK107001.out 1; have hfz14_2 := blk_frozen BK107001.out 2; have hfz14_3 := blk_frozen BK107001.out 3))
                go_ret
                exact ⟨by first | rfl | (simp [errW_none, errW_some] <;> rfl) | (simp [*, errW_none, errW_some] <;> rfl), by repeat (first | (with_reducible first | exact HB.out | apply below_alloc | apply pw_below_drewN | apply below_drew1 | refine below_set ?_ GE107001.out | refine below_set ?_ GE107002.out) | exact HB.out)⟩
              · rw [if_neg c9] at H
                have c9b0 : decide (1 ≤ a1_3) = false := decide_eq_false c9
                clear c9
                obtain rfl := Option.some.inj H
                go_enter Try.func106, Try.ntmps106
                go_wp2_with (first | ((with_reducible refine gate_dst (N := 2) rfl ?_); refine box_event ?hg (N := 2) ?hd (cs := #[.int .i64 a0_0, .int .i64 a0_1, .int .i64 a0_2, .slice A0_3 l0_3.length c0_3]) (t := 27) ?hr ?_; (case hd => rfl); (case hg => rfl); (case hr => first | (go_simp; done) | (go_simp; rfl)); intro gb107001 hg w15 hbox hb; have n0_ := Aside0.mk (below_step (by repeat (first | (with_reducible first | exact HB.out | apply below_alloc | apply pw_below_drewN | apply below_drew1) | exact HB.out)) hb); have n1_ := Aside0.mk (hbox); have n2_ := Aside0.mk ((by rw [hg]; exact (below_size (by repeat (first | (with_reducible first | exact HB.out | apply below_alloc | apply pw_below_drewN | apply below_drew1) | exact HB.out))) : w.heap.size ≤ gb107001)); have n3_ := Aside0.mk ((by rw [hg]; exact (below_size (by repeat (first | (with_reducible first | exact HB.out | apply below_alloc | apply pw_below_drewN | apply below_drew1) | exact HB.out))) : w.heap.size ≤ gb107001)); clear HB; have HB := n0_; have BK107001 := n1_; have GW107001 := n2_; have GE107001 := n3_; clear n0_ n1_ n2_ n3_; clear hb hbox hg) | ((with_reducible refine gate_dst (N := 3) rfl ?_); refine box_event ?hg (N := 3) ?hd (cs := #[.int .i64 a1_0, .int .i64 a1_1, .int .i64 a1_2, .int .i64 a1_3]) (t := 47) ?hr ?_; (case hd => rfl); (case hg => rfl); (case hr => first | (go_simp; done) | (go_simp; rfl)); intro gb107002 hg w16 hbox hb; have n0_ := Aside0.mk (blk_below (g := gb107001) (o := .cells #[.int .i64 a0_0, .int .i64 a0_1, .int .i64 a0_2, .slice A0_3 l0_3.length c0_3] 27 (0, 0)) (by (with_reducible repeat (first | refine blk_drewN ?_ _ | refine blk_drew ?_ | refine blk_alloc ?_ _)); exact BK107001.out) hb); have n1_ := Aside0.mk (below_step (by repeat (first | (with_reducible first | exact HB.out | apply below_alloc | apply pw_below_drewN | apply below_drew1 | refine below_set ?_ GE107001.out) | exact HB.out)) hb); have n2_ := Aside0.mk (hbox); have n3_ := Aside0.mk ((by rw [hg]; exact (below_size (by repeat (first | (with_reducible first | exact HB.out | apply below_alloc | apply pw_below_drewN | apply below_drew1 | refine below_set ?_ GE107001.out) | exact HB.out))) : w.heap.size ≤ gb107002)); have n4_ := Aside0.mk ((by rw [hg]; exact (below_size (by repeat (first | (with_reducible first | exact HB.out | apply below_alloc | apply pw_below_drewN | apply below_drew1 | refine below_set ?_ GE107001.out) | exact HB.out))) : w.heap.size ≤ gb107002)); have n5_ := Aside0.mk ((by rw [hg]; exact Nat.ne_of_lt (blk_lt (g := gb107001) (o := .cells #[.int .i64 a0_0, .int .i64 a0_1, .int .i64 a0_2, .slice A0_3 l0_3.length c0_3] 27 (0, 0)) (by (with_reducible repeat (first | refine blk_drewN ?_ _ | refine blk_drew ?_ | refine blk_alloc ?_ _)); exact BK107001.out)) : gb107001 ≠ gb107002)); have n6_ := Aside0.mk ((by rw [hg]; exact Nat.ne_of_gt (blk_lt (g := gb107001) (o := .cells #[.int .i64 a0_0, .int .i64 a0_1, .int .i64 a0_2, .slice A0_3 l0_3.length c0_3] 27 (0, 0)) (by (with_reducible repeat (first | refine blk_drewN ?_ _ | refine blk_drew ?_ | refine blk_alloc ?_ _)); exact BK107001.out)) : gb107002 ≠ gb107001)); clear BK107001; clear HB; have BK107001 := n0_; have HB := n1_; have BK107002 := n2_; have GW107002 := n3_; have GE107002 := n4_; have NB107001_107002 := n5_; have NB107002_107001 := n6_; clear n0_ n1_ n2_ n3_ n4_ n5_ n6_; clear hb hbox hg; have hnb17 := NB107002_107001.out; have hnc17 := NB107001_107002.out; have hcz18_0 : w16.cell? ⟨gb107002, 0, none⟩ = some (.int .i64 a1_0) := (blk_cell BK107002.out 0).trans rfl; have hcz18_1 : w16.cell? ⟨gb107002, 1, none⟩ = some (.int .i64 a1_1) := (blk_cell BK107002.out 1).trans rfl; have hcz18_2 : w16.cell? ⟨gb107002, 2, none⟩ = some (.int .i64 a1_2) := (blk_cell BK107002.out 2).trans rfl; have hcz18_3 : w16.cell? ⟨gb107002, 3, none⟩ = some (.int .i64 a1_3) := (blk_cell BK107002.out 3).trans rfl; have hfz18_0 := blk_frozen BK107002.out 0; have hfz18_1 := blk_frozen BK107002.out 1; have hfz18_2 := blk_frozen BK107002.out 2; have hfz18_3 := blk_frozen BK107002.out 3; have hcz19_0 : w16.cell? ⟨gb107001, 0, none⟩ = some (.int .i64 a0_0) := (blk_cell BK107001.out 0).trans rfl; have hcz19_1 : w16.cell? ⟨gb107001, 1, none⟩ = some (.int .i64 a0_1) := (blk_cell BK107001.out 1).trans rfl; have hcz19_2 : w16.cell? ⟨gb107001, 2, none⟩ = some (.int .i64 a0_2) := (blk_cell BK107001.out 2).trans rfl; have hcz19_3 : w16.cell? ⟨gb107001, 3, none⟩ = some (.slice A0_3 l0_3.length c0_3) := (blk_cell BK107001.out 3).trans rfl; have hfz19_0 := blk_frozen BK107001.out 0; have hfz19_1 := blk_frozen BK107001.out 1; have hfz19_2 := blk_frozen BK107001.out 2; have hfz19_3 := blk_frozen BK107001.out 3))
                go_ret
                exact ⟨by first | rfl | (simp [errW_none, errW_some] <;> rfl) | (simp [*, errW_none, errW_some] <;> rfl), by repeat (first | (with_reducible first | exact HB.out | apply below_alloc | apply pw_below_drewN | apply below_drew1 | refine below_set ?_ GE107001.out | refine below_set ?_ GE107002.out) | exact HB.out)⟩
            · rw [if_neg c8] at H
              have c8b0 : decide (a1_2 ≤ (wrap64 (a0_0 - a1_0))) = false := decide_eq_false c8
              clear c8
              obtain rfl := Option.some.inj H
              go_enter Try.func106, Try.ntmps106
              go_wp2_with (first | ((with_reducible refine gate_dst (N := 2) rfl ?_); refine box_event ?hg (N := 2) ?hd (cs := #[.int .i64 a0_0, .int .i64 a0_1, .int .i64 a0_2, .slice A0_3 l0_3.length c0_3]) (t := 27) ?hr ?_; (case hd => rfl); (case hg => rfl); (case hr => first | (go_simp; done) | (go_simp; rfl)); intro gb107001 hg w20 hbox hb; have n0_ := Aside0.mk (below_step (by repeat (first | (with_reducible first | exact HB.out | apply below_alloc | apply pw_below_drewN | apply below_drew1) | exact HB.out)) hb); have n1_ := Aside0.mk (hbox); have n2_ := Aside0.mk ((by rw [hg]; exact (below_size (by repeat (first | (with_reducible first | exact HB.out | apply below_alloc | apply pw_below_drewN | apply below_drew1) | exact HB.out))) : w.heap.size ≤ gb107001)); have n3_ := Aside0.mk ((by rw [hg]; exact (below_size (by repeat (first | (with_reducible first | exact HB.out | apply below_alloc | apply pw_below_drewN | apply below_drew1) | exact HB.out))) : w.heap.size ≤ gb107001)); clear HB; have HB := n0_; have BK107001 := n1_; have GW107001 := n2_; have GE107001 := n3_; clear n0_ n1_ n2_ n3_; clear hb hbox hg) | ((with_reducible refine gate_dst (N := 3) rfl ?_); refine box_event ?hg (N := 3) ?hd (cs := #[.int .i64 a1_0, .int .i64 a1_1, .int .i64 a1_2, .int .i64 a1_3]) (t := 47) ?hr ?_; (case hd => rfl); (case hg => rfl); (case hr => first | (go_simp; done) | (go_simp; rfl)); intro gb107002 hg w21 hbox hb; have n0_ := Aside0.mk (blk_below (g := gb107001) (o := .cells #[.int .i64 a0_0, .int .i64 a0_1, .int .i64 a0_2, .slice A0_3 l0_3.length c0_3] 27 (0, 0)) (by (with_reducible repeat (first | refine blk_drewN ?_ _ | refine blk_drew ?_ | refine blk_alloc ?_ _)); exact BK107001.out) hb); have n1_ := Aside0.mk (below_step (by repeat (first | (with_reducible first | exact HB.out | apply below_alloc | apply pw_below_drewN | apply below_drew1 | refine below_set ?_ GE107001.out) | exact HB.out)) hb); have n2_ := Aside0.mk (hbox); have n3_ := Aside0.mk ((by rw [hg]; exact (below_size (by repeat (first | (with_reducible first | exact HB.out | apply below_alloc | apply pw_below_drewN | apply below_drew1 | refine below_set ?_ GE107001.out) | exact HB.out))) : w.heap.size ≤ gb107002)); have n4_ := Aside0.mk ((by rw [hg]; exact (below_size (by repeat (first | (with_reducible first | exact HB.out | apply below_alloc | apply pw_below_drewN | apply below_drew1 | refine below_set ?_ GE107001.out) | exact HB.out))) : w.heap.size ≤ gb107002)); have n5_ := Aside0.mk ((by rw [hg]; exact Nat.ne_of_lt (blk_lt (g := gb107001) (o := .cells #[.int .i64 a0_0, .int .i64 a0_1, .int .i64 a0_2, .slice A0_3 l0_3.length c0_3] 27 (0, 0)) (by (with_reducible repeat (first | refine blk_drewN ?_ _ | refine blk_drew ?_ | refine blk_alloc ?_ _)); exact BK107001.out)) : gb107001 ≠ gb107002)); have n6_ := Aside0.mk ((by rw [hg]; exact Nat.ne_of_gt (blk_lt (g := gb107001) (o := .cells #[.int .i64 a0_0, .int .i64 a0_1, .int .i64 a0_2, .slice A0_3 l0_3.length c0_3] 27 (0, 0)) (by (with_reducible repeat (first | refine blk_drewN ?_ _ | refine blk_drew ?_ | refine blk_alloc ?_ _)); exact BK107001.out)) : gb107002 ≠ gb107001)); clear BK107001; clear HB; have BK107001 := n0_; have HB := n1_; have BK107002 := n2_; have GW107002 := n3_; have GE107002 := n4_; have NB107001_107002 := n5_; have NB107002_107001 := n6_; clear n0_ n1_ n2_ n3_ n4_ n5_ n6_; clear hb hbox hg; have hnb22 := NB107002_107001.out; have hnc22 := NB107001_107002.out; have hcz23_0 : w21.cell? ⟨gb107002, 0, none⟩ = some (.int .i64 a1_0) := (blk_cell BK107002.out 0).trans rfl; have hcz23_1 : w21.cell? ⟨gb107002, 1, none⟩ = some (.int .i64 a1_1) := (blk_cell BK107002.out 1).trans rfl; have hcz23_2 : w21.cell? ⟨gb107002, 2, none⟩ = some (.int .i64 a1_2) := (blk_cell BK107002.out 2).trans rfl; have hcz23_3 : w21.cell? ⟨gb107002, 3, none⟩ = some (.int .i64 a1_3) := (blk_cell BK107002.out 3).trans rfl; have hfz23_0 := blk_frozen BK107002.out 0; have hfz23_1 := blk_frozen BK107002.out 1; have hfz23_2 := blk_frozen BK107002.out 2; have hfz23_3 := blk_frozen BK107002.out 3; have hcz24_0 : w21.cell? ⟨gb107001, 0, none⟩ = some (.int .i64 a0_0) := (blk_cell BK107001.out 0).trans rfl; have hcz24_1 : w21.cell? ⟨gb107001, 1, none⟩ = some (.int .i64 a0_1) := (blk_cell BK107001.out 1).trans rfl; have hcz24_2 : w21.cell? ⟨gb107001, 2, none⟩ = some (.int .i64 a0_2) := (blk_cell BK107001.out 2).trans rfl; have hcz24_3 : w21.cell? ⟨gb107001, 3, none⟩ = some (.slice A0_3 l0_3.length c0_3) := (blk_cell BK107001.out 3).trans rfl; have hfz24_0 := blk_frozen BK107001.out 0; have hfz24_1 := blk_frozen BK107001.out 1; have hfz24_2 := blk_frozen BK107001.out 2; have hfz24_3 := blk_frozen BK107001.out 3))
              go_ret
              exact ⟨by first | rfl | (simp [errW_none, errW_some] <;> rfl) | (simp [*, errW_none, errW_some] <;> rfl), by repeat (first | (with_reducible first | exact HB.out | apply below_alloc | apply pw_below_drewN | apply below_drew1 | refine below_set ?_ GE107001.out | refine below_set ?_ GE107002.out) | exact HB.out)⟩
          · rw [if_neg c7] at H
            have c7b0 : decide (1 ≤ a1_2) = false := decide_eq_false c7
            clear c7
            obtain rfl := Option.some.inj H
            go_enter Try.func106, Try.ntmps106
            go_wp2_with (first | ((with_reducible refine gate_dst (N := 2) rfl ?_); refine box_event ?hg (N := 2) ?hd (cs := #[.int .i64 a0_0, .int .i64 a0_1, .int .i64 a0_2, .slice A0_3 l0_3.length c0_3]) (t := 27) ?hr ?_; (case hd => rfl); (case hg => rfl); (case hr => first | (go_simp; done) | (go_simp; rfl)); intro gb107001 hg w25 hbox hb; have n0_ := Aside0.mk (below_step (by repeat (first | (with_reducible first | exact HB.out | apply below_alloc | apply pw_below_drewN | apply below_drew1) | exact HB.out)) hb); have n1_ := Aside0.mk (hbox); have n2_ := Aside0.mk ((by rw [hg]; exact (below_size (by repeat (first | (with_reducible first | exact HB.out | apply below_alloc | apply pw_below_drewN | apply below_drew1) | exact HB.out))) : w.heap.size ≤ gb107001)); have n3_ := Aside0.mk ((by rw [hg]; exact (below_size (by repeat (first | (with_reducible first | exact HB.out | apply below_alloc | apply pw_below_drewN | apply below_drew1) | exact HB.out))) : w.heap.size ≤ gb107001)); clear HB; have HB := n0_; have BK107001 := n1_; have GW107001 := n2_; have GE107001 := n3_; clear n0_ n1_ n2_ n3_; clear hb hbox hg) | ((with_reducible refine gate_dst (N := 3) rfl ?_); refine box_event ?hg (N := 3) ?hd (cs := #[.int .i64 a1_0, .int .i64 a1_1, .int .i64 a1_2, .int .i64 a1_3]) (t := 47) ?hr ?_; (case hd => rfl); (case hg => rfl); (case hr => first | (go_simp; done) | (go_simp; rfl)); intro gb107002 hg w26 hbox hb; have n0_ := Aside0.mk (blk_below (g := gb107001) (o := .cells #[.int .i64 a0_0, .int .i64 a0_1, .int .i64 a0_2, .slice A0_3 l0_3.length c0_3] 27 (0, 0)) (by (with_reducible repeat (first | refine blk_drewN ?_ _ | refine blk_drew ?_ | refine blk_alloc ?_ _)); exact BK107001.out) hb); have n1_ := Aside0.mk (below_step (by repeat (first | (with_reducible first | exact HB.out | apply below_alloc | apply pw_below_drewN | apply below_drew1 | refine below_set ?_ GE107001.out) | exact HB.out)) hb); have n2_ := Aside0.mk (hbox); have n3_ := Aside0.mk ((by rw [hg]; exact (below_size (by repeat (first | (with_reducible first | exact HB.out | apply below_alloc | apply pw_below_drewN | apply below_drew1 | refine below_set ?_ GE107001.out) | exact HB.out))) : w.heap.size ≤ gb107002)); have n4_ := Aside0.mk ((by rw [hg]; exact (below_size (by repeat (first | (with_reducible first | exact HB.out | apply below_alloc | apply pw_below_drewN | apply below_drew1 | refine below_set ?_ GE107001.out) | exact HB.out))) : w.heap.size ≤ gb107002)); have n5_ := Aside0.mk ((by rw [hg]; exact Nat.ne_of_lt (blk_lt (g := gb107001) (o := .cells #[.int .i64 a0_0, .int .i64 a0_1, .int .i64 a0_2, .slice A0_3 l0_3.length c0_3] 27 (0, 0)) (by (with_reducible repeat (first | refine blk_drewN ?_ _ | refine blk_drew ?_ | refine blk_alloc ?_ _)); exact BK107001.out)) : gb107001 ≠ gb107002)); have n6_ := Aside0.mk ((by rw [hg]; exact Nat.ne_of_gt (blk_lt (g := gb107001) (o := .cells #[.int .i64 a0_0, .int .i64 a0_1, .int .i64 a0_2, .slice A0_3 l0_3.length c0_3] 27 (0, 0)) (by (with_reducible repeat (first | refine blk_drewN ?_ _ | refine blk_drew ?_ | refine blk_alloc ?_ _)); exact BK107001.out)) : gb107002 ≠ gb107001)); clear BK107001; clear HB; have BK107001 := n0_; have HB := n1_; have BK107002 := n2_; have GW107002 := n3_; have GE107002 := n4_; have NB107001_107002 := n5_; have NB107002_107001 := n6_; clear n0_ n1_ n2_ n3_ n4_ n5_ n6_; clear hb hbox hg; have hnb27 := NB107002_107001.out; have hnc27 := NB107001_107002.out; have hcz28_0 : w26.cell? ⟨gb107002, 0, none⟩ = some (.int .i64 a1_0) := (blk_cell BK107002.out 0).trans rfl; have hcz28_1 : w26.cell? ⟨gb107002, 1, none⟩ = some (.int .i64 a1_1) := (blk_cell BK107002.out 1).trans rfl; have hcz28_2 : w26.cell? ⟨gb107002, 2, none⟩ = some (.int .i64 a1_2) := (blk_cell BK107002.out 2).trans rfl; have hcz28_3 : w26.cell? ⟨gb107002, 3, none⟩ = some (.int .i64 a1_3) := (blk_cell BK107002.out 3).trans rfl; have hfz28_0 := blk_frozen BK107002.out 0; have hfz28_1 := blk_frozen BK107002.out 1; have hfz28_2 := blk_frozen BK107002.out 2; have hfz28_3 := blk_frozen BK107002.out 3; have hcz29_0 : w26.cell? ⟨gb107001, 0, none⟩ = some (.int .i64 a0_0) := (blk_cell BK107001.out 0).trans rfl; have hcz29_1 : w26.cell? ⟨gb107001, 1, none⟩ = some (.int .i64 a0_1) := (blk_cell BK107001.out 1).trans rfl; have hcz29_2 : w26.cell? ⟨gb107001, 2, none⟩ = some (.int .i64 a0_2) := (blk_cell BK107001.out 2).trans rfl; have hcz29_3 : w26.cell? ⟨gb107001, 3, none⟩ = some (.slice A0_3 l0_3.length c0_3) := (blk_cell BK107001.out 3).trans rfl; have hfz29_0 := blk_frozen BK107001.out 0; have hfz29_1 := blk_frozen BK107001.out 1; have hfz29_2 := blk_frozen BK107001.out 2; have hfz29_3 := blk_frozen BK107001.out 3))
            go_ret
            exact ⟨by first | rfl | (simp [errW_none, errW_some] <;> rfl) | (simp [*, errW_none, errW_some] <;> rfl), by repeat (first | (with_reducible first | exact HB.out | apply below_alloc | apply pw_below_drewN | apply below_drew1 | refine below_set ?_ GE107001.out | refine below_set ?_ GE107002.out) | exact HB.out)⟩
        · rw [if_neg c6] at H
          have c6b0 : decide (a1_1 < a0_1) = false := decide_eq_false c6
          clear c6
          obtain rfl := Option.some.inj H
          go_enter Try.func106, Try.ntmps106
          go_wp2_with (first | ((with_reducible refine gate_dst (N := 2) rfl ?_); refine box_event ?hg (N := 2) ?hd (cs := #[.int .i64 a0_0, .int .i64 a0_1, .int .i64 a0_2, .slice A0_3 l0_3.length c0_3]) (t := 27) ?hr ?_; (case hd => rfl); (case hg => rfl); (case hr => first | (go_simp; done) | (go_simp; rfl)); intro gb107001 hg w30 hbox hb; have n0_ := Aside0.mk (below_step (by repeat (first | (with_reducible first | exact HB.out | apply below_alloc | apply pw_below_drewN | apply below_drew1) | exact HB.out)) hb); have n1_ := Aside0.mk (hbox); have n2_ := Aside0.mk ((by rw [hg]; exact (below_size (by repeat (first | (with_reducible first | exact HB.out | apply below_alloc | apply pw_below_drewN | apply below_drew1) | exact HB.out))) : w.heap.size ≤ gb107001)); have n3_ := Aside0.mk ((by rw [hg]; exact (below_size (by repeat (first | (with_reducible first | exact HB.out | apply below_alloc | apply pw_below_drewN | apply below_drew1) | exact HB.out))) : w.heap.size ≤ gb107001)); clear HB; have HB := n0_; have BK107001 := n1_; have GW107001 := n2_; have GE107001 := n3_; clear n0_ n1_ n2_ n3_; clear hb hbox hg) | ((with_reducible refine gate_dst (N := 3) rfl ?_); refine box_event ?hg (N := 3) ?hd (cs := #[.int .i64 a1_0, .int .i64 a1_1, .int .i64 a1_2, .int .i64 a1_3]) (t := 47) ?hr ?_; (case hd => rfl); (case hg => rfl); (case hr => first | (go_simp; done) | (go_simp; rfl)); intro gb107002 hg w31 hbox hb; have n0_ := Aside0.mk (blk_below (g := gb107001) (o := .cells #[.int .i64 a0_0, .int .i64 a0_1, .int .i64 a0_2, .slice A0_3 l0_3.length c0_3] 27 (0, 0)) (by (with_reducible repeat (first | refine blk_drewN ?_ _ | refine blk_drew ?_ | refine blk_alloc ?_ _)); exact BK107001.out) hb); have n1_ := Aside0.mk (below_step (by repeat (first | (with_reducible first | exact HB.out | apply below_alloc | apply pw_below_drewN | apply below_drew1 | refine below_set ?_ GE107001.out) | exact HB.out)) hb); have n2_ := Aside0.mk (hbox); have n3_ := Aside0.mk ((by rw [hg]; exact (below_size (by repeat (first | (with_reducible first | exact HB.out | apply below_alloc | apply pw_below_drewN | apply below_drew1 | refine below_set ?_ GE107001.out) | exact HB.out))) : w.heap.size ≤ gb107002)); have n4_ := Aside0.mk ((by rw [hg]; exact (below_size (by repeat (first | (with_reducible first | exact HB.out | apply below_alloc | apply pw_below_drewN | apply below_drew1 | refine below_set ?_ GE107001.out) | exact HB.out))) : w.heap.size ≤ gb107002)); have n5_ := Aside0.mk ((by rw [hg]; exact Nat.ne_of_lt (blk_lt (g := gb107001) (o := .cells #[.int .i64 a0_0, .int .i64 a0_1, .int .i64 a0_2, .slice A0_3 l0_3.length c0_3] 27 (0, 0)) (by (with_reducible repeat (first | refine blk_drewN ?_ _ | refine blk_drew ?_ | refine blk_alloc ?_ _)); exact BK107001.out)) : gb107001 ≠ gb107002)); have n6_ := Aside0.mk ((by rw [hg]; exact Nat.ne_of_gt (blk_lt (g := gb107001) (o := .cells #[.int .i64 a0_0, .int .i64 a0_1, .int .i64 a0_2, .slice A0_3 l0_3.length c0_3] 27 (0, 0)) (by (with_reducible repeat (first | refine blk_drewN ?_ _ | refine blk_drew ?_ | refine blk_alloc ?_ _)); exact BK107001.out)) : gb107002 ≠ gb107001)); clear BK107001; clear HB; have BK107001 := n0_; have HB := n1_; have BK107002 := n2_; have GW107002 := n3_; have GE107002 := n4_; have NB107001_107002 := n5_; have NB107002_107001 := n6_; clear n0_ n1_ n2_ n3_ n4_ n5_ n6_; clear hb hbox hg; have hnb32 := NB107002_107001.out; have hnc32 := NB107001_107002.out; have hcz33_0 : w31.cell? ⟨gb107002, 0, none⟩ = some (.int .i64 a1_0) := (blk_cell BK107002.out 0).trans rfl; have hcz33_1 : w31.cell? ⟨gb107002, 1, none⟩ = some (.int .i64 a1_1) := (blk_cell BK107002.out 1).trans rfl; have hcz33_2 : w31.cell? ⟨gb107002, 2, none⟩ = some (.int .i64 a1_2) := (blk_cell BK107002.out 2).trans rfl; have hcz33_3 : w31.cell? ⟨gb107002, 3, none⟩ = some (.int .i64 a1_3) := (blk_cell BK107002.out 3).trans rfl; have hfz33_0 := blk_frozen BK107002.out 0; have hfz33_1 := blk_frozen BK107002.out 1; have hfz33_2 := blk_frozen BK107002.out 2; have hfz33_3 := blk_frozen BK107002.out 3; have hcz34_0 : w31.cell? ⟨gb107001, 0, none⟩ = some (.int .i64 a0_0) := (blk_cell BK107001.out 0).trans rfl; have hcz34_1 : w31.cell? ⟨gb107001, 1, none⟩ = some (.int .i64 a0_1) := (blk_cell BK107001.out 1).trans rfl; have hcz34_2 : w31.cell? ⟨gb107001, 2, none⟩ = some (.int .i64 a0_2) := (blk_cell BK107001.out 2).trans rfl; have hcz34_3 : w31.cell? ⟨gb107001, 3, none⟩ = some (.slice A0_3 l0_3.length c0_3) := (blk_cell BK107001.out 3).trans rfl; have hfz34_0 := blk_frozen BK107001.out 0; have hfz34_1 := blk_frozen BK107001.out 1; have hfz34_2 := blk_frozen BK107001.out 2; have hfz34_3 := blk_frozen BK107001.out 3))
          go_ret
          exact ⟨by first | rfl | (simp [errW_none, errW_some] <;> rfl) | (simp [*, errW_none, errW_some] <;> rfl), by repeat (first | (with_reducible first | exact HB.out | apply below_alloc | apply pw_below_drewN | apply below_drew1 | refine below_set ?_ GE107001.out | refine below_set ?_ GE107002.out) | exact HB.out)⟩
      · rw [if_neg c5] at H
        have c5b0 : decide (0 ≤ a1_1) = false := decide_eq_false c5
        clear c5
        obtain rfl := Option.some.inj H
        go_enter Try.func106, Try.ntmps106
        go_wp2_with (first | ((with_reducible refine gate_dst (N := 2) rfl ?_); refine box_event ?hg (N := 2) ?hd (cs := #[.int .i64 a0_0, .int .i64 a0_1, .int .i64 a0_2, .slice A0_3 l0_3.length c0_3]) (t := 27) ?hr ?_; (case hd => rfl); (case hg => rfl); (case hr => first | (go_simp; done) | (go_simp; rfl)); intro gb107001 hg w35 hbox hb; have n0_ := Aside0.mk (below_step (by repeat (first | (with_reducible first | exact HB.out | apply below_alloc | apply pw_below_drewN | apply below_drew1) | exact HB.out)) hb); have n1_ := Aside0.mk (hbox); have n2_ := Aside0.mk ((by rw [hg]; exact (below_size (by repeat (first | (with_reducible first | exact HB.out | apply below_alloc | apply pw_below_drewN | apply below_drew1) | exact HB.out))) : w.heap.size ≤ gb107001)); have n3_ := Aside0.mk ((by rw [hg]; exact (below_size (by repeat (first | (with_reducible first | exact HB.out | apply below_alloc | apply pw_below_drewN | apply below_drew1) | exact HB.out))) : w.heap.size ≤ gb107001)); clear HB; have HB := n0_; have BK107001 := n1_; have GW107001 := n2_; have GE107001 := n3_; clear n0_ n1_ n2_ n3_; clear hb hbox hg) | ((with_reducible refine gate_dst (N := 3) rfl ?_); refine box_event ?hg (N := 3) ?hd (cs := #[.int .i64 a1_0, .int .i64 a1_1, .int .i64 a1_2, .int .i64 a1_3]) (t := 47) ?hr ?_; (case hd => rfl); (case hg => rfl); (case hr => first | (go_simp; done) | (go_simp; rfl)); intro gb107002 hg w36 hbox hb; have n0_ := Aside0.mk (blk_below (g := gb107001) (o := .cells #[.int .i64 a0_0, .int .i64 a0_1, .int .i64 a0_2, .slice A0_3 l0_3.length c0_3] 27 (0, 0)) (by (with_reducible repeat (first | refine blk_drewN ?_ _ | refine blk_drew ?_ | refine blk_alloc ?_ _)); exact BK107001.out) hb); have n1_ := Aside0.mk (below_step (by repeat (first | (with_reducible first | exact HB.out | apply below_alloc | apply pw_below_drewN | apply below_drew1 | refine below_set ?_ GE107001.out) | exact HB.out)) hb); have n2_ := Aside0.mk (hbox); have n3_ := Aside0.mk ((by rw [hg]; exact (below_size (by repeat (first | (with_reducible first | exact HB.out | apply below_alloc | apply pw_below_drewN | apply below_drew1 | refine below_set ?_ GE107001.out) | exact HB.out))) : w.heap.size ≤ gb107002)); have n4_ := Aside0.mk ((by rw [hg]; exact (below_size (by repeat (first | (with_reducible first | exact HB.out | apply below_alloc | apply pw_below_drewN | apply below_drew1 | refine below_set ?_ GE107001.out) | exact HB.out))) : w.heap.size ≤ gb107002)); have n5_ := Aside0.mk ((by rw [hg]; exact Nat.ne_of_lt (blk_lt (g := gb107001) (o := .cells #[.int .i64 a0_0, .int .i64 a0_1, .int .i64 a0_2, .slice A0_3 l0_3.length c0_3] 27 (0, 0)) (by (with_reducible repeat (first | refine blk_drewN ?_ _ | refine blk_drew ?_ | refine blk_alloc ?_ _)); exact BK107001.out)) : gb107001 ≠ gb107002)); have n6_ := Aside0.mk ((by rw [hg]; exact Nat.ne_of_gt (blk_lt (g := gb107001) (o := .cells #[.int .i64 a0_0, .int .i64 a0_1, .int .i64 a0_2, .slice A0_3 l0_3.length c0_3] 27 (0, 0)) (by (with_reducible repeat (first | refine blk_drewN ?_ _ | refine blk_drew ?_ | refine blk_alloc ?_ _)); exact BK107001.out)) : gb107002 ≠ gb107001)); clear BK107001; clear HB; have BK107001 := n0_; have HB := n1_; have BK107002 := n2_; have GW107002 := n3_; have GE107002 := n4_; have NB107001_107002 := n5_; have NB107002_107001 := n6_; clear n0_ n1_ n2_ n3_ n4_ n5_ n6_; clear hb hbox hg; have hnb37 := NB107002_107001.out; have hnc37 := NB107001_107002.out; have hcz38_0 : w36.cell? ⟨gb107002, 0, none⟩ = some (.int .i64 a1_0) := (blk_cell BK107002.out 0).trans rfl; have hcz38_1 : w36.cell? ⟨gb107002, 1, none⟩ = some (.int .i64 a1_1) := (blk_cell BK107002.out 1).trans rfl; have hcz38_2 : w36.cell? ⟨gb107002, 2, none⟩ = some (.int .i64 a1_2) := (blk_cell BK107002.out 2).trans rfl; have hcz38_3 : w36.cell? ⟨gb107002, 3, none⟩ = some (.int .i64 a1_3) := (blk_cell BK107002.out 3).trans rfl; have hfz38_0 := blk_frozen BK107002.out 0; have hfz38_1 := blk_frozen BK107002.out 1; have hfz38_2 := blk_frozen BK107002.out 2; have hfz38_3 := blk_frozen BK107002.out 3; have hcz39_0 : w36.cell? ⟨gb107001, 0, none⟩ = some (.int .i64 a0_0) := (blk_cell BK107001.out 0).trans rfl; have hcz39_1 : w36.cell? ⟨gb107001, 1, none⟩ = some (.int .i64 a0_1) := (blk_cell BK107001.out 1).trans rfl; have hcz39_2 : w36.cell? ⟨gb107001, 2, none⟩ = some (.int .i64 a0_2) := (blk_cell BK107001.out 2).trans rfl; have hcz39_3 : w36.cell? ⟨gb107001, 3, none⟩ = some (.slice A0_3 l0_3.length c0_3) := (blk_cell BK107001.out 3).trans rfl; have hfz39_0 := blk_frozen BK107001.out 0; have hfz39_1 := blk_frozen BK107001.out 1; have hfz39_2 := blk_frozen BK107001.out 2; have hfz39_3 := blk_frozen BK107001.out 3))
        go_ret
        exact ⟨by first | rfl | (simp [errW_none, errW_some] <;> rfl) | (simp [*, errW_none, errW_some] <;> rfl), by repeat (first | (with_reducible first | exact HB.out | apply below_alloc | apply pw_below_drewN | apply below_drew1 | refine below_set ?_ GE107001.out | refine below_set ?_ GE107002.out) | exact HB.out)⟩
    · rw [if_neg c4] at H
      have c4b0 : decide (a1_0 < a0_0) = false := decide_eq_false c4
      clear c4
      obtain rfl := Option.some.inj H
      go_enter Try.func106, Try.ntmps106
      go_wp2_with (first | ((with_reducible refine gate_dst (N := 2) rfl ?_); refine box_event ?hg (N := 2) ?hd (cs := #[.int .i64 a0_0, .int .i64 a0_1, .int .i64 a0_2, .slice A0_3 l0_3.length c0_3]) (t := 27) ?hr ?_; (case hd => rfl); (case hg => rfl); (case hr => first | (go_simp; done) | (go_simp; rfl)); intro gb107001 hg w40 hbox hb; have n0_ := Aside0.mk (below_step (by repeat (first | (with_reducible first | exact HB.out | apply below_alloc | apply pw_below_drewN | apply below_drew1) | exact HB.out)) hb); have n1_ := Aside0.mk (hbox); have n2_ := Aside0.mk ((by rw [hg]; exact (below_size (by repeat (first | (with_reducible first | exact HB.out | apply below_alloc | apply pw_below_drewN | apply below_drew1) | exact HB.out))) : w.heap.size ≤ gb107001)); have n3_ := Aside0.mk ((by rw [hg]; exact (below_size (by repeat (first | (with_reducible first | exact HB.out | apply below_alloc | apply pw_below_drewN | apply below_drew1) | exact HB.out))) : w.heap.size ≤ gb107001)); clear HB; have HB := n0_; have BK107001 := n1_; have GW107001 := n2_; have GE107001 := n3_; clear n0_ n1_ n2_ n3_; clear hb hbox hg) | ((with_reducible refine gate_dst (N := 3) rfl ?_); refine box_event ?hg (N := 3) ?hd (cs := #[.int .i64 a1_0, .int .i64 a1_1, .int .i64 a1_2, .int .i64 a1_3]) (t := 47) ?hr ?_; (case hd => rfl); (case hg => rfl); (case hr => first | (go_simp; done) | (go_simp; rfl)); intro gb107002 hg w41 hbox hb; have n0_ := Aside0.mk (blk_below (g := gb107001) (o := .cells #[.int .i64 a0_0, .int .i64 a0_1, .int .i64 a0_2, .slice A0_3 l0_3.length c0_3] 27 (0, 0)) (by (with_reducible repeat (first | refine blk_drewN ?_ _ | refine blk_drew ?_ | refine blk_alloc ?_ _)); exact BK107001.out) hb); have n1_ := Aside0.mk (below_step (by repeat (first | (with_reducible first | exact HB.out | apply below_alloc | apply pw_below_drewN | apply below_drew1 | refine below_set ?_ GE107001.out) | exact HB.out)) hb); have n2_ := Aside0.mk (hbox); have n3_ := Aside0.mk ((by rw [hg]; exact (below_size (by repeat (first | (with_reducible first | exact HB.out | apply below_alloc | apply pw_below_drewN | apply below_drew1 | refine below_set ?_ GE107001.out) | exact HB.out))) : w.heap.size ≤ gb107002)); have n4_ := Aside0.mk ((by rw [hg]; exact (below_size (by repeat (first | (with_reducible first | exact HB.out | apply below_alloc | apply pw_below_drewN | apply below_drew1 | refine below_set ?_ GE107001.out) | exact HB.out))) : w.heap.size ≤ gb107002)); have n5_ := Aside0.mk ((by rw [hg]; exact Nat.ne_of_lt (blk_lt (g := gb107001) (o := .cells #[.int .i64 a0_0, .int .i64 a0_1, .int .i64 a0_2, .slice A0_3 l0_3.length c0_3] 27 (0, 0)) (by (with_reducible repeat (first | refine blk_drewN ?_ _ | refine blk_drew ?_ | refine blk_alloc ?_ _)); exact BK107001.out)) : gb107001 ≠ gb107002)); have n6_ := Aside0.mk ((by rw [hg]; exact Nat.ne_of_gt (blk_lt (g := gb107001) (o := .cells #[.int .i64 a0_0, .int .i64 a0_1, .int .i64 a0_2, .slice A0_3 l0_3.length c0_3] 27 (0, 0)) (by (with_reducible repeat (first | refine blk_drewN ?_ _ | refine blk_drew ?_ | refine blk_alloc ?_ _)); exact BK107001.out)) : gb107002 ≠ gb107001)); clear BK107001; clear HB; have BK107001 := n0_; have HB := n1_; have BK107002 := n2_; have GW107002 := n3_; have GE107002 := n4_; have NB107001_107002 := n5_; have NB107002_107001 := n6_; clear n0_ n1_ n2_ n3_ n4_ n5_ n6_; clear hb hbox hg; have hnb42 := NB107002_107001.out; have hnc42 := NB107001_107002.out; have hcz43_0 : w41.cell? ⟨gb107002, 0, none⟩ = some (.int .i64 a1_0) := (blk_cell BK107002.out 0).trans rfl; have hcz43_1 : w41.cell? ⟨gb107002, 1, none⟩ = some (.int .i64 a1_1) := (blk_cell BK107002.out 1).trans rfl; have hcz43_2 : w41.cell? ⟨gb107002, 2, none⟩ = some (.int .i64 a1_2) := (blk_cell BK107002.out 2).trans rfl; have hcz43_3 : w41.cell? ⟨gb107002, 3, none⟩ = some (.int .i64 a1_3) := (blk_cell BK107002.out 3).trans rfl; have hfz43_0 := blk_frozen BK107002.out 0; have hfz43_1 := blk_frozen BK107002.out 1; have hfz43_2 := blk_frozen BK107002.out 2; have hfz43_3 := blk_frozen BK107002.out 3; have hcz44_0 : w41.cell? ⟨gb107001, 0, none⟩ = some (.int .i64 a0_0) := (blk_cell BK107001.out 0).trans rfl; have hcz44_1 : w41.cell? ⟨gb107001, 1, none⟩ = some (.int .i64 a0_1) := (blk_cell BK107001.out 1).trans rfl; have hcz44_2 : w41.cell? ⟨gb107001, 2, none⟩ = some (.int .i64 a0_2) := (blk_cell BK107001.out 2).trans rfl; have hcz44_3 : w41.cell? ⟨gb107001, 3, none⟩ = some (.slice A0_3 l0_3.length c0_3) := (blk_cell BK107001.out 3).trans rfl; have hfz44_0 := blk_frozen BK107001.out 0; have hfz44_1 := blk_frozen BK107001.out 1; have hfz44_2 := blk_frozen BK107001.out 2; have hfz44_3 := blk_frozen BK107001.out 3))
      go_ret
      exact ⟨by first | rfl | (simp [errW_none, errW_some] <;> rfl) | (simp [*, errW_none, errW_some] <;> rfl), by repeat (first | (with_reducible first | exact HB.out | apply below_alloc | apply pw_below_drewN | apply below_drew1 | refine below_set ?_ GE107001.out | refine below_set ?_ GE107002.out) | exact HB.out)⟩
  · rw [if_neg c3] at H
    have c3b0 : decide (0 ≤ a1_0) = false := decide_eq_false c3
    clear c3
    obtain rfl := Option.some.inj H
    go_enter Try.func106, Try.ntmps106
    go_wp2_with (first | ((with_reducible refine gate_dst (N := 2) rfl ?_); refine box_event ?hg (N := 2) ?hd (cs := #[.int .i64 a0_0, .int .i64 a0_1, .int .i64 a0_2, .slice A0_3 l0_3.length c0_3]) (t := 27) ?hr ?_; (case hd => rfl); (case hg => rfl); (case hr => first | (go_simp; done) | (go_simp; rfl)); intro gb107001 hg w45 hbox hb; have n0_ := Aside0.mk (below_step (by repeat (first | (with_reducible first | exact HB.out | apply below_alloc | apply pw_below_drewN | apply below_drew1) | exact HB.out)) hb); have n1_ := Aside0.mk (hbox); have n2_ := Aside0.mk ((by rw [hg]; exact (below_size (by repeat (first | (with_reducible first | exact HB.out | apply below_alloc | apply pw_below_drewN | apply below_drew1) | exact HB.out))) : w.heap.size ≤ gb107001)); have n3_ := Aside0.mk ((by rw [hg]; exact (below_size (by repeat (first | (with_reducible first | exact HB.out | apply below_alloc | apply pw_below_drewN | apply below_drew1) | exact HB.out))) : w.heap.size ≤ gb107001)); clear HB; have HB := n0_; have BK107001 := n1_; have GW107001 := n2_; have GE107001 := n3_; clear n0_ n1_ n2_ n3_; clear hb hbox hg) | ((with_reducible refine gate_dst (N := 3) rfl ?_); refine box_event ?hg (N := 3) ?hd (cs := #[.int .i64 a1_0, .int .i64 a1_1, .int .i64 a1_2, .int .i64 a1_3]) (t := 47) ?hr ?_; (case hd => rfl); (case hg => rfl); (case hr => first | (go_simp; done) | (go_simp; rfl)); intro gb107002 hg w46 hbox hb; have n0_ := Aside0.mk (blk_below (g := gb107001) (o := .cells #[.int .i64 a0_0, .int .i64 a0_1, .int .i64 a0_2, .slice A0_3 l0_3.length c0_3] 27 (0, 0)) (by (with_reducible repeat (first | refine blk_drewN ?_ _ | refine blk_drew ?_ | refine blk_alloc ?_ _)); exact BK107001.out) hb); have n1_ := Aside0.mk (below_step (by repeat (first | (with_reducible first | exact HB.out | apply below_alloc | apply pw_below_drewN | apply below_drew1 | refine below_set ?_ GE107001.out) | exact HB.out)) hb); have n2_ := Aside0.mk (hbox); have n3_ := Aside0.mk ((by rw [hg]; exact (below_size (by repeat (first | (with_reducible first | exact HB.out | apply below_alloc | apply pw_below_drewN | apply below_drew1 | refine below_set ?_ GE107001.out) | exact HB.out))) : w.heap.size ≤ gb107002)); have n4_ := Aside0.mk ((by rw [hg]; exact (below_size (by repeat (first | (with_reducible first | exact HB.out | apply below_alloc | apply pw_below_drewN | apply below_drew1 | refine below_set ?_ GE107001.out) | exact HB.out))) : w.heap.size ≤ gb107002)); have n5_ := Aside0.mk ((by rw [hg]; exact Nat.ne_of_lt (blk_lt (g := gb107001) (o := .cells #[.int .i64 a0_0, .int .i64 a0_1, .int .i64 a0_2, .slice A0_3 l0_3.length c0_3] 27 (0, 0)) (by (with_reducible repeat (first | refine blk_drewN ?_ _ | refine blk_drew ?_ | refine blk_alloc ?_ _)); exact BK107001.out)) : gb107001 ≠ gb107002)); have n6_ := Aside0.mk ((by rw [hg]; exact Nat.ne_of_gt (blk_lt (g := gb107001) (o := .cells #[.int .i64 a0_0, .int .i64 a0_1, .int .i64 a0_2, .slice A0_3 l0_3.length c0_3] 27 (0, 0)) (by (with_reducible repeat (first | refine blk_drewN ?_ _ | refine blk_drew ?_ | refine blk_alloc ?_ _)); exact BK107001.out)) : gb107002 ≠ gb107001)); clear BK107001; clear HB; have BK107001 := n0_; have HB := n1_; have BK107002 := n2_; have GW107002 := n3_; have GE107002 := n4_; have NB107001_107002 := n5_; have NB107002_107001 := n6_; clear n0_ n1_ n2_ n3_ n4_ n5_ n6_; clear hb hbox hg; have hnb47 := NB107002_107001.out; have hnc47 := NB107001_107002.out; have hcz48_0 : w46.cell? ⟨gb107002, 0, none⟩ = some (.int .i64 a1_0) := (blk_cell BK107002.out 0).trans rfl; have hcz48_1 : w46.cell? ⟨gb107002, 1, none⟩ = some (.int .i64 a1_1) := (blk_cell BK107002.out 1).trans rfl; have hcz48_2 : w46.cell? ⟨gb107002, 2, none⟩ = some (.int .i64 a1_2) := (blk_cell BK107002.out 2).trans rfl; have hcz48_3 : w46.cell? ⟨gb107002, 3, none⟩ = some (.int .i64 a1_3) := (blk_cell BK107002.out 3).trans rfl; have hfz48_0 := blk_frozen BK107002.out 0; have hfz48_1 := blk_frozen BK107002.out 1; have hfz48_2 := blk_frozen BK107002.out 2; have hfz48_3 := blk_frozen BK107002.out 3))
    go_ret
    exact ⟨by first | rfl | (simp [errW_none, errW_some] <;> rfl) | (simp [*, errW_none, errW_some] <;> rfl), by repeat (first | (with_reducible first | exact HB.out | apply below_alloc | apply pw_below_drewN | apply below_drew1 | refine below_set ?_ GE107001.out | refine below_set ?_ GE107002.out) | exact HB.out)⟩


def impl_copyImage.f (a0_0 : Int) (a0_1 : Int) (a0_2 : Int) (l0_3 : List Int) : Option (Int × Int × Int × List Int) := (some (([] : List Int) : List Int)).bind fun y134003 => (if y134003.length + l0_3.length < 17592186044416 then (some (a0_0, a0_1, a0_2, (y134003 ++ l0_3))) else (none))
set_option maxHeartbeats 8000000 in
set_option maxRecDepth 100000 in
theorem impl_copyImage.calls (a0_0 : Int) (a0_1 : Int) (a0_2 : Int) (A0_3 : Option Addr) (c0_3 : Nat) (l0_3 : List Int) (r1 : Int) (r2 : Int) (r3 : Int) (r4 : List Int) (w : World) (hr0_3 : Kd.C (Kd.int .i64) w A0_3 l0_3.length l0_3) (hc0_3 : l0_3.length ≤ c0_3) (h : impl_copyImage.f a0_0 a0_1 a0_2 l0_3 = some (r1, r2, r3, r4)) :
    Calls Try.prog 133 #[.agg #[.int .i64 a0_0, .int .i64 a0_1, .int .i64 a0_2, .slice A0_3 l0_3.length c0_3]] w fun e w' => ∃ v3_ : Value, e = .returned (.agg #[.int .i64 r1, .int .i64 r2, .int .i64 r3, v3_]) ∧ Kd.R (Kd.int .i64) 3 w' w.heap.size (fun _ => True) v3_ r4 ∧ Below w.heap.size w w' := by
  have hu27 := Try.underlying27
  have HR0_3 := Aside0.mk hr0_3
  have HC0_3 := Aside0.mk hc0_3
  clear hr0_3 hc0_3
  have HB := Aside0.mk (Below.refl w.heap.size w)
  have H : ((some (([] : List Int) : List Int)).bind fun y134003 => (if y134003.length + l0_3.length < 17592186044416 then (some (a0_0, a0_1, a0_2, (y134003 ++ l0_3))) else (none))) = some (r1, r2, r3, r4) := h
  clear h
  obtain ⟨y134003, hy134003⟩ : ∃ y_ : List Int, y_ = (([] : List Int)) := ⟨_, rfl⟩
  replace H : (if y134003.length + l0_3.length < 17592186044416 then (some (a0_0, a0_1, a0_2, (y134003 ++ l0_3))) else (none)) = some (r1, r2, r3, r4) := by first | (rw [hy134003]; with_reducible exact H) | (have H2_ := (Option.bind_some _ _).symm.trans H; rw [hy134003]; with_reducible exact H2_) | (have H2_ := (Option.bind_some _ _).symm.trans H; with_reducible exact H2_) | with_reducible exact H | (rw [hy134003]; exact H) | exact H
  have Ny134003 := Aside0.mk hy134003
  clear hy134003
  by_cases c2 : y134003.length + l0_3.length < 17592186044416
  · rw [if_pos c2] at H
    have LMc2 := Aside0.mk c2
    clear c2
    obtain ⟨y134006, hy134006⟩ : ∃ y_ : List Int, y_ = (y134003 ++ l0_3) := ⟨_, rfl⟩
    replace H : (some (a0_0, a0_1, a0_2, y134006)) = some (r1, r2, r3, r4) := by first | (rw [hy134006]; with_reducible exact H) | (have H2_ := (Option.bind_some _ _).symm.trans H; rw [hy134006]; with_reducible exact H2_) | (have H2_ := (Option.bind_some _ _).symm.trans H; with_reducible exact H2_) | with_reducible exact H | (rw [hy134006]; exact H) | exact H
    have Ny134006 := Aside0.mk hy134006
    clear hy134006
    simp only [Option.some.injEq, Prod.mk.injEq] at H
    obtain ⟨rfl, rfl, rfl, rfl⟩ := H
    go_enter Try.func133, Try.ntmps133
    go_wp2_with (first | ((with_reducible refine gate_dst (N := 1) rfl ?_); refine box_event ?hg (N := 1) ?hd (cs := #[.int .i64 a0_0, .int .i64 a0_1, .int .i64 a0_2, .slice A0_3 l0_3.length c0_3]) (t := 27) ?hr ?_; (case hd => rfl); (case hg => rfl); (case hr => first | (go_simp; done) | (go_simp; rfl)); intro gb134001 hg w3 hbox hb; have n0_ := Aside0.mk (below_step (by repeat (first | (with_reducible first | exact HB.out | apply below_alloc | apply pw_below_drewN | apply below_drew1) | exact HB.out)) hb); have n1_ := Aside0.mk (hbox); have n2_ := Aside0.mk ((by rw [hg]; exact (below_size (by repeat (first | (with_reducible first | exact HB.out | apply below_alloc | apply pw_below_drewN | apply below_drew1) | exact HB.out))) : w.heap.size ≤ gb134001)); have n3_ := Aside0.mk ((by rw [hg]; exact (below_size (by repeat (first | (with_reducible first | exact HB.out | apply below_alloc | apply pw_below_drewN | apply below_drew1) | exact HB.out))) : w.heap.size ≤ gb134001)); clear HB; have HB := n0_; have BK134001 := n1_; have GW134001 := n2_; have GE134001 := n3_; clear n0_ n1_ n2_ n3_; clear hb hbox hg) | ((with_reducible refine gate_dst (N := 2) rfl ?_); refine box_event ?hg (N := 2) ?hd (cs := #[.int .i64 0, .int .i64 0, .int .i64 0, .slice none 0 0]) (t := 27) ?hr ?_; (case hd => rfl); (case hg => rfl); (case hr => first | (go_simp; done) | (go_simp; rfl)); intro gb134002 hg w4 hbox hb; have n0_ := Aside0.mk (blk_below (g := gb134001) (o := .cells #[.int .i64 a0_0, .int .i64 a0_1, .int .i64 a0_2, .slice A0_3 l0_3.length c0_3] 27 (0, 0)) (by (with_reducible repeat (first | refine blk_drewN ?_ _ | refine blk_drew ?_ | refine blk_alloc ?_ _)); exact BK134001.out) hb); have n1_ := Aside0.mk (below_step (by repeat (first | (with_reducible first | exact HB.out | apply below_alloc | apply pw_below_drewN | apply below_drew1 | refine below_set ?_ GE134001.out) | exact HB.out)) hb); have n2_ := Aside0.mk (hbox); have n3_ := Aside0.mk ((by rw [hg]; exact (below_size (by repeat (first | (with_reducible first | exact HB.out | apply below_alloc | apply pw_below_drewN | apply below_drew1 | refine below_set ?_ GE134001.out) | exact HB.out))) : w.heap.size ≤ gb134002)); have n4_ := Aside0.mk ((by rw [hg]; exact (below_size (by repeat (first | (with_reducible first | exact HB.out | apply below_alloc | apply pw_below_drewN | apply below_drew1 | refine below_set ?_ GE134001.out) | exact HB.out))) : w.heap.size ≤ gb134002)); have n5_ := Aside0.mk ((by rw [hg]; exact Nat.ne_of_lt (blk_lt (g := gb134001) (o := .cells #[.int .i64 a0_0, .int .i64 a0_1, .int .i64 a0_2, .slice A0_3 l0_3.length c0_3] 27 (0, 0)) (by (with_reducible repeat (first | refine blk_drewN ?_ _ | refine blk_drew ?_ | refine blk_alloc ?_ _)); exact BK134001.out)) : gb134001 ≠ gb134002)); have n6_ := Aside0.mk ((by rw [hg]; exact Nat.ne_of_gt (blk_lt (g := gb134001) (o := .cells #[.int .i64 a0_0, .int .i64 a0_1, .int .i64 a0_2, .slice A0_3 l0_3.length c0_3] 27 (0, 0)) (by (with_reducible repeat (first | refine blk_drewN ?_ _ | refine blk_drew ?_ | refine blk_alloc ?_ _)); exact BK134001.out)) : gb134002 ≠ gb134001)); clear BK134001; clear HB; have BK134001 := n0_; have HB := n1_; have BK134002 := n2_; have GW134002 := n3_; have GE134002 := n4_; have NB134001_134002 := n5_; have NB134002_134001 := n6_; clear n0_ n1_ n2_ n3_ n4_ n5_ n6_; clear hb hbox hg) | ((with_reducible refine gate_dst (N := 3) rfl ?_); refine Kd.R_lit (Kd.int .i64) _ 3 ?hg (N := 3) ?hd (xs := ([] : List Int)) (inner := []) (ok := fun _ => True) (okp := fun _ => True) ?hr ?hp (fun _ hk => hk) trivial (Below.refl _ _) (Nat.le_refl _) (by simp) ?_; (case hd => rfl); (case hg => rfl); (case hr => first | (go_simp; done) | (go_simp; rfl)); (case hp => exact (Reps.none _ _)); intro v134004 w5 ho6 hb hg_ hnew_; clear hg_ hnew_; (first | rw [← Ny134003.out] at ho6 | (simp only [Int.reduceToNat] at ho6; rw [← Ny134003.out] at ho6)); have n0_ := Aside0.mk (Kd.R_lower ho6 (below_size (by repeat (first | (with_reducible first | exact HB.out | apply below_alloc | apply pw_below_drewN | apply below_drew1 | refine below_set ?_ GE134001.out | refine below_set ?_ GE134002.out) | exact HB.out)))); have n1_ := Aside0.mk (blk_below (g := gb134001) (o := .cells #[.int .i64 a0_0, .int .i64 a0_1, .int .i64 a0_2, .slice A0_3 l0_3.length c0_3] 27 (0, 0)) (by (with_reducible repeat (first | refine blk_drewN ?_ _ | refine blk_drew ?_ | refine blk_alloc ?_ _)); exact BK134001.out) hb); have n2_ := Aside0.mk (blk_below (g := gb134002) (o := .cells #[.int .i64 0, .int .i64 0, .int .i64 0, .slice none 0 0] 27 (0, 0)) (by (with_reducible repeat (first | refine blk_drewN ?_ _ | refine blk_drew ?_ | refine blk_alloc ?_ _)); exact BK134002.out) hb); have n3_ := Aside0.mk (below_step (by repeat (first | (with_reducible first | exact HB.out | apply below_alloc | apply pw_below_drewN | apply below_drew1 | refine below_set ?_ GE134001.out | refine below_set ?_ GE134002.out) | exact HB.out)) hb); clear BK134001; clear BK134002; clear HB; have HO134005 := n0_; have BK134001 := n1_; have BK134002 := n2_; have HB := n3_; clear n0_ n1_ n2_ n3_; clear hb ho6; have hnb7 := NB134001_134002.out; have hnc7 := NB134002_134001.out; have hcz8_0 : w5.cell? ⟨gb134001, 0, none⟩ = some (.int .i64 a0_0) := (blk_cell BK134001.out 0).trans rfl; have hcz8_1 : w5.cell? ⟨gb134001, 1, none⟩ = some (.int .i64 a0_1) := (blk_cell BK134001.out 1).trans rfl; have hcz8_2 : w5.cell? ⟨gb134001, 2, none⟩ = some (.int .i64 a0_2) := (blk_cell BK134001.out 2).trans rfl; have hcz8_3 : w5.cell? ⟨gb134001, 3, none⟩ = some (.slice A0_3 l0_3.length c0_3) := (blk_cell BK134001.out 3).trans rfl; have hfz8_0 := blk_frozen BK134001.out 0; have hfz8_1 := blk_frozen BK134001.out 1; have hfz8_2 := blk_frozen BK134001.out 2; have hfz8_3 := blk_frozen BK134001.out 3) | ((with_reducible refine gate_builtin (b := .append) (xs := #[.tmp 3, .tmp 5]) rfl ?_); at_builtin; refine Kd.R_append_rows (Kd.int .i64) (w0 := w) w.heap.size rfl (.tmp 3) (.tmp 5) 22 3 (.int .i64 0) 8 rfl Try.underlying22 info3 rfl (by decide) (by omega) v134004 y134003 l0_3 _ _ _ (fun _ => True) (fun _ => False) rfl rfl ?aO ?aR (fun _ _ h => h) (fun _ h => h.elim) ?aF ?aB ?aS ?aL ?_; (case aR => repeat (first | exact (Kd.C_below HR0_3.out HB.out) | (with_reducible refine Kd.C_alloc ?_ _) | (with_reducible refine Kd.C_drewN ?_ _) | (with_reducible refine Kd.C_drew ?_))); (case aB => exact (by repeat (first | (with_reducible first | exact HB.out | apply below_alloc | apply pw_below_drewN | apply below_drew1 | refine below_set ?_ GE134001.out | refine below_set ?_ GE134002.out) | exact HB.out))); (case aF => exact (fun _ _ => trivial)); (case aO => exact (by (with_reducible repeat (first | apply Kd.R_alloc | apply Kd.R_drewN | apply Kd.R_drew)); exact HO134005.out)); (case aS => exact (below_size (by repeat (first | (with_reducible first | exact HB.out | apply below_alloc | apply pw_below_drewN | apply below_drew1 | refine below_set ?_ GE134001.out | refine below_set ?_ GE134002.out) | exact HB.out)))); (case aL => have := LMc2.out; omega); intro v134007 w9 ho hb hg hat; rw [← Ny134006.out] at ho; have n0_ := Aside0.mk (blk_grown (g := gb134001) (o := .cells #[.int .i64 a0_0, .int .i64 a0_1, .int .i64 a0_2, .slice A0_3 l0_3.length c0_3] 27 (0, 0)) (by (with_reducible repeat (first | refine blk_drewN ?_ _ | refine blk_drew ?_ | refine blk_alloc ?_ _)); exact BK134001.out) hg (Kd.R_ne HO134005.out BK134001.out (by decide))); have n1_ := Aside0.mk (blk_grown (g := gb134002) (o := .cells #[.int .i64 0, .int .i64 0, .int .i64 0, .slice none 0 0] 27 (0, 0)) (by (with_reducible repeat (first | refine blk_drewN ?_ _ | refine blk_drew ?_ | refine blk_alloc ?_ _)); exact BK134002.out) hg (Kd.R_ne HO134005.out BK134002.out (by decide))); have n2_ := Aside0.mk (hb); have n3_ := Aside0.mk (ho); clear BK134001; clear BK134002; clear HB; clear HO134005; have BK134001 := n0_; have BK134002 := n1_; have HB := n2_; have HO134008 := n3_; clear n0_ n1_ n2_ n3_; clear ho hb hg hat; obtain ⟨Ao10, co10, eo10⟩ := Kd.R_slice HO134008.out; subst eo10; have hcz11_0 : w9.cell? ⟨gb134001, 0, none⟩ = some (.int .i64 a0_0) := (blk_cell BK134001.out 0).trans rfl; have hcz11_1 : w9.cell? ⟨gb134001, 1, none⟩ = some (.int .i64 a0_1) := (blk_cell BK134001.out 1).trans rfl; have hcz11_2 : w9.cell? ⟨gb134001, 2, none⟩ = some (.int .i64 a0_2) := (blk_cell BK134001.out 2).trans rfl; have hcz11_3 : w9.cell? ⟨gb134001, 3, none⟩ = some (.slice A0_3 l0_3.length c0_3) := (blk_cell BK134001.out 3).trans rfl; have hfz11_0 := blk_frozen BK134001.out 0; have hfz11_1 := blk_frozen BK134001.out 1; have hfz11_2 := blk_frozen BK134001.out 2; have hfz11_3 := blk_frozen BK134001.out 3; have hcz12_0 : w9.cell? ⟨gb134002, 0, none⟩ = some (.int .i64 0) := (blk_cell BK134002.out 0).trans rfl; have hcz12_1 : w9.cell? ⟨gb134002, 1, none⟩ = some (.int .i64 0) := (blk_cell BK134002.out 1).trans rfl; have hcz12_2 : w9.cell? ⟨gb134002, 2, none⟩ = some (.int .i64 0) := (blk_cell BK134002.out 2).trans rfl; have hcz12_3 : w9.cell? ⟨gb134002, 3, none⟩ = some (.slice none 0 0) := (blk_cell BK134002.out 3).trans rfl; have hfz12_0 := blk_frozen BK134002.out 0; have hfz12_1 := blk_frozen BK134002.out 1; have hfz12_2 := blk_frozen BK134002.out 2; have hfz12_3 := blk_frozen BK134002.out 3))
    refine bodyPost_ret (results_cell_row rfl _ _ gb134002 27 #[.int .i64 a0_0, .int .i64 a0_1, .int .i64 a0_2, .slice Ao10 y134006.length co10] (0, 0) _ rfl (by (with_reducible repeat (first | refine blk_drewN ?_ _ | refine blk_drew ?_ | refine blk_alloc ?_ _)); refine blk_put (cs := #[.int .i64 a0_0, .int .i64 a0_1, .int .i64 a0_2, .slice none 0 0]) ?_ 3 _ rfl; (with_reducible repeat (first | refine blk_drewN ?_ _ | refine blk_drew ?_ | refine blk_alloc ?_ _)); refine blk_put (cs := #[.int .i64 a0_0, .int .i64 a0_1, .int .i64 0, .slice none 0 0]) ?_ 2 _ rfl; (with_reducible repeat (first | refine blk_drewN ?_ _ | refine blk_drew ?_ | refine blk_alloc ?_ _)); refine blk_put (cs := #[.int .i64 a0_0, .int .i64 0, .int .i64 0, .slice none 0 0]) ?_ 1 _ rfl; (with_reducible repeat (first | refine blk_drewN ?_ _ | refine blk_drew ?_ | refine blk_alloc ?_ _)); refine blk_put (cs := #[.int .i64 0, .int .i64 0, .int .i64 0, .slice none 0 0]) ?_ 0 _ rfl; (with_reducible repeat (first | refine blk_drewN ?_ _ | refine blk_drew ?_ | refine blk_alloc ?_ _)); refine blk_far ?_ NB134002_134001.out _; (with_reducible repeat (first | refine blk_drewN ?_ _ | refine blk_drew ?_ | refine blk_alloc ?_ _)); exact BK134002.out) Try.underlying27 rfl (by kernel_rfl)) rfl ?_
    exact ⟨_, by first | rfl | (simp [errW_none, errW_some] <;> rfl) | (simp [*, errW_none, errW_some] <;> rfl), by (with_reducible repeat (first | apply Kd.R_alloc | apply Kd.R_drewN | apply Kd.R_drew)); exact Kd.R_mono (Kd.R_far (p := ⟨gb134002, 3, none⟩) (Kd.R_far (p := ⟨gb134002, 2, none⟩) (Kd.R_far (p := ⟨gb134002, 1, none⟩) (Kd.R_far (p := ⟨gb134002, 0, none⟩) (Kd.R_far (p := ⟨gb134001, 3, none⟩) (Kd.R_types (Kd.R_types HO134008.out BK134001.out (by decide)) BK134002.out (by decide)) (fun _ hk => hk.1.2) (.slice Ao10 y134006.length co10)) (fun _ hk => hk.2) (.int .i64 a0_0)) (fun _ hk => hk.2) (.int .i64 a0_1)) (fun _ hk => hk.2) (.int .i64 a0_2)) (fun _ hk => hk.2) (.slice Ao10 y134006.length co10)) (fun _ hk => trivial), by repeat (first | (with_reducible first | exact HB.out | apply below_alloc | apply pw_below_drewN | apply below_drew1 | refine below_set ?_ GE134001.out | refine below_set ?_ GE134002.out) | exact HB.out)⟩
  · rw [if_neg c2] at H
    exact absurd H (by simp)

end Go.Proofs.Ytnofkbbcbpjhfaa.Q

/- Plain words: numbers that do not wrap, elements of lists, rounds that are enough. -/
namespace Go.Proofs.Ytnofkbbcbpjhfaa.Pure
open Go.RowKit Go.Proofs.Ytnofkbbcbpjhfaa.Q Go.Proofs.YtnofkbbcbpjhfaaW.PrintWords Go.Proofs.YtnofkbbcbpjhfaaW.PrintLast Go.Proofs.YtnofkbbcbpjhfaaW.PrintMore
set_option linter.unusedVariables false
set_option linter.unusedSimpArgs false

theorem w64 {x : Int} (h1 : -9223372036854775808 ≤ x) (h2 : x ≤ 9223372036854775807) : wrap64 x = x := by unfold wrap64; omega
theorem w64n (n : Nat) (h : n < 9223372036854775807) : wrap64 ((n : Int) + 1) = ((n + 1 : Nat) : Int) := by unfold wrap64; omega
theorem rd_nat (l : List Int) (i : Nat) (h : i < l.length) : rd l (i : Int) = l[i] := by simp [rd, h]
theorem ev_const {α : Type} {o : Option α} {r : α} (h : o = some r) : Ev (fun _ => o) r := ⟨0, fun _ _ => h⟩
theorem ev_bind {α β : Type} {g : Nat → Option α} {f : Nat → α → Option β} {a : α} {r : β} (h : Ev g a) (k : Ev (fun n => f n a) r) : Ev (fun n => (g n).bind (f n)) r := Ev.bind h k
theorem ev_now {α β : Type} {o : Option α} {f : Nat → α → Option β} {a : α} {r : β} (h : o = some a) (k : Ev (fun n => f n a) r) : Ev (fun n => o.bind (f n)) r := Ev.bind (ev_const h) k
theorem ev_pos {α : Type} {c : Prop} [Decidable c] {f g : Nat → Option α} {r : α} (h : c) (k : Ev f r) : Ev (fun n => if c then f n else g n) r := by
  simpa [h] using k
theorem ev_neg {α : Type} {c : Prop} [Decidable c] {f g : Nat → Option α} {r : α} (h : ¬ c) (k : Ev g r) : Ev (fun n => if c then f n else g n) r := by
  simpa [h] using k
/-- A loop that counts up to n: what it answers from i on. -/
theorem loop_up {σ ρ : Type} (K n : Nat) (L : Nat → Nat → σ → Option ρ) (Inv : Nat → σ → Prop) (F : Nat → σ → ρ)
    (step : ∀ i s k, i < n → Inv i s → K ≤ k → (L (k + 1) i s = some (F i s)) ∨ ∃ s', L (k + 1) i s = L k (i + 1) s' ∧ Inv (i + 1) s' ∧ F (i + 1) s' = F i s)
    (last : ∀ s k, Inv n s → K ≤ k → L (k + 1) n s = some (F n s)) :
    ∀ d i s k, i + d = n → Inv i s → K + d < k → L k i s = some (F i s) := by
  intro d
  induction d with
  | zero =>
    intro i s k hi hinv hk
    obtain ⟨k, rfl⟩ : ∃ m, k = m + 1 := ⟨k - 1, by omega⟩
    have : i = n := by omega
    subst this
    exact last s k hinv (by omega)
  | succ d ih =>
    intro i s k hi hinv hk
    obtain ⟨k, rfl⟩ : ∃ m, k = m + 1 := ⟨k - 1, by omega⟩
    rcases step i s k (by omega) hinv (by omega) with h | ⟨s', h, hi', hF⟩
    · exact h
    · rw [h, ih (i + 1) s' k (by omega) hi' (by omega), hF]
/-- The same, from some number of rounds on: for loops in loops. -/
theorem ev_up {σ ρ : Type} (n : Nat) (L : Nat → Nat → σ → Option ρ) (Inv : Nat → σ → Prop) (F : Nat → σ → ρ)
    (step : ∀ i s, i < n → Inv i s → Ev (fun k => L k i s) (F i s) ∨ ∃ s', (∀ k, L (k + 1) i s = L k (i + 1) s') ∧ Inv (i + 1) s' ∧ F (i + 1) s' = F i s)
    (last : ∀ s, Inv n s → Ev (fun k => L k n s) (F n s)) :
    ∀ d i s, i + d = n → Inv i s → Ev (fun k => L k i s) (F i s) := by
  intro d
  induction d with
  | zero =>
    intro i s hi hinv
    have : i = n := by omega
    subst this
    exact last s hinv
  | succ d ih =>
    intro i s hi hinv
    rcases step i s (by omega) hinv with h | ⟨s', h, hi', hF⟩
    · exact h
    · rw [← hF]
      exact Ev.step h (ih (i + 1) s' (by omega) hi')
theorem ev_up2 {σ ρ : Type} (n : Nat) (L : Nat → Nat → σ → Option ρ) (Inv : Nat → σ → Prop) (F : Nat → σ → ρ)
    (step : ∀ i s, i < n → Inv i s → Ev (fun k => L k i s) (F i s) ∨ ∃ s', (∀ r, Ev (fun k => L k (i + 1) s') r → Ev (fun k => L k i s) r) ∧ Inv (i + 1) s' ∧ F (i + 1) s' = F i s)
    (last : ∀ s, Inv n s → Ev (fun k => L k n s) (F n s)) :
    ∀ d i s, i + d = n → Inv i s → Ev (fun k => L k i s) (F i s) := by
  intro d
  induction d with
  | zero =>
    intro i s hi hinv
    have : i = n := by omega
    subst this
    exact last s hinv
  | succ d ih =>
    intro i s hi hinv
    rcases step i s (by omega) hinv with h | ⟨s', h, hi', hF⟩
    · exact h
    · rw [← hF]
      exact h _ (ih (i + 1) s' (by omega) hi')
theorem ev_val {α : Type} {g : Nat → Option α} {r r' : α} (h : Ev g r) (e : r = r') : Ev g r' := e ▸ h
theorem take_set {α : Type} (s : List α) (i : Nat) (c : α) (h : i < s.length) : (s.set i c).take (i + 1) = s.take i ++ [c] := by
  rw [List.take_succ_eq_append_getElem (by simpa using h), List.take_set_of_le (Nat.le_refl i)]
  simp
end Go.Proofs.Ytnofkbbcbpjhfaa.Pure

/- (impl.Image).at: the numbers of a pixel, in the memory of the image. -/
namespace Go.Proofs.Ytnofkbbcbpjhfaa.Q
open Go.RowKit Go.Proofs.YtnofkbbcbpjhfaaW.PrintWords Go.Proofs.YtnofkbbcbpjhfaaW.PrintLast Go.Proofs.YtnofkbbcbpjhfaaW.PrintMore
attribute [local go_sem] max2_int min2_int max_two min_two max_three min_three max_four min_four
set_option linter.unusedVariables false
set_option linter.unusedSimpArgs false
open Go.Proofs.Ytnofkbbcbpjhfaa.Pure

/-- the numbers from j on, p of them -/
def pixT (d : List Int) (j p : Int) : List Int := (d.take (wrap64 (j + p) : Int).toNat).drop (j : Int).toNat
set_option maxHeartbeats 1600000 in
set_option maxRecDepth 100000 in
theorem at_callsX (a b p : Int) (A : Option Addr) (c n : Nat) (x y j : Int) (hc : n ≤ c) (hj : wrap64 ((wrap64 ((wrap64 (y * a)) + x)) * p) = j) (h0 : 0 ≤ j) (h1 : j ≤ wrap64 (j + p)) (h2 : wrap64 (j + p) ≤ (n : Int)) (A' : Option Addr) (hA : A' = if c = j.toNat then A else A.map (·.add (j.toNat * 1))) (w : World) :
    Calls Try.prog 109 #[.agg #[.int .i64 a, .int .i64 b, .int .i64 p, .slice A n c], .int .i64 x, .int .i64 y] w fun e w' => e = .returned (.slice A' ((wrap64 (j + p)).toNat - j.toNat) (c - j.toNat)) ∧ Below w.heap.size w w' := by
  obtain ⟨i0, hi0, _, hsz, _⟩ := info_parts info3
  have hcut := cut_mid (P := Try.prog) 22 3 .i64 .i64 Try.underlying22 hi0 1 hsz A n c j (wrap64 (j + p)) h0 h1 h2 hc
  rw [← hA] at hcut
  clear hA
  have hu := Try.underlying27
  have hjw : (IntKind.i64.wrap ((wrap64 ((wrap64 (y * a)) + x)) * p)) = j := (i64_w _).trans hj
  have d0 : decide (0 ≤ j) = true := decide_eq_true h0
  have d1 : decide (j ≤ wrap64 (j + p)) = true := decide_eq_true h1
  have d2 : decide (wrap64 (j + p) ≤ (n : Int)) = true := decide_eq_true h2
  have e0 := eq_true h0
  have e1 := eq_true h1
  have e2 := eq_true h2
  clear hi0 hsz hj
  go_enter Try.func109, Try.ntmps109
  go_wp2_with (first | ((with_reducible refine gate_dst (N := 3) rfl ?_); refine box_event ?hg (N := 3) ?hd (cs := #[.int .i64 a, .int .i64 b, .int .i64 p, .slice A n c]) (t := 27) ?hr ?_; (case hd => rfl); (case hg => rfl); (case hr => first | (go_simp; done) | (go_simp; rfl)); intro gb hg w9 hbox hb; have HB := Aside0.mk (below_step (Below.refl w.heap.size w) hb); have BK := Aside0.mk hbox; have hcz0 : w9.cell? ⟨gb, 0, none⟩ = some (.int .i64 a) := (blk_cell BK.out 0).trans rfl; have hcz1 : w9.cell? ⟨gb, 1, none⟩ = some (.int .i64 b) := (blk_cell BK.out 1).trans rfl; have hcz2 : w9.cell? ⟨gb, 2, none⟩ = some (.int .i64 p) := (blk_cell BK.out 2).trans rfl; have hcz3 : w9.cell? ⟨gb, 3, none⟩ = some (.slice A n c) := (blk_cell BK.out 3).trans rfl; clear hbox hb hg))
  go_ret
  exact ⟨rfl, HB.out⟩
theorem pixT_length (d : List Int) (j p : Int) (h2 : wrap64 (j + p) ≤ (d.length : Int)) : (pixT d j p).length = (wrap64 (j + p)).toNat - j.toNat := by
  unfold pixT
  rw [List.length_drop, List.length_take, Nat.min_eq_left (by omega)]
theorem pixT_C {w : World} {A : Option Addr} {c : Nat} {d : List Int} {j p : Int} (h : Kd.C (Kd.int .i64) w A d.length d) (hc : d.length ≤ c) (h1 : j ≤ wrap64 (j + p)) (h2 : wrap64 (j + p) ≤ (d.length : Int)) :
    Kd.C (Kd.int .i64) w (if c = j.toNat then A else A.map (·.add (j.toNat * 1))) (pixT d j p).length (pixT d j p) := Kd.C_mid h (by omega) (by omega) hc
theorem at_calls (a b p : Int) (A : Option Addr) (c : Nat) (d : List Int) (x y j : Int) (hc : d.length ≤ c) (hj : wrap64 ((wrap64 ((wrap64 (y * a)) + x)) * p) = j) (h0 : 0 ≤ j) (h1 : j ≤ wrap64 (j + p)) (h2 : wrap64 (j + p) ≤ (d.length : Int)) :
    ∃ (A' : Option Addr) (c' : Nat), (pixT d j p).length ≤ c' ∧ ∀ w : World, Kd.C (Kd.int .i64) w A d.length d → (Kd.C (Kd.int .i64) w A' (pixT d j p).length (pixT d j p) ∧
      Calls Try.prog 109 #[.agg #[.int .i64 a, .int .i64 b, .int .i64 p, .slice A d.length c], .int .i64 x, .int .i64 y] w fun e w' => e = .returned (.slice A' (pixT d j p).length c') ∧ Below w.heap.size w w') := by
  refine ⟨_, c - j.toNat, by rw [pixT_length d j p h2]; omega, fun w hr => ⟨pixT_C hr hc h1 h2, ?_⟩⟩
  rw [pixT_length d j p h2]
  exact at_callsX a b p A c d.length x y j hc hj h0 h1 h2 _ rfl w
end Go.Proofs.Ytnofkbbcbpjhfaa.Q

namespace Go.Proofs.Ytnofkbbcbpjhfaa.Q
open Go.RowKit Go.Proofs.YtnofkbbcbpjhfaaW.PrintWords Go.Proofs.YtnofkbbcbpjhfaaW.PrintLast Go.Proofs.YtnofkbbcbpjhfaaW.PrintMore
attribute [local go_sem] max2_int min2_int max_two min_two max_three min_three max_four min_four
set_option linter.unusedVariables false
set_option linter.unusedSimpArgs false
def laws_szIntS.f (l0 : List Int) (a1 : Int) : Option (Int) := if (wrap64 (a1 - (l0.length : Int))) < 0 then (some (-1)) else (some (wrap64 (a1 - (l0.length : Int))))
set_option maxHeartbeats 8000000 in
set_option maxRecDepth 100000 in
theorem laws_szIntS.calls (A0 : Option Addr) (c0 : Nat) (l0 : List Int) (a1 : Int) (r : Int) (w : World) (hr0 : Kd.C (Kd.int .i64) w A0 l0.length l0) (hc0 : l0.length ≤ c0) (h : laws_szIntS.f l0 a1 = some r) :
    Calls Try.prog 80 #[.slice A0 l0.length c0, .int .i64 a1] w fun e w' => e = .returned (.int .i64 r) ∧ Drawn0 w w' := by
  have HR0 := Aside0.mk hr0
  have HC0 := Aside0.mk hc0
  clear hr0 hc0
  have H : (if (wrap64 (a1 - (l0.length : Int))) < 0 then (some (-1)) else (some (wrap64 (a1 - (l0.length : Int))))) = some r := h
  clear h
  by_cases c3 : (wrap64 (a1 - (l0.length : Int))) < 0
  · rw [if_pos c3] at H
    have c3b0 : decide ((wrap64 (a1 - (l0.length : Int))) < 0) = true := decide_eq_true c3
    clear c3
    obtain rfl := Option.some.inj H
    go_enter Try.func80, Try.ntmps80
    go_wp2
    go_ret
    exact ⟨by first | rfl | (simp; done) | (simp [*]; done), by repeat (first | exact Drawn0.refl _ | apply Drawn0.step)⟩
  · rw [if_neg c3] at H
    have c3b0 : decide ((wrap64 (a1 - (l0.length : Int))) < 0) = false := decide_eq_false c3
    clear c3
    obtain rfl := Option.some.inj H
    go_enter Try.func80, Try.ntmps80
    go_wp2
    go_ret
    exact ⟨by first | rfl | (simp; done) | (simp [*]; done), by repeat (first | exact Drawn0.refl _ | apply Drawn0.step)⟩


def laws_szImage.f (a0_0 : Int) (a0_1 : Int) (a0_2 : Int) (l0_3 : List Int) (a1 : Int) : Option (Int) := (laws_szIntS.f l0_3 a1).bind fun t21002 => (if t21002 < 0 then (some (-1)) else (some t21002))
set_option maxHeartbeats 8000000 in
set_option maxRecDepth 100000 in
theorem laws_szImage.calls (a0_0 : Int) (a0_1 : Int) (a0_2 : Int) (A0_3 : Option Addr) (c0_3 : Nat) (l0_3 : List Int) (a1 : Int) (r : Int) (w : World) (hr0_3 : Kd.C (Kd.int .i64) w A0_3 l0_3.length l0_3) (hc0_3 : l0_3.length ≤ c0_3) (h : laws_szImage.f a0_0 a0_1 a0_2 l0_3 a1 = some r) :
    Calls Try.prog 20 #[.agg #[.int .i64 a0_0, .int .i64 a0_1, .int .i64 a0_2, .slice A0_3 l0_3.length c0_3], .int .i64 a1] w fun e w' => e = .returned (.int .i64 r) ∧ Below w.heap.size w w' := by
  have hu24 := Try.underlying24
  have HR0_3 := Aside0.mk hr0_3
  have HC0_3 := Aside0.mk hc0_3
  clear hr0_3 hc0_3
  have HB := Aside0.mk (Below.refl w.heap.size w)
  have H : ((laws_szIntS.f l0_3 a1).bind fun t21002 => (if t21002 < 0 then (some (-1)) else (some t21002))) = some r := h
  clear h
  replace H := Option.bind_eq_some_iff.mp H
  obtain ⟨t21002, A30, H⟩ := H
  replace H : (if t21002 < 0 then (some (-1)) else (some t21002)) = some r := H
  have A3 := Aside0.mk A30
  clear A30
  by_cases c4 : t21002 < 0
  · rw [if_pos c4] at H
    have c4b0 : decide (t21002 < 0) = true := decide_eq_true c4
    clear c4
    obtain rfl := Option.some.inj H
    go_enter Try.func20, Try.ntmps20
    go_wp2_with (first | ((with_reducible refine gate_dst (N := 2) rfl ?_); refine box_event ?hg (N := 2) ?hd (cs := #[.int .i64 a0_0, .int .i64 a0_1, .int .i64 a0_2, .slice A0_3 l0_3.length c0_3]) (t := 24) ?hr ?_; (case hd => rfl); (case hg => rfl); (case hr => first | (go_simp; done) | (go_simp; rfl)); intro gb21001 hg w5 hbox hb; have n0_ := Aside0.mk (below_step (by repeat (first | (with_reducible first | exact HB.out | apply below_alloc | apply pw_below_drewN | apply below_drew1) | exact HB.out)) hb); have n1_ := Aside0.mk (hbox); have n2_ := Aside0.mk ((by rw [hg]; exact (below_size (by repeat (first | (with_reducible first | exact HB.out | apply below_alloc | apply pw_below_drewN | apply below_drew1) | exact HB.out))) : w.heap.size ≤ gb21001)); have n3_ := Aside0.mk ((by rw [hg]; exact (below_size (by repeat (first | (with_reducible first | exact HB.out | apply below_alloc | apply pw_below_drewN | apply below_drew1) | exact HB.out))) : w.heap.size ≤ gb21001)); clear HB; have HB := n0_; have BK21001 := n1_; have GW21001 := n2_; have GE21001 := n3_; clear n0_ n1_ n2_ n3_; clear hb hbox hg; have hcz6_0 : w5.cell? ⟨gb21001, 0, none⟩ = some (.int .i64 a0_0) := (blk_cell BK21001.out 0).trans rfl; have hcz6_1 : w5.cell? ⟨gb21001, 1, none⟩ = some (.int .i64 a0_1) := (blk_cell BK21001.out 1).trans rfl; have hcz6_2 : w5.cell? ⟨gb21001, 2, none⟩ = some (.int .i64 a0_2) := (blk_cell BK21001.out 2).trans rfl; have hcz6_3 : w5.cell? ⟨gb21001, 3, none⟩ = some (.slice A0_3 l0_3.length c0_3) := (blk_cell BK21001.out 3).trans rfl; have hfz6_0 := blk_frozen BK21001.out 0; have hfz6_1 := blk_frozen BK21001.out 1; have hfz6_2 := blk_frozen BK21001.out 2; have hfz6_3 := blk_frozen BK21001.out 3) | ((with_reducible refine gate_callee (f := 80) rfl ?_); refine goesL_ (some 8) rfl rfl Try.func80 (by kernel_rfl) rfl #[.slice A0_3 l0_3.length c0_3, .int .i64 a1] rfl (by (try simp only [List.map_toArray, List.map_cons, List.map_nil]); first | done | rfl | (simp only [List.length_drop, List.length_take]; rfl)) ?_; (with_reducible refine (laws_szIntS.calls _ _ l0_3 a1 t21002 _ ?side1 ?side2 A3.out).mono ?_); (case side1 => repeat (first | exact (Kd.C_below HR0_3.out HB.out) | (with_reducible refine Kd.C_alloc ?_ _) | (with_reducible refine Kd.C_drewN ?_ _) | (with_reducible refine Kd.C_drew ?_))); (case side2 => exact HC0_3.out); rintro e w' ⟨rfl, ⟨nd, rfl⟩⟩; refine ⟨_, rfl, ?_⟩))
    go_ret
    exact ⟨by first | rfl | (simp [errW_none, errW_some] <;> rfl) | (simp [*, errW_none, errW_some] <;> rfl), by repeat (first | (with_reducible first | exact HB.out | apply below_alloc | apply pw_below_drewN | apply below_drew1 | refine below_set ?_ GE21001.out) | exact HB.out)⟩
  · rw [if_neg c4] at H
    have c4b0 : decide (t21002 < 0) = false := decide_eq_false c4
    clear c4
    obtain rfl := Option.some.inj H
    go_enter Try.func20, Try.ntmps20
    go_wp2_with (first | ((with_reducible refine gate_dst (N := 2) rfl ?_); refine box_event ?hg (N := 2) ?hd (cs := #[.int .i64 a0_0, .int .i64 a0_1, .int .i64 a0_2, .slice A0_3 l0_3.length c0_3]) (t := 24) ?hr ?_; (case hd => rfl); (case hg => rfl); (case hr => first | (go_simp; done) | (go_simp; rfl)); intro gb21001 hg w7 hbox hb; have n0_ := Aside0.mk (below_step (by repeat (first | (with_reducible first | exact HB.out | apply below_alloc | apply pw_below_drewN | apply below_drew1) | exact HB.out)) hb); have n1_ := Aside0.mk (hbox); have n2_ := Aside0.mk ((by rw [hg]; exact (below_size (by repeat (first | (with_reducible first | exact HB.out | apply below_alloc | apply pw_below_drewN | apply below_drew1) | exact HB.out))) : w.heap.size ≤ gb21001)); have n3_ := Aside0.mk ((by rw [hg]; exact (below_size (by repeat (first | (with_reducible first | exact HB.out | apply below_alloc | apply pw_below_drewN | apply below_drew1) | exact HB.out))) : w.heap.size ≤ gb21001)); clear HB; have HB := n0_; have BK21001 := n1_; have GW21001 := n2_; have GE21001 := n3_; clear n0_ n1_ n2_ n3_; clear hb hbox hg; have hcz8_0 : w7.cell? ⟨gb21001, 0, none⟩ = some (.int .i64 a0_0) := (blk_cell BK21001.out 0).trans rfl; have hcz8_1 : w7.cell? ⟨gb21001, 1, none⟩ = some (.int .i64 a0_1) := (blk_cell BK21001.out 1).trans rfl; have hcz8_2 : w7.cell? ⟨gb21001, 2, none⟩ = some (.int .i64 a0_2) := (blk_cell BK21001.out 2).trans rfl; have hcz8_3 : w7.cell? ⟨gb21001, 3, none⟩ = some (.slice A0_3 l0_3.length c0_3) := (blk_cell BK21001.out 3).trans rfl; have hfz8_0 := blk_frozen BK21001.out 0; have hfz8_1 := blk_frozen BK21001.out 1; have hfz8_2 := blk_frozen BK21001.out 2; have hfz8_3 := blk_frozen BK21001.out 3) | ((with_reducible refine gate_callee (f := 80) rfl ?_); refine goesL_ (some 8) rfl rfl Try.func80 (by kernel_rfl) rfl #[.slice A0_3 l0_3.length c0_3, .int .i64 a1] rfl (by (try simp only [List.map_toArray, List.map_cons, List.map_nil]); first | done | rfl | (simp only [List.length_drop, List.length_take]; rfl)) ?_; (with_reducible refine (laws_szIntS.calls _ _ l0_3 a1 t21002 _ ?side1 ?side2 A3.out).mono ?_); (case side1 => repeat (first | exact (Kd.C_below HR0_3.out HB.out) | (with_reducible refine Kd.C_alloc ?_ _) | (with_reducible refine Kd.C_drewN ?_ _) | (with_reducible refine Kd.C_drew ?_))); (case side2 => exact HC0_3.out); rintro e w' ⟨rfl, ⟨nd, rfl⟩⟩; refine ⟨_, rfl, ?_⟩))
    go_ret
    exact ⟨by first | rfl | (simp [errW_none, errW_some] <;> rfl) | (simp [*, errW_none, errW_some] <;> rfl), by repeat (first | (with_reducible first | exact HB.out | apply below_alloc | apply pw_below_drewN | apply below_drew1 | refine below_set ?_ GE21001.out) | exact HB.out)⟩


def laws_toIntS.l0 : Nat → List Int → List Int → Int → Option (List Int)
  | 0, _, _, _ => none
  | k + 1, x0, x3, x4 => if x4 < (x0.length : Int) then (if 0 ≤ x4 then (if x4 < (x3.length : Int) then (laws_toIntS.l0 k x0 (x3.set (x4 : Int).toNat (rd x0 x4)) (wrap64 (x4 + 1))) else (none)) else (none)) else (some x3)
def laws_toIntS.f (k : Nat) (l0 : List Int) : Option (List Int) := if 0 ≤ (l0.length : Int) then (if ((l0.length : Int) : Int).toNat ≤ 35184372088832 then (laws_toIntS.l0 k l0 (List.replicate ((l0.length : Int) : Int).toNat 0) 0) else (none)) else (none)
theorem laws_toIntS.mono_l : ∀ k, (∀ y0 y1 y2, LeO (laws_toIntS.l0 k y0 y1 y2) (laws_toIntS.l0 (k + 1) y0 y1 y2))
  | 0 => fun _ _ _ r h => by simp [laws_toIntS.l0] at h
  | k + 1 => by
    have ih0 := laws_toIntS.mono_l k
    · intro y0 y1 y2
      unfold laws_toIntS.l0
      repeat' first
      | (with_reducible exact ih0 _ _ _)
      | (with_reducible exact LeO.refl _)
      | (with_reducible exact LeO.none _)
      | (with_reducible refine LeO.ite ?_ ?_)
      | (with_reducible refine LeO.bind ?_ (fun _ => ?_))
      | exact ih0 _ _ _
      | exact LeO.none _
      | refine LeO.ite ?_ ?_
      | refine LeO.bind ?_ (fun _ => ?_)
theorem laws_toIntS.mono : ∀ a0 k, LeO (laws_toIntS.f k a0) (laws_toIntS.f (k + 1) a0) := by
  intro a0 k
  have ih0 := laws_toIntS.mono_l k
  unfold laws_toIntS.f
  repeat' first
      | (with_reducible exact ih0 _ _ _)
      | (with_reducible exact LeO.refl _)
      | (with_reducible exact LeO.none _)
      | (with_reducible refine LeO.ite ?_ ?_)
      | (with_reducible refine LeO.bind ?_ (fun _ => ?_))
      | exact ih0 _ _ _
      | exact LeO.none _
      | refine LeO.ite ?_ ?_
      | refine LeO.bind ?_ (fun _ => ?_)
set_option maxHeartbeats 8000000 in
set_option maxRecDepth 100000 in
theorem laws_toIntS.calls (k : Nat) (A0 : Option Addr) (c0 : Nat) (l0 : List Int) (r : List Int) (w : World) (hr0 : Kd.C (Kd.int .i64) w A0 l0.length l0) (hc0 : l0.length ≤ c0) (h : laws_toIntS.f k l0 = some r) :
    Calls Try.prog 77 #[.slice A0 l0.length c0] w fun e w' => ∃ v0_ : Value, e = .returned (v0_) ∧ Kd.R (Kd.int .i64) 3 w' w.heap.size (fun _ => True) v0_ r ∧ Below w.heap.size w w' := by
  have HR0 := Aside0.mk hr0
  have HC0 := Aside0.mk hc0
  clear hr0 hc0
  have HB := Aside0.mk (Below.refl w.heap.size w)
  have H : (if 0 ≤ (l0.length : Int) then (if ((l0.length : Int) : Int).toNat ≤ 35184372088832 then (laws_toIntS.l0 k l0 (List.replicate ((l0.length : Int) : Int).toNat 0) 0) else (none)) else (none)) = some r := h
  clear h
  by_cases c2 : 0 ≤ (l0.length : Int)
  · rw [if_pos c2] at H
    have c2b0 := eq_true c2
    have c2b1 : decide (0 ≤ (l0.length : Int)) = true := decide_eq_true c2
    clear c2
    by_cases c3 : ((l0.length : Int) : Int).toNat ≤ 35184372088832
    · rw [if_pos c3] at H
      have c3b0 := eq_true c3
      have c3b1 : decide (((l0.length : Int) : Int).toNat ≤ 35184372088832) = true := decide_eq_true c3
      clear c3
      obtain ⟨y78001, hy78001⟩ : ∃ y_ : List Int, y_ = (List.replicate ((l0.length : Int) : Int).toNat 0) := ⟨_, rfl⟩
      replace H : (laws_toIntS.l0 k l0 y78001 0) = some r := by first | (rw [hy78001]; with_reducible exact H) | (have H2_ := (Option.bind_some _ _).symm.trans H; rw [hy78001]; with_reducible exact H2_) | (have H2_ := (Option.bind_some _ _).symm.trans H; with_reducible exact H2_) | with_reducible exact H | (rw [hy78001]; exact H) | exact H
      have Ny78001 := Aside0.mk hy78001
      clear hy78001
      have H' := Aside0.mk H
      clear H
      go_enter Try.func77, Try.ntmps77
      go_wp2_with (first | ((with_reducible refine gate_dst (N := 7) rfl ?_); refine Kd.R_make (Kd.int .i64) _ 3 rfl (N := 7) rfl 22 _ _ rfl (l0.length : Int) rfl rfl Try.underlying22 (.int .i64 0) 8 info3 rfl (by decide) (by omega) 0 (ok := fun _ => True) (okp := fun _ => True) rfl (fun _ hk => hk) trivial (of_decide_eq_true (by first | (with_reducible assumption) | assumption)) (Nat.le_trans (Nat.mul_le_mul_right _ (of_decide_eq_true (by first | (with_reducible assumption) | assumption) : (l0.length : Int).toNat ≤ 35184372088832)) (by omega)) (Below.refl _ _) (Nat.le_refl _) ?_; intro v78002 w4 ho5 hb hg_ hnew_; clear hg_ hnew_; (first | rw [← Ny78001.out] at ho5 | (simp only [Int.reduceToNat] at ho5; rw [← Ny78001.out] at ho5)); have n0_ := Aside0.mk (Kd.R_lower ho5 (below_size (by repeat (first | (with_reducible first | exact HB.out | apply below_alloc | apply pw_below_drewN | apply below_drew1) | exact HB.out)))); have n1_ := Aside0.mk (below_step (by repeat (first | (with_reducible first | exact HB.out | apply below_alloc | apply pw_below_drewN | apply below_drew1) | exact HB.out)) hb); clear HB; have HO78003 := n0_; have HB := n1_; clear n0_ n1_; clear hb ho5))
      go_loopg [4] k (fun kq v4 w' => ∃ (x3_1 : List Int) (x4_1 : Int), v4 = .int .i64 x4_1 ∧ Aside0 (laws_toIntS.l0 kq l0 x3_1 x4_1 = some r) ∧ Aside0 (kq ≤ k) ∧ Aside0 (Kd.R (Kd.int .i64) 3 w' w.heap.size (fun _ => True) v78002 x3_1) ∧ Aside0 (Below w.heap.size w w'))
      case atStart => exact ⟨(y78001), (0), (by first | rfl | (simp; done) | (simp [*]; done)), H', ⟨Nat.le_refl _⟩, ⟨by (with_reducible repeat (first | apply Kd.R_alloc | apply Kd.R_drewN | apply Kd.R_drew)); exact HO78003.out⟩, ⟨by repeat (first | (with_reducible first | exact HB.out | apply below_alloc | apply pw_below_drewN | apply below_drew1) | exact HB.out)⟩⟩
      case round =>
        clear H'
        try clear c2
        try clear c2b0
        try clear c2b1
        try clear p2
        try clear c3
        try clear c3b0
        try clear c3b1
        obtain ⟨x3_1, x4_1, rfl, HA, HK1, HO_3, HB⟩ := hrel
        cases gk with
        | zero => exact absurd HA.out (by simp [laws_toIntS.l0])
        | succ k1 =>
          have H := HA.out
          clear HA
          simp only [laws_toIntS.l0] at H
          by_cases c6 : x4_1 < (l0.length : Int)
          · rw [if_pos c6] at H
            have c6b0 : decide (x4_1 < (l0.length : Int)) = true := decide_eq_true c6
            clear c6
            by_cases c7 : 0 ≤ x4_1
            · rw [if_pos c7] at H
              have c7b0 : decide (0 ≤ x4_1) = true := decide_eq_true c7
              clear c7
              by_cases c8 : x4_1 < (x3_1.length : Int)
              · rw [if_pos c8] at H
                have c8b0 : decide (x4_1 < (x3_1.length : Int)) = true := decide_eq_true c8
                clear c8
                obtain ⟨y78005, hy78005⟩ : ∃ y_ : List Int, y_ = (x3_1.set (x4_1 : Int).toNat (rd l0 x4_1)) := ⟨_, rfl⟩
                replace H : (laws_toIntS.l0 k1 l0 y78005 (wrap64 (x4_1 + 1))) = some r := by first | (rw [hy78005]; with_reducible exact H) | (have H2_ := (Option.bind_some _ _).symm.trans H; rw [hy78005]; with_reducible exact H2_) | (have H2_ := (Option.bind_some _ _).symm.trans H; with_reducible exact H2_) | with_reducible exact H | (rw [hy78005]; exact H) | exact H
                have Ny78005 := Aside0.mk hy78005
                clear hy78005
                have H' := Aside0.mk H
                clear H
                have p78004 : 0 ≤ (x4_1 : Int) := of_decide_eq_true (by first | (with_reducible assumption) | assumption)
                have q78004 : x4_1 < (l0.length : Int) := of_decide_eq_true (by first | (with_reducible assumption) | assumption)
                obtain ⟨ad78004, e78004, hx78004_0⟩ := Kd.at_int HR0.out x4_1 p78004 q78004
                cases e78004
                replace hx78004_0 := (HB.out.cell (World.block_lt_of_cell? w _ hx78004_0)).trans hx78004_0
                replace p78004 := eq_true p78004
                replace q78004 := eq_true q78004
                have p9 : 0 ≤ (x4_1 : Int) := of_decide_eq_true (by first | (with_reducible assumption) | assumption)
                have q9 : (x4_1 : Int) < ((x3_1.length : Int) : Int) := of_decide_eq_true (by first | (with_reducible assumption) | assumption)
                obtain ⟨go9, co9, eo9, gb9, gl9, cl9, HG9⟩ := Kd.R_form HO_3.out (by omega)
                (first | cases eo9 | (injection eo9 with ea_ en_ ec_; (first | subst ea_ | (injection ea_ with ea_; subst ea_)); subst ec_; clear en_))
                have GB9 := Aside0.mk gb9
                have GG9 := Aside0.mk HG9
                clear gb9 gl9 HG9
                obtain ⟨hx9_0, hf9_0⟩ := Kd.R_celln 0 HO_3.out (x4_1 : Int) p9 q9
                replace p9 := eq_true p9
                replace q9 := eq_true q9
                have HP10 := Kd.R_putg HO_3.out (x4_1 : Int) (rd l0 x4_1)
                go_wp2_with (first | ((with_reducible refine gate_store (t := 3) (p := 20) rfl ?_); refine store_event (t := 3) (p := 20) (v := ?vo_w11) (w1 := (wr.setCell ⟨go9, (x4_1 : Int).toNat, none⟩ (.int .i64 (rd l0 x4_1)))) ?hg ?ho ?hn ?hr ?_; (case ho => rfl); (case hg => rfl); (case hn => rfl); (case hr => first | (go_simp; done) | (go_simp; rfl)); intro w11 hw; have hg : wr.grownBy w11 (some go9) := (by rw [hw]; exact HP10.2); have hp_ : Kd.R (Kd.int .i64) 3 w11 w.heap.size (fun _ => True) (.slice (some ⟨go9, 0, none⟩) x3_1.length co9) y78005 := (by rw [hw, Ny78005.out]; exact HP10.1); clear HP10; have n0_ := Aside0.mk (hp_); have n1_ := Aside0.mk ((by rw [hw]; exact below_set (HB.out) GB9.out : Below w.heap.size w w11)); clear HO_3; clear HB; have HO_3 := n0_; have HB := n1_; clear n0_ n1_; clear hg hw hp_))
                go_roundg k1
                case measure => have := HK1.out; omega
                case rel => exact ⟨(y78005), (wrap64 (x4_1 + 1)), (by first | rfl | (simp; done) | (simp [*]; done)), H', ⟨by have := HK1.out; omega⟩, ⟨by (with_reducible repeat (first | apply Kd.R_alloc | apply Kd.R_drewN | apply Kd.R_drew)); exact HO_3.out⟩, ⟨by repeat (first | (with_reducible first | exact HB.out | apply below_alloc | apply pw_below_drewN | apply below_drew1) | exact HB.out)⟩⟩
              · rw [if_neg c8] at H
                exact absurd H (by simp)
            · rw [if_neg c7] at H
              exact absurd H (by simp)
          · rw [if_neg c6] at H
            have c6b0 : decide (x4_1 < (l0.length : Int)) = false := decide_eq_false c6
            clear c6
            obtain rfl := Option.some.inj H
            go_wp2
            go_ret
            exact ⟨_, by first | rfl | (simp [errW_none, errW_some] <;> rfl) | (simp [*, errW_none, errW_some] <;> rfl), by (with_reducible repeat (first | apply Kd.R_alloc | apply Kd.R_drewN | apply Kd.R_drew)); exact HO_3.out, by repeat (first | (with_reducible first | exact HB.out | apply below_alloc | apply pw_below_drewN | apply below_drew1) | exact HB.out)⟩
    · rw [if_neg c3] at H
      exact absurd H (by simp)
  · rw [if_neg c2] at H
    exact absurd H (by simp)


def laws_toImage.f (k : Nat) (a0_0 : Int) (a0_1 : Int) (a0_2 : Int) (l0_3 : List Int) : Option (Int × Int × Int × List Int) := (laws_toIntS.f k l0_3).bind fun t23004 => (some (a0_0, a0_1, a0_2, t23004))
theorem laws_toImage.mono : ∀ a0 a1 a2 a3 k, LeO (laws_toImage.f k a0 a1 a2 a3) (laws_toImage.f (k + 1) a0 a1 a2 a3) := by
  intro a0 a1 a2 a3 k
  unfold laws_toImage.f
  repeat' first
      | (with_reducible exact laws_toIntS.mono _ _)
      | (with_reducible exact LeO.refl _)
      | (with_reducible exact LeO.none _)
      | (with_reducible refine LeO.ite ?_ ?_)
      | (with_reducible refine LeO.bind ?_ (fun _ => ?_))
      | exact laws_toIntS.mono _ _
      | exact LeO.none _
      | refine LeO.ite ?_ ?_
      | refine LeO.bind ?_ (fun _ => ?_)
set_option maxHeartbeats 8000000 in
set_option maxRecDepth 100000 in
theorem laws_toImage.calls (k : Nat) (a0_0 : Int) (a0_1 : Int) (a0_2 : Int) (A0_3 : Option Addr) (c0_3 : Nat) (l0_3 : List Int) (r1 : Int) (r2 : Int) (r3 : Int) (r4 : List Int) (w : World) (hr0_3 : Kd.C (Kd.int .i64) w A0_3 l0_3.length l0_3) (hc0_3 : l0_3.length ≤ c0_3) (h : laws_toImage.f k a0_0 a0_1 a0_2 l0_3 = some (r1, r2, r3, r4)) :
    Calls Try.prog 22 #[.agg #[.int .i64 a0_0, .int .i64 a0_1, .int .i64 a0_2, .slice A0_3 l0_3.length c0_3]] w fun e w' => ∃ v3_ : Value, e = .returned (.agg #[.int .i64 r1, .int .i64 r2, .int .i64 r3, v3_]) ∧ Kd.R (Kd.int .i64) 3 w' w.heap.size (fun _ => True) v3_ r4 ∧ Below w.heap.size w w' := by
  have hu24 := Try.underlying24
  have hu27 := Try.underlying27
  have HR0_3 := Aside0.mk hr0_3
  have HC0_3 := Aside0.mk hc0_3
  clear hr0_3 hc0_3
  have HB := Aside0.mk (Below.refl w.heap.size w)
  have H : ((laws_toIntS.f k l0_3).bind fun t23004 => (some (a0_0, a0_1, a0_2, t23004))) = some (r1, r2, r3, r4) := h
  clear h
  replace H := Option.bind_eq_some_iff.mp H
  obtain ⟨t23004, A20, H⟩ := H
  replace H : (some (a0_0, a0_1, a0_2, t23004)) = some (r1, r2, r3, r4) := H
  have A2 := Aside0.mk A20
  clear A20
  simp only [Option.some.injEq, Prod.mk.injEq] at H
  obtain ⟨rfl, rfl, rfl, rfl⟩ := H
  go_enter Try.func22, Try.ntmps22
  go_wp2_with (first | ((with_reducible refine gate_dst (N := 1) rfl ?_); refine box_event ?hg (N := 1) ?hd (cs := #[.int .i64 a0_0, .int .i64 a0_1, .int .i64 a0_2, .slice A0_3 l0_3.length c0_3]) (t := 24) ?hr ?_; (case hd => rfl); (case hg => rfl); (case hr => first | (go_simp; done) | (go_simp; rfl)); intro gb23001 hg w3 hbox hb; have n0_ := Aside0.mk (below_step (by repeat (first | (with_reducible first | exact HB.out | apply below_alloc | apply pw_below_drewN | apply below_drew1) | exact HB.out)) hb); have n1_ := Aside0.mk (hbox); have n2_ := Aside0.mk ((by rw [hg]; exact (below_size (by repeat (first | (with_reducible first | exact HB.out | apply below_alloc | apply pw_below_drewN | apply below_drew1) | exact HB.out))) : w.heap.size ≤ gb23001)); have n3_ := Aside0.mk ((by rw [hg]; exact (below_size (by repeat (first | (with_reducible first | exact HB.out | apply below_alloc | apply pw_below_drewN | apply below_drew1) | exact HB.out))) : w.heap.size ≤ gb23001)); clear HB; have HB := n0_; have BK23001 := n1_; have GW23001 := n2_; have GE23001 := n3_; clear n0_ n1_ n2_ n3_; clear hb hbox hg) | ((with_reducible refine gate_dst (N := 2) rfl ?_); refine box_event ?hg (N := 2) ?hd (cs := #[.int .i64 0, .int .i64 0, .int .i64 0, .slice none 0 0]) (t := 27) ?hr ?_; (case hd => rfl); (case hg => rfl); (case hr => first | (go_simp; done) | (go_simp; rfl)); intro gb23002 hg w4 hbox hb; have n0_ := Aside0.mk (blk_below (g := gb23001) (o := .cells #[.int .i64 a0_0, .int .i64 a0_1, .int .i64 a0_2, .slice A0_3 l0_3.length c0_3] 24 (0, 0)) (by (with_reducible repeat (first | refine blk_drewN ?_ _ | refine blk_drew ?_ | refine blk_alloc ?_ _)); exact BK23001.out) hb); have n1_ := Aside0.mk (below_step (by repeat (first | (with_reducible first | exact HB.out | apply below_alloc | apply pw_below_drewN | apply below_drew1 | refine below_set ?_ GE23001.out) | exact HB.out)) hb); have n2_ := Aside0.mk (hbox); have n3_ := Aside0.mk ((by rw [hg]; exact (below_size (by repeat (first | (with_reducible first | exact HB.out | apply below_alloc | apply pw_below_drewN | apply below_drew1 | refine below_set ?_ GE23001.out) | exact HB.out))) : w.heap.size ≤ gb23002)); have n4_ := Aside0.mk ((by rw [hg]; exact (below_size (by repeat (first | (with_reducible first | exact HB.out | apply below_alloc | apply pw_below_drewN | apply below_drew1 | refine below_set ?_ GE23001.out) | exact HB.out))) : w.heap.size ≤ gb23002)); have n5_ := Aside0.mk ((by rw [hg]; exact Nat.ne_of_lt (blk_lt (g := gb23001) (o := .cells #[.int .i64 a0_0, .int .i64 a0_1, .int .i64 a0_2, .slice A0_3 l0_3.length c0_3] 24 (0, 0)) (by (with_reducible repeat (first | refine blk_drewN ?_ _ | refine blk_drew ?_ | refine blk_alloc ?_ _)); exact BK23001.out)) : gb23001 ≠ gb23002)); have n6_ := Aside0.mk ((by rw [hg]; exact Nat.ne_of_gt (blk_lt (g := gb23001) (o := .cells #[.int .i64 a0_0, .int .i64 a0_1, .int .i64 a0_2, .slice A0_3 l0_3.length c0_3] 24 (0, 0)) (by (with_reducible repeat (first | refine blk_drewN ?_ _ | refine blk_drew ?_ | refine blk_alloc ?_ _)); exact BK23001.out)) : gb23002 ≠ gb23001)); clear BK23001; clear HB; have BK23001 := n0_; have HB := n1_; have BK23002 := n2_; have GW23002 := n3_; have GE23002 := n4_; have NB23001_23002 := n5_; have NB23002_23001 := n6_; clear n0_ n1_ n2_ n3_ n4_ n5_ n6_; clear hb hbox hg) | ((with_reducible refine gate_dst (N := 3) rfl ?_); refine box_event ?hg (N := 3) ?hd (cs := #[.int .i64 0, .int .i64 0, .int .i64 0, .slice none 0 0]) (t := 27) ?hr ?_; (case hd => rfl); (case hg => rfl); (case hr => first | (go_simp; done) | (go_simp; rfl)); intro gb23003 hg w5 hbox hb; have n0_ := Aside0.mk (blk_below (g := gb23001) (o := .cells #[.int .i64 a0_0, .int .i64 a0_1, .int .i64 a0_2, .slice A0_3 l0_3.length c0_3] 24 (0, 0)) (by (with_reducible repeat (first | refine blk_drewN ?_ _ | refine blk_drew ?_ | refine blk_alloc ?_ _)); exact BK23001.out) hb); have n1_ := Aside0.mk (blk_below (g := gb23002) (o := .cells #[.int .i64 0, .int .i64 0, .int .i64 0, .slice none 0 0] 27 (0, 0)) (by (with_reducible repeat (first | refine blk_drewN ?_ _ | refine blk_drew ?_ | refine blk_alloc ?_ _)); exact BK23002.out) hb); have n2_ := Aside0.mk (below_step (by repeat (first | (with_reducible first | exact HB.out | apply below_alloc | apply pw_below_drewN | apply below_drew1 | refine below_set ?_ GE23001.out | refine below_set ?_ GE23002.out) | exact HB.out)) hb); have n3_ := Aside0.mk (hbox); have n4_ := Aside0.mk ((by rw [hg]; exact (below_size (by repeat (first | (with_reducible first | exact HB.out | apply below_alloc | apply pw_below_drewN | apply below_drew1 | refine below_set ?_ GE23001.out | refine below_set ?_ GE23002.out) | exact HB.out))) : w.heap.size ≤ gb23003)); have n5_ := Aside0.mk ((by rw [hg]; exact (below_size (by repeat (first | (with_reducible first | exact HB.out | apply below_alloc | apply pw_below_drewN | apply below_drew1 | refine below_set ?_ GE23001.out | refine below_set ?_ GE23002.out) | exact HB.out))) : w.heap.size ≤ gb23003)); have n6_ := Aside0.mk ((by rw [hg]; exact Nat.ne_of_lt (blk_lt (g := gb23001) (o := .cells #[.int .i64 a0_0, .int .i64 a0_1, .int .i64 a0_2, .slice A0_3 l0_3.length c0_3] 24 (0, 0)) (by (with_reducible repeat (first | refine blk_drewN ?_ _ | refine blk_drew ?_ | refine blk_alloc ?_ _)); exact BK23001.out)) : gb23001 ≠ gb23003)); have n7_ := Aside0.mk ((by rw [hg]; exact Nat.ne_of_gt (blk_lt (g := gb23001) (o := .cells #[.int .i64 a0_0, .int .i64 a0_1, .int .i64 a0_2, .slice A0_3 l0_3.length c0_3] 24 (0, 0)) (by (with_reducible repeat (first | refine blk_drewN ?_ _ | refine blk_drew ?_ | refine blk_alloc ?_ _)); exact BK23001.out)) : gb23003 ≠ gb23001)); have n8_ := Aside0.mk ((by rw [hg]; exact Nat.ne_of_lt (blk_lt (g := gb23002) (o := .cells #[.int .i64 0, .int .i64 0, .int .i64 0, .slice none 0 0] 27 (0, 0)) (by (with_reducible repeat (first | refine blk_drewN ?_ _ | refine blk_drew ?_ | refine blk_alloc ?_ _)); exact BK23002.out)) : gb23002 ≠ gb23003)); have n9_ := Aside0.mk ((by rw [hg]; exact Nat.ne_of_gt (blk_lt (g := gb23002) (o := .cells #[.int .i64 0, .int .i64 0, .int .i64 0, .slice none 0 0] 27 (0, 0)) (by (with_reducible repeat (first | refine blk_drewN ?_ _ | refine blk_drew ?_ | refine blk_alloc ?_ _)); exact BK23002.out)) : gb23003 ≠ gb23002)); clear BK23001; clear BK23002; clear HB; have BK23001 := n0_; have BK23002 := n1_; have HB := n2_; have BK23003 := n3_; have GW23003 := n4_; have GE23003 := n5_; have NB23001_23003 := n6_; have NB23003_23001 := n7_; have NB23002_23003 := n8_; have NB23003_23002 := n9_; clear n0_ n1_ n2_ n3_ n4_ n5_ n6_ n7_ n8_ n9_; clear hb hbox hg; have hnb6 := NB23001_23002.out; have hnc6 := NB23002_23001.out; have hnb7 := NB23001_23003.out; have hnc7 := NB23003_23001.out; have hcz8_0 : w5.cell? ⟨gb23001, 0, none⟩ = some (.int .i64 a0_0) := (blk_cell BK23001.out 0).trans rfl; have hcz8_1 : w5.cell? ⟨gb23001, 1, none⟩ = some (.int .i64 a0_1) := (blk_cell BK23001.out 1).trans rfl; have hcz8_2 : w5.cell? ⟨gb23001, 2, none⟩ = some (.int .i64 a0_2) := (blk_cell BK23001.out 2).trans rfl; have hcz8_3 : w5.cell? ⟨gb23001, 3, none⟩ = some (.slice A0_3 l0_3.length c0_3) := (blk_cell BK23001.out 3).trans rfl; have hfz8_0 := blk_frozen BK23001.out 0; have hfz8_1 := blk_frozen BK23001.out 1; have hfz8_2 := blk_frozen BK23001.out 2; have hfz8_3 := blk_frozen BK23001.out 3; have hnb9 := NB23003_23002.out; have hnc9 := NB23002_23003.out; have hcz10_0 : w5.cell? ⟨gb23003, 0, none⟩ = some (.int .i64 0) := (blk_cell BK23003.out 0).trans rfl; have hcz10_1 : w5.cell? ⟨gb23003, 1, none⟩ = some (.int .i64 0) := (blk_cell BK23003.out 1).trans rfl; have hcz10_2 : w5.cell? ⟨gb23003, 2, none⟩ = some (.int .i64 0) := (blk_cell BK23003.out 2).trans rfl; have hcz10_3 : w5.cell? ⟨gb23003, 3, none⟩ = some (.slice none 0 0) := (blk_cell BK23003.out 3).trans rfl; have hfz10_0 := blk_frozen BK23003.out 0; have hfz10_1 := blk_frozen BK23003.out 1; have hfz10_2 := blk_frozen BK23003.out 2; have hfz10_3 := blk_frozen BK23003.out 3) | ((with_reducible refine gate_callee (f := 77) rfl ?_); refine goesL_ (some 15) rfl rfl Try.func77 (by kernel_rfl) rfl #[.slice A0_3 l0_3.length c0_3] rfl (by (try simp only [List.map_toArray, List.map_cons, List.map_nil]); first | done | rfl | (simp only [List.length_drop, List.length_take]; rfl)) ?_; (with_reducible refine (laws_toIntS.calls k _ _ l0_3 t23004 _ ?side1 ?side2 A2.out).mono ?_); (case side1 => exact Kd.C_below HR0_3.out (by repeat (first | (with_reducible first | exact HB.out | apply below_alloc | apply pw_below_drewN | apply below_drew1 | refine below_set ?_ GE23001.out | refine below_set ?_ GE23002.out | refine below_set ?_ GE23003.out) | exact HB.out))); (case side2 => exact HC0_3.out); rintro e w11 ⟨v23005, rfl, ho0, hb⟩; refine ⟨_, rfl, ?_⟩; have n0_ := Aside0.mk (Kd.R_lower ho0 (below_size (by repeat (first | (with_reducible first | exact HB.out | apply below_alloc | apply pw_below_drewN | apply below_drew1 | refine below_set ?_ GE23001.out | refine below_set ?_ GE23002.out | refine below_set ?_ GE23003.out) | exact HB.out)))); have n1_ := Aside0.mk (blk_below (g := gb23001) (o := .cells #[.int .i64 a0_0, .int .i64 a0_1, .int .i64 a0_2, .slice A0_3 l0_3.length c0_3] 24 (0, 0)) (by (with_reducible repeat (first | refine blk_drewN ?_ _ | refine blk_drew ?_ | refine blk_alloc ?_ _)); refine blk_far ?_ NB23001_23003.out _; (with_reducible repeat (first | refine blk_drewN ?_ _ | refine blk_drew ?_ | refine blk_alloc ?_ _)); refine blk_far ?_ NB23001_23003.out _; (with_reducible repeat (first | refine blk_drewN ?_ _ | refine blk_drew ?_ | refine blk_alloc ?_ _)); refine blk_far ?_ NB23001_23003.out _; (with_reducible repeat (first | refine blk_drewN ?_ _ | refine blk_drew ?_ | refine blk_alloc ?_ _)); exact BK23001.out) hb); have n2_ := Aside0.mk (blk_below (g := gb23002) (o := .cells #[.int .i64 0, .int .i64 0, .int .i64 0, .slice none 0 0] 27 (0, 0)) (by (with_reducible repeat (first | refine blk_drewN ?_ _ | refine blk_drew ?_ | refine blk_alloc ?_ _)); refine blk_far ?_ NB23002_23003.out _; (with_reducible repeat (first | refine blk_drewN ?_ _ | refine blk_drew ?_ | refine blk_alloc ?_ _)); refine blk_far ?_ NB23002_23003.out _; (with_reducible repeat (first | refine blk_drewN ?_ _ | refine blk_drew ?_ | refine blk_alloc ?_ _)); refine blk_far ?_ NB23002_23003.out _; (with_reducible repeat (first | refine blk_drewN ?_ _ | refine blk_drew ?_ | refine blk_alloc ?_ _)); exact BK23002.out) hb); have n3_ := Aside0.mk (blk_below (g := gb23003) (o := .cells #[.int .i64 a0_0, .int .i64 a0_1, .int .i64 a0_2, .slice none 0 0] 27 (0, 0)) (by (with_reducible repeat (first | refine blk_drewN ?_ _ | refine blk_drew ?_ | refine blk_alloc ?_ _)); refine blk_put (cs := #[.int .i64 a0_0, .int .i64 a0_1, .int .i64 0, .slice none 0 0]) ?_ 2 _ rfl; (with_reducible repeat (first | refine blk_drewN ?_ _ | refine blk_drew ?_ | refine blk_alloc ?_ _)); refine blk_put (cs := #[.int .i64 a0_0, .int .i64 0, .int .i64 0, .slice none 0 0]) ?_ 1 _ rfl; (with_reducible repeat (first | refine blk_drewN ?_ _ | refine blk_drew ?_ | refine blk_alloc ?_ _)); refine blk_put (cs := #[.int .i64 0, .int .i64 0, .int .i64 0, .slice none 0 0]) ?_ 0 _ rfl; (with_reducible repeat (first | refine blk_drewN ?_ _ | refine blk_drew ?_ | refine blk_alloc ?_ _)); exact BK23003.out) hb); have n4_ := Aside0.mk (below_step (by repeat (first | (with_reducible first | exact HB.out | apply below_alloc | apply pw_below_drewN | apply below_drew1 | refine below_set ?_ GE23001.out | refine below_set ?_ GE23002.out | refine below_set ?_ GE23003.out) | exact HB.out)) hb); clear BK23001; clear BK23002; clear BK23003; clear HB; have HO23006 := n0_; have BK23001 := n1_; have BK23002 := n2_; have BK23003 := n3_; have HB := n4_; clear n0_ n1_ n2_ n3_ n4_; (try clear hb); (try clear hb2); (try clear hk); (try clear hi); (try clear ho0); obtain ⟨Ao12, co12, eo12⟩ := Kd.R_slice HO23006.out; subst eo12; have hcz13_0 : w11.cell? ⟨gb23003, 0, none⟩ = some (.int .i64 a0_0) := (blk_cell BK23003.out 0).trans rfl; have hcz13_1 : w11.cell? ⟨gb23003, 1, none⟩ = some (.int .i64 a0_1) := (blk_cell BK23003.out 1).trans rfl; have hcz13_2 : w11.cell? ⟨gb23003, 2, none⟩ = some (.int .i64 a0_2) := (blk_cell BK23003.out 2).trans rfl; have hcz13_3 : w11.cell? ⟨gb23003, 3, none⟩ = some (.slice none 0 0) := (blk_cell BK23003.out 3).trans rfl; have hfz13_0 := blk_frozen BK23003.out 0; have hfz13_1 := blk_frozen BK23003.out 1; have hfz13_2 := blk_frozen BK23003.out 2; have hfz13_3 := blk_frozen BK23003.out 3; have hcz14_0 : w11.cell? ⟨gb23002, 0, none⟩ = some (.int .i64 0) := (blk_cell BK23002.out 0).trans rfl; have hcz14_1 : w11.cell? ⟨gb23002, 1, none⟩ = some (.int .i64 0) := (blk_cell BK23002.out 1).trans rfl; have hcz14_2 : w11.cell? ⟨gb23002, 2, none⟩ = some (.int .i64 0) := (blk_cell BK23002.out 2).trans rfl; have hcz14_3 : w11.cell? ⟨gb23002, 3, none⟩ = some (.slice none 0 0) := (blk_cell BK23002.out 3).trans rfl; have hfz14_0 := blk_frozen BK23002.out 0; have hfz14_1 := blk_frozen BK23002.out 1; have hfz14_2 := blk_frozen BK23002.out 2; have hfz14_3 := blk_frozen BK23002.out 3))
  refine bodyPost_ret (results_cell_row rfl _ _ gb23002 27 #[.int .i64 a0_0, .int .i64 a0_1, .int .i64 a0_2, .slice Ao12 t23004.length co12] (0, 0) _ rfl (by (with_reducible repeat (first | refine blk_drewN ?_ _ | refine blk_drew ?_ | refine blk_alloc ?_ _)); refine blk_put (cs := #[.int .i64 a0_0, .int .i64 a0_1, .int .i64 a0_2, .slice none 0 0]) ?_ 3 _ rfl; (with_reducible repeat (first | refine blk_drewN ?_ _ | refine blk_drew ?_ | refine blk_alloc ?_ _)); refine blk_put (cs := #[.int .i64 a0_0, .int .i64 a0_1, .int .i64 0, .slice none 0 0]) ?_ 2 _ rfl; (with_reducible repeat (first | refine blk_drewN ?_ _ | refine blk_drew ?_ | refine blk_alloc ?_ _)); refine blk_put (cs := #[.int .i64 a0_0, .int .i64 0, .int .i64 0, .slice none 0 0]) ?_ 1 _ rfl; (with_reducible repeat (first | refine blk_drewN ?_ _ | refine blk_drew ?_ | refine blk_alloc ?_ _)); refine blk_put (cs := #[.int .i64 0, .int .i64 0, .int .i64 0, .slice none 0 0]) ?_ 0 _ rfl; (with_reducible repeat (first | refine blk_drewN ?_ _ | refine blk_drew ?_ | refine blk_alloc ?_ _)); refine blk_far ?_ NB23002_23003.out _; (with_reducible repeat (first | refine blk_drewN ?_ _ | refine blk_drew ?_ | refine blk_alloc ?_ _)); exact BK23002.out) Try.underlying27 rfl (by kernel_rfl)) rfl ?_
  exact ⟨_, by first | rfl | (simp [errW_none, errW_some] <;> rfl) | (simp [*, errW_none, errW_some] <;> rfl), by (with_reducible repeat (first | apply Kd.R_alloc | apply Kd.R_drewN | apply Kd.R_drew)); exact Kd.R_mono (Kd.R_far (p := ⟨gb23002, 3, none⟩) (Kd.R_far (p := ⟨gb23002, 2, none⟩) (Kd.R_far (p := ⟨gb23002, 1, none⟩) (Kd.R_far (p := ⟨gb23002, 0, none⟩) (Kd.R_far (p := ⟨gb23003, 3, none⟩) (Kd.R_types (Kd.R_types HO23006.out BK23003.out (by decide)) BK23002.out (by decide)) (fun _ hk => hk.1.2) (.slice Ao12 t23004.length co12)) (fun _ hk => hk.2) (.int .i64 a0_0)) (fun _ hk => hk.2) (.int .i64 a0_1)) (fun _ hk => hk.2) (.int .i64 a0_2)) (fun _ hk => hk.2) (.slice Ao12 t23004.length co12)) (fun _ hk => trivial), by repeat (first | (with_reducible first | exact HB.out | apply below_alloc | apply pw_below_drewN | apply below_drew1 | refine below_set ?_ GE23001.out | refine below_set ?_ GE23002.out | refine below_set ?_ GE23003.out) | exact HB.out)⟩


def laws_eqIntS.l0 : Nat → List Int → List Int → Int → Option (Bool)
  | 0, _, _, _ => none
  | k + 1, x0, x1, x5 => if x5 < (x0.length : Int) then (if 0 ≤ x5 then (if x5 < (x1.length : Int) then (if (rd x0 x5) = (rd x1 x5) then (laws_eqIntS.l0 k x0 x1 (wrap64 (x5 + 1))) else (some false)) else (none)) else (none)) else (some true)
def laws_eqIntS.f (k : Nat) (l0 : List Int) (l1 : List Int) : Option (Bool) := if (l0.length : Int) = (l1.length : Int) then (laws_eqIntS.l0 k l0 l1 0) else (some false)
theorem laws_eqIntS.mono_l : ∀ k, (∀ y0 y1 y2, LeO (laws_eqIntS.l0 k y0 y1 y2) (laws_eqIntS.l0 (k + 1) y0 y1 y2))
  | 0 => fun _ _ _ r h => by simp [laws_eqIntS.l0] at h
  | k + 1 => by
    have ih0 := laws_eqIntS.mono_l k
    · intro y0 y1 y2
      unfold laws_eqIntS.l0
      repeat' first
      | (with_reducible exact ih0 _ _ _)
      | (with_reducible exact LeO.refl _)
      | (with_reducible exact LeO.none _)
      | (with_reducible refine LeO.ite ?_ ?_)
      | (with_reducible refine LeO.bind ?_ (fun _ => ?_))
      | exact ih0 _ _ _
      | exact LeO.none _
      | refine LeO.ite ?_ ?_
      | refine LeO.bind ?_ (fun _ => ?_)
theorem laws_eqIntS.mono : ∀ a0 a1 k, LeO (laws_eqIntS.f k a0 a1) (laws_eqIntS.f (k + 1) a0 a1) := by
  intro a0 a1 k
  have ih0 := laws_eqIntS.mono_l k
  unfold laws_eqIntS.f
  repeat' first
      | (with_reducible exact ih0 _ _ _)
      | (with_reducible exact LeO.refl _)
      | (with_reducible exact LeO.none _)
      | (with_reducible refine LeO.ite ?_ ?_)
      | (with_reducible refine LeO.bind ?_ (fun _ => ?_))
      | exact ih0 _ _ _
      | exact LeO.none _
      | refine LeO.ite ?_ ?_
      | refine LeO.bind ?_ (fun _ => ?_)
set_option maxHeartbeats 8000000 in
set_option maxRecDepth 100000 in
theorem laws_eqIntS.calls (k : Nat) (A0 : Option Addr) (c0 : Nat) (l0 : List Int) (A1 : Option Addr) (c1 : Nat) (l1 : List Int) (r : Bool) (w : World) (hr0 : Kd.C (Kd.int .i64) w A0 l0.length l0) (hc0 : l0.length ≤ c0) (hr1 : Kd.C (Kd.int .i64) w A1 l1.length l1) (hc1 : l1.length ≤ c1) (h : laws_eqIntS.f k l0 l1 = some r) :
    Calls Try.prog 43 #[.slice A0 l0.length c0, .slice A1 l1.length c1] w fun e w' => e = .returned (.bool r) ∧ Drawn0 w w' := by
  have HR0 := Aside0.mk hr0
  have HC0 := Aside0.mk hc0
  clear hr0 hc0
  have HR1 := Aside0.mk hr1
  have HC1 := Aside0.mk hc1
  clear hr1 hc1
  have H : (if (l0.length : Int) = (l1.length : Int) then (laws_eqIntS.l0 k l0 l1 0) else (some false)) = some r := h
  clear h
  by_cases c3 : (l0.length : Int) = (l1.length : Int)
  · rw [if_pos c3] at H
    have c3b0 : ((l0.length : Int) == (l1.length : Int)) = true := beq_iff_eq.mpr c3
    have c3b1 : ((l0.length : Int) != (l1.length : Int)) = false := bne_eq_false_iff_eq.mpr c3
    have c3b2 : (l0.length == l1.length) = true := by first | simpa using c3 | (simp at c3 ⊢; omega)
    clear c3
    have H' := Aside0.mk H
    clear H
    go_enter Try.func43, Try.ntmps43
    go_wp2
    repeat (go_quiet (fail); try go_wp2)
    go_loopg [5] k (fun kq v5 w' => ∃ (x5_1 : Int), v5 = .int .i64 x5_1 ∧ Aside0 (laws_eqIntS.l0 kq l0 l1 x5_1 = some r) ∧ Aside0 (kq ≤ k) ∧ Drawn0 w w')
    case atStart => exact ⟨(0), (by first | rfl | (simp; done) | (simp [*]; done)), H', ⟨Nat.le_refl _⟩, by repeat (first | exact Drawn0.refl _ | apply Drawn0.step)⟩
    case round =>
      clear H'
      try clear c1
      try clear p2
      try clear c3
      try clear c3b0
      try clear c3b1
      try clear c3b2
      obtain ⟨x5_1, rfl, HA, HK1, ⟨m1, rfl⟩⟩ := hrel
      cases gk with
      | zero => exact absurd HA.out (by simp [laws_eqIntS.l0])
      | succ k1 =>
        have H := HA.out
        clear HA
        simp only [laws_eqIntS.l0] at H
        by_cases c4 : x5_1 < (l0.length : Int)
        · rw [if_pos c4] at H
          have c4b0 : decide (x5_1 < (l0.length : Int)) = true := decide_eq_true c4
          clear c4
          by_cases c5 : 0 ≤ x5_1
          · rw [if_pos c5] at H
            have c5b0 : decide (0 ≤ x5_1) = true := decide_eq_true c5
            clear c5
            by_cases c6 : x5_1 < (l1.length : Int)
            · rw [if_pos c6] at H
              have c6b0 : decide (x5_1 < (l1.length : Int)) = true := decide_eq_true c6
              clear c6
              by_cases c7 : (rd l0 x5_1) = (rd l1 x5_1)
              · rw [if_pos c7] at H
                have c7b0 : ((rd l0 x5_1) == (rd l1 x5_1)) = true := beq_iff_eq.mpr c7
                have c7b1 : ((rd l0 x5_1) != (rd l1 x5_1)) = false := bne_eq_false_iff_eq.mpr c7
                clear c7
                have H' := Aside0.mk H
                clear H
                have p44001 : 0 ≤ (x5_1 : Int) := of_decide_eq_true (by first | (with_reducible assumption) | assumption)
                have q44001 : x5_1 < (l0.length : Int) := of_decide_eq_true (by first | (with_reducible assumption) | assumption)
                obtain ⟨ad44001, e44001, hx44001_0⟩ := Kd.at_int HR0.out x5_1 p44001 q44001
                cases e44001
                replace p44001 := eq_true p44001
                replace q44001 := eq_true q44001
                have p44002 : 0 ≤ (x5_1 : Int) := of_decide_eq_true (by first | (with_reducible assumption) | assumption)
                have q44002 : x5_1 < (l1.length : Int) := of_decide_eq_true (by first | (with_reducible assumption) | assumption)
                obtain ⟨ad44002, e44002, hx44002_0⟩ := Kd.at_int HR1.out x5_1 p44002 q44002
                cases e44002
                replace p44002 := eq_true p44002
                replace q44002 := eq_true q44002
                go_wp2
                repeat (go_quiet (fail); try go_wp2)
                go_roundg k1
                case measure => have := HK1.out; omega
                case rel => exact ⟨(wrap64 (x5_1 + 1)), (by first | rfl | (simp; done) | (simp [*]; done)), H', ⟨by have := HK1.out; omega⟩, by repeat (first | exact Drawn0.refl _ | apply Drawn0.step)⟩
              · rw [if_neg c7] at H
                have c7b0 : ((rd l0 x5_1) == (rd l1 x5_1)) = false := beq_eq_false_iff_ne.mpr c7
                have c7b1 : ((rd l0 x5_1) != (rd l1 x5_1)) = true := bne_iff_ne.mpr c7
                obtain rfl := Option.some.inj H
                have p44001 : 0 ≤ (x5_1 : Int) := of_decide_eq_true (by first | (with_reducible assumption) | assumption)
                have q44001 : x5_1 < (l0.length : Int) := of_decide_eq_true (by first | (with_reducible assumption) | assumption)
                obtain ⟨ad44001, e44001, hx44001_0⟩ := Kd.at_int HR0.out x5_1 p44001 q44001
                cases e44001
                replace p44001 := eq_true p44001
                replace q44001 := eq_true q44001
                have p44002 : 0 ≤ (x5_1 : Int) := of_decide_eq_true (by first | (with_reducible assumption) | assumption)
                have q44002 : x5_1 < (l1.length : Int) := of_decide_eq_true (by first | (with_reducible assumption) | assumption)
                obtain ⟨ad44002, e44002, hx44002_0⟩ := Kd.at_int HR1.out x5_1 p44002 q44002
                cases e44002
                replace p44002 := eq_true p44002
                replace q44002 := eq_true q44002
                go_wp2
                repeat (go_quiet (fail); try go_wp2)
                go_ret
                exact ⟨by first | rfl | (simp; done) | (simp [*]; done), by repeat (first | exact Drawn0.refl _ | apply Drawn0.step)⟩
            · rw [if_neg c6] at H
              exact absurd H (by simp)
          · rw [if_neg c5] at H
            exact absurd H (by simp)
        · rw [if_neg c4] at H
          have c4b0 : decide (x5_1 < (l0.length : Int)) = false := decide_eq_false c4
          clear c4
          obtain rfl := Option.some.inj H
          go_wp2
          repeat (go_quiet (fail); try go_wp2)
          go_ret
          exact ⟨by first | rfl | (simp; done) | (simp [*]; done), by repeat (first | exact Drawn0.refl _ | apply Drawn0.step)⟩
  · rw [if_neg c3] at H
    have c3b0 : ((l0.length : Int) == (l1.length : Int)) = false := beq_eq_false_iff_ne.mpr c3
    have c3b1 : ((l0.length : Int) != (l1.length : Int)) = true := bne_iff_ne.mpr c3
    have c3b2 : (l0.length == l1.length) = false := by first | simpa using c3 | (simp at c3 ⊢; omega)
    obtain rfl := Option.some.inj H
    go_enter Try.func43, Try.ntmps43
    go_wp2
    repeat (go_quiet (fail); try go_wp2)
    go_ret
    exact ⟨by first | rfl | (simp; done) | (simp [*]; done), by repeat (first | exact Drawn0.refl _ | apply Drawn0.step)⟩


def laws_eqImage.f (k : Nat) (a0_0 : Int) (a0_1 : Int) (a0_2 : Int) (l0_3 : List Int) (a1_0 : Int) (a1_1 : Int) (a1_2 : Int) (l1_3 : List Int) : Option (Bool) := if a0_0 = a1_0 then (if a0_1 = a1_1 then (if a0_2 = a1_2 then ((laws_eqIntS.f k l0_3 l1_3).bind fun t25003 => (if t25003 = true then (some true) else (some false))) else (some false)) else (some false)) else (some false)
theorem laws_eqImage.mono : ∀ a0 a1 a2 a3 a4 a5 a6 a7 k, LeO (laws_eqImage.f k a0 a1 a2 a3 a4 a5 a6 a7) (laws_eqImage.f (k + 1) a0 a1 a2 a3 a4 a5 a6 a7) := by
  intro a0 a1 a2 a3 a4 a5 a6 a7 k
  unfold laws_eqImage.f
  repeat' first
      | (with_reducible exact laws_eqIntS.mono _ _ _)
      | (with_reducible exact LeO.refl _)
      | (with_reducible exact LeO.none _)
      | (with_reducible refine LeO.ite ?_ ?_)
      | (with_reducible refine LeO.bind ?_ (fun _ => ?_))
      | exact laws_eqIntS.mono _ _ _
      | exact LeO.none _
      | refine LeO.ite ?_ ?_
      | refine LeO.bind ?_ (fun _ => ?_)
set_option maxHeartbeats 8000000 in
set_option maxRecDepth 100000 in
theorem laws_eqImage.calls (k : Nat) (a0_0 : Int) (a0_1 : Int) (a0_2 : Int) (A0_3 : Option Addr) (c0_3 : Nat) (l0_3 : List Int) (a1_0 : Int) (a1_1 : Int) (a1_2 : Int) (A1_3 : Option Addr) (c1_3 : Nat) (l1_3 : List Int) (r : Bool) (w : World) (hr0_3 : Kd.C (Kd.int .i64) w A0_3 l0_3.length l0_3) (hc0_3 : l0_3.length ≤ c0_3) (hr1_3 : Kd.C (Kd.int .i64) w A1_3 l1_3.length l1_3) (hc1_3 : l1_3.length ≤ c1_3) (h : laws_eqImage.f k a0_0 a0_1 a0_2 l0_3 a1_0 a1_1 a1_2 l1_3 = some r) (hrt : r = true) :
    Calls Try.prog 24 #[.agg #[.int .i64 a0_0, .int .i64 a0_1, .int .i64 a0_2, .slice A0_3 l0_3.length c0_3], .agg #[.int .i64 a1_0, .int .i64 a1_1, .int .i64 a1_2, .slice A1_3 l1_3.length c1_3]] w fun e w' => e = .returned (.bool r) ∧ Below w.heap.size w w' := by
  have HRT := Aside0.mk hrt
  clear hrt
  have hu27 := Try.underlying27
  have HR0_3 := Aside0.mk hr0_3
  have HC0_3 := Aside0.mk hc0_3
  clear hr0_3 hc0_3
  have HR1_3 := Aside0.mk hr1_3
  have HC1_3 := Aside0.mk hc1_3
  clear hr1_3 hc1_3
  have HB := Aside0.mk (Below.refl w.heap.size w)
  have H : (if a0_0 = a1_0 then (if a0_1 = a1_1 then (if a0_2 = a1_2 then ((laws_eqIntS.f k l0_3 l1_3).bind fun t25003 => (if t25003 = true then (some true) else (some false))) else (some false)) else (some false)) else (some false)) = some r := h
  clear h
  by_cases c3 : a0_0 = a1_0
  · rw [if_pos c3] at H
    have c3b0 : (a0_0 == a1_0) = true := beq_iff_eq.mpr c3
    have c3b1 : (a0_0 != a1_0) = false := bne_eq_false_iff_eq.mpr c3
    clear c3
    by_cases c4 : a0_1 = a1_1
    · rw [if_pos c4] at H
      have c4b0 : (a0_1 == a1_1) = true := beq_iff_eq.mpr c4
      have c4b1 : (a0_1 != a1_1) = false := bne_eq_false_iff_eq.mpr c4
      clear c4
      by_cases c5 : a0_2 = a1_2
      · rw [if_pos c5] at H
        have c5b0 : (a0_2 == a1_2) = true := beq_iff_eq.mpr c5
        have c5b1 : (a0_2 != a1_2) = false := bne_eq_false_iff_eq.mpr c5
        clear c5
        replace H := Option.bind_eq_some_iff.mp H
        obtain ⟨t25003, A60, H⟩ := H
        replace H : (if t25003 = true then (some true) else (some false)) = some r := H
        have A6 := Aside0.mk A60
        clear A60
        by_cases c7 : t25003 = true
        · subst c7
          have H1 : (some true) = some r := by rw [if_pos rfl] at H; exact H
          clear H
          have H := H1
          clear H1
          obtain rfl := Option.some.inj H
          go_enter Try.func24, Try.ntmps24
          go_wp2_with (first | ((with_reducible refine gate_dst (N := 2) rfl ?_); refine box_event ?hg (N := 2) ?hd (cs := #[.int .i64 a0_0, .int .i64 a0_1, .int .i64 a0_2, .slice A0_3 l0_3.length c0_3]) (t := 27) ?hr ?_; (case hd => rfl); (case hg => rfl); (case hr => first | (go_simp; done) | (go_simp; rfl)); intro gb25001 hg w8 hbox hb; have n0_ := Aside0.mk (below_step (by repeat (first | (with_reducible first | exact HB.out | apply below_alloc | apply pw_below_drewN | apply below_drew1) | exact HB.out)) hb); have n1_ := Aside0.mk (hbox); have n2_ := Aside0.mk ((by rw [hg]; exact (below_size (by repeat (first | (with_reducible first | exact HB.out | apply below_alloc | apply pw_below_drewN | apply below_drew1) | exact HB.out))) : w.heap.size ≤ gb25001)); have n3_ := Aside0.mk ((by rw [hg]; exact (below_size (by repeat (first | (with_reducible first | exact HB.out | apply below_alloc | apply pw_below_drewN | apply below_drew1) | exact HB.out))) : w.heap.size ≤ gb25001)); clear HB; have HB := n0_; have BK25001 := n1_; have GW25001 := n2_; have GE25001 := n3_; clear n0_ n1_ n2_ n3_; clear hb hbox hg) | ((with_reducible refine gate_dst (N := 3) rfl ?_); refine box_event ?hg (N := 3) ?hd (cs := #[.int .i64 a1_0, .int .i64 a1_1, .int .i64 a1_2, .slice A1_3 l1_3.length c1_3]) (t := 27) ?hr ?_; (case hd => rfl); (case hg => rfl); (case hr => first | (go_simp; done) | (go_simp; rfl)); intro gb25002 hg w9 hbox hb; have n0_ := Aside0.mk (blk_below (g := gb25001) (o := .cells #[.int .i64 a0_0, .int .i64 a0_1, .int .i64 a0_2, .slice A0_3 l0_3.length c0_3] 27 (0, 0)) (by (with_reducible repeat (first | refine blk_drewN ?_ _ | refine blk_drew ?_ | refine blk_alloc ?_ _)); exact BK25001.out) hb); have n1_ := Aside0.mk (below_step (by repeat (first | (with_reducible first | exact HB.out | apply below_alloc | apply pw_below_drewN | apply below_drew1 | refine below_set ?_ GE25001.out) | exact HB.out)) hb); have n2_ := Aside0.mk (hbox); have n3_ := Aside0.mk ((by rw [hg]; exact (below_size (by repeat (first | (with_reducible first | exact HB.out | apply below_alloc | apply pw_below_drewN | apply below_drew1 | refine below_set ?_ GE25001.out) | exact HB.out))) : w.heap.size ≤ gb25002)); have n4_ := Aside0.mk ((by rw [hg]; exact (below_size (by repeat (first | (with_reducible first | exact HB.out | apply below_alloc | apply pw_below_drewN | apply below_drew1 | refine below_set ?_ GE25001.out) | exact HB.out))) : w.heap.size ≤ gb25002)); have n5_ := Aside0.mk ((by rw [hg]; exact Nat.ne_of_lt (blk_lt (g := gb25001) (o := .cells #[.int .i64 a0_0, .int .i64 a0_1, .int .i64 a0_2, .slice A0_3 l0_3.length c0_3] 27 (0, 0)) (by (with_reducible repeat (first | refine blk_drewN ?_ _ | refine blk_drew ?_ | refine blk_alloc ?_ _)); exact BK25001.out)) : gb25001 ≠ gb25002)); have n6_ := Aside0.mk ((by rw [hg]; exact Nat.ne_of_gt (blk_lt (g := gb25001) (o := .cells #[.int .i64 a0_0, .int .i64 a0_1, .int .i64 a0_2, .slice A0_3 l0_3.length c0_3] 27 (0, 0)) (by (with_reducible repeat (first | refine blk_drewN ?_ _ | refine blk_drew ?_ | refine blk_alloc ?_ _)); exact BK25001.out)) : gb25002 ≠ gb25001)); clear BK25001; clear HB; have BK25001 := n0_; have HB := n1_; have BK25002 := n2_; have GW25002 := n3_; have GE25002 := n4_; have NB25001_25002 := n5_; have NB25002_25001 := n6_; clear n0_ n1_ n2_ n3_ n4_ n5_ n6_; clear hb hbox hg; have hnb10 := NB25001_25002.out; have hnc10 := NB25002_25001.out; have hcz11_0 : w9.cell? ⟨gb25001, 0, none⟩ = some (.int .i64 a0_0) := (blk_cell BK25001.out 0).trans rfl; have hcz11_1 : w9.cell? ⟨gb25001, 1, none⟩ = some (.int .i64 a0_1) := (blk_cell BK25001.out 1).trans rfl; have hcz11_2 : w9.cell? ⟨gb25001, 2, none⟩ = some (.int .i64 a0_2) := (blk_cell BK25001.out 2).trans rfl; have hcz11_3 : w9.cell? ⟨gb25001, 3, none⟩ = some (.slice A0_3 l0_3.length c0_3) := (blk_cell BK25001.out 3).trans rfl; have hfz11_0 := blk_frozen BK25001.out 0; have hfz11_1 := blk_frozen BK25001.out 1; have hfz11_2 := blk_frozen BK25001.out 2; have hfz11_3 := blk_frozen BK25001.out 3; have hcz12_0 : w9.cell? ⟨gb25002, 0, none⟩ = some (.int .i64 a1_0) := (blk_cell BK25002.out 0).trans rfl; have hcz12_1 : w9.cell? ⟨gb25002, 1, none⟩ = some (.int .i64 a1_1) := (blk_cell BK25002.out 1).trans rfl; have hcz12_2 : w9.cell? ⟨gb25002, 2, none⟩ = some (.int .i64 a1_2) := (blk_cell BK25002.out 2).trans rfl; have hcz12_3 : w9.cell? ⟨gb25002, 3, none⟩ = some (.slice A1_3 l1_3.length c1_3) := (blk_cell BK25002.out 3).trans rfl; have hfz12_0 := blk_frozen BK25002.out 0; have hfz12_1 := blk_frozen BK25002.out 1; have hfz12_2 := blk_frozen BK25002.out 2; have hfz12_3 := blk_frozen BK25002.out 3) | ((with_reducible refine gate_callee (f := 43) rfl ?_); refine goesL_ (some 24) rfl rfl Try.func43 (by kernel_rfl) rfl #[.slice A0_3 l0_3.length c0_3, .slice A1_3 l1_3.length c1_3] rfl (by (try simp only [List.map_toArray, List.map_cons, List.map_nil]); first | done | rfl | (simp only [List.length_drop, List.length_take]; rfl)) ?_; (with_reducible refine (laws_eqIntS.calls k _ _ l0_3 _ _ l1_3 true _ ?side1 ?side2 ?side3 ?side4 A6.out).mono ?_); (case side1 => repeat (first | exact (Kd.C_below HR0_3.out HB.out) | (with_reducible refine Kd.C_alloc ?_ _) | (with_reducible refine Kd.C_drewN ?_ _) | (with_reducible refine Kd.C_drew ?_))); (case side2 => exact HC0_3.out); (case side3 => repeat (first | exact (Kd.C_below HR1_3.out HB.out) | (with_reducible refine Kd.C_alloc ?_ _) | (with_reducible refine Kd.C_drewN ?_ _) | (with_reducible refine Kd.C_drew ?_))); (case side4 => exact HC1_3.out); rintro e w' ⟨rfl, ⟨nd, rfl⟩⟩; refine ⟨_, rfl, ?_⟩))
          go_ret
          exact ⟨by first | rfl | (simp [errW_none, errW_some] <;> rfl) | (simp [*, errW_none, errW_some] <;> rfl), by repeat (first | (with_reducible first | exact HB.out | apply below_alloc | apply pw_below_drewN | apply below_drew1 | refine below_set ?_ GE25001.out | refine below_set ?_ GE25002.out) | exact HB.out)⟩
        · replace c7 := Bool.eq_false_iff.mpr c7
          subst c7
          have H1 : (some false) = some r := by rw [if_neg (show ¬ (false = true) by decide)] at H; exact H
          clear H
          have H := H1
          clear H1
          exact absurd ((Option.some.inj H).trans HRT.out) (by decide)
      · rw [if_neg c5] at H
        have c5b0 : (a0_2 == a1_2) = false := beq_eq_false_iff_ne.mpr c5
        have c5b1 : (a0_2 != a1_2) = true := bne_iff_ne.mpr c5
        exact absurd ((Option.some.inj H).trans HRT.out) (by decide)
    · rw [if_neg c4] at H
      have c4b0 : (a0_1 == a1_1) = false := beq_eq_false_iff_ne.mpr c4
      have c4b1 : (a0_1 != a1_1) = true := bne_iff_ne.mpr c4
      exact absurd ((Option.some.inj H).trans HRT.out) (by decide)
  · rw [if_neg c3] at H
    have c3b0 : (a0_0 == a1_0) = false := beq_eq_false_iff_ne.mpr c3
    have c3b1 : (a0_0 != a1_0) = true := bne_iff_ne.mpr c3
    exact absurd ((Option.some.inj H).trans HRT.out) (by decide)


def laws_markIntS.l0 : Nat → List Int → Int → Int → Option (Int × List Int)
  | 0, _, _, _ => none
  | k + 1, x0, x1, x5 => if x5 < (x0.length : Int) then (if 0 ≤ x5 then (laws_markIntS.l0 k (x0.set (x5 : Int).toNat x1) (wrap64 (x1 + 1)) (wrap64 (x5 + 1))) else (none)) else (some (x1, x0))
def laws_markIntS.f (k : Nat) (l0 : List Int) (a1 : Int) : Option (Int × List Int) := laws_markIntS.l0 k l0 a1 0
theorem laws_markIntS.mono_l : ∀ k, (∀ y0 y1 y2, LeO (laws_markIntS.l0 k y0 y1 y2) (laws_markIntS.l0 (k + 1) y0 y1 y2))
  | 0 => fun _ _ _ r h => by simp [laws_markIntS.l0] at h
  | k + 1 => by
    have ih0 := laws_markIntS.mono_l k
    · intro y0 y1 y2
      unfold laws_markIntS.l0
      repeat' first
      | (with_reducible exact ih0 _ _ _)
      | (with_reducible exact LeO.refl _)
      | (with_reducible exact LeO.none _)
      | (with_reducible refine LeO.ite ?_ ?_)
      | (with_reducible refine LeO.bind ?_ (fun _ => ?_))
      | exact ih0 _ _ _
      | exact LeO.none _
      | refine LeO.ite ?_ ?_
      | refine LeO.bind ?_ (fun _ => ?_)
theorem laws_markIntS.mono : ∀ a0 a1 k, LeO (laws_markIntS.f k a0 a1) (laws_markIntS.f (k + 1) a0 a1) := by
  intro a0 a1 k
  have ih0 := laws_markIntS.mono_l k
  unfold laws_markIntS.f
  repeat' first
      | (with_reducible exact ih0 _ _ _)
      | (with_reducible exact LeO.refl _)
      | (with_reducible exact LeO.none _)
      | (with_reducible refine LeO.ite ?_ ?_)
      | (with_reducible refine LeO.bind ?_ (fun _ => ?_))
      | exact ih0 _ _ _
      | exact LeO.none _
      | refine LeO.ite ?_ ?_
      | refine LeO.bind ?_ (fun _ => ?_)
set_option maxHeartbeats 8000000 in
set_option maxRecDepth 100000 in
theorem laws_markIntS.calls (k : Nat) (P0_ : Nat → Prop) (u9000_ : Value) (l0 : List Int) (a1 : Int) (r1 : Int) (r2 : List Int) (w0 w : World) (hB : Below w0.heap.size w0 w) (ho0 : Kd.R (Kd.int .i64) 3 w w0.heap.size P0_ u9000_ l0) (h : laws_markIntS.f k l0 a1 = some (r1, r2)) :
    Calls Try.prog 46 #[u9000_, .int .i64 a1] w fun e w' => e = .returned (.int .i64 r1) ∧ Kd.R (Kd.int .i64) 3 w' w0.heap.size (fun k_ => (P0_ k_ ∨ w.heap.size ≤ k_)) u9000_ r2 ∧ Below w0.heap.size w0 w' ∧ Kept w w' (fun k_ => P0_ k_) := by
  have HO0 := Aside0.mk (show Kd.R (Kd.int .i64) 3 w w0.heap.size (fun k_ => (P0_ k_ ∨ w.heap.size ≤ k_)) u9000_ l0 from Kd.R_mono ho0 (fun k_ hk => (.inl hk)))
  have HK := Aside0.mk (Kept.refl w (fun k_ => P0_ k_))
  have HW0 := Aside0.mk hB.size
  have HB := Aside0.mk hB
  clear hB
  have H : (laws_markIntS.l0 k l0 a1 0) = some (r1, r2) := h
  clear h
  have H' := Aside0.mk H
  clear H
  go_enter Try.func46, Try.ntmps46
  go_wp2
  go_loopg [1, 5] k (fun kq v1 v5 w' => ∃ (x0_1 : List Int) (x1_1 : Int) (x5_1 : Int), v1 = .int .i64 x1_1 ∧ v5 = .int .i64 x5_1 ∧ Aside0 (laws_markIntS.l0 kq x0_1 x1_1 x5_1 = some (r1, r2)) ∧ Aside0 (kq ≤ k) ∧ Aside0 (Kd.R (Kd.int .i64) 3 w' w0.heap.size (fun k_ => (P0_ k_ ∨ w.heap.size ≤ k_)) u9000_ x0_1) ∧ Aside0 (Kept w w' (fun k_ => P0_ k_)) ∧ Aside0 (Below w0.heap.size w0 w'))
  case atStart => exact ⟨(l0), (a1), (0), (by first | rfl | (simp; done) | (simp [*]; done)), (by first | rfl | (simp; done) | (simp [*]; done)), H', ⟨Nat.le_refl _⟩, ⟨by (with_reducible repeat (first | apply Kd.R_alloc | apply Kd.R_drewN | apply Kd.R_drew)); exact HO0.out⟩, ⟨by repeat (first | (with_reducible first | exact HK.out | apply Kept.alloc | apply Kept.drewN | apply Kept.drew) | exact HK.out)⟩, ⟨by repeat (first | (with_reducible first | exact HB.out | apply below_alloc | apply pw_below_drewN | apply below_drew1) | exact HB.out)⟩⟩
  case round =>
    clear H'
    try clear p2
    obtain ⟨x0_1, x1_1, x5_1, rfl, rfl, HA, HK1, HO_0, HK, HB⟩ := hrel
    cases gk with
    | zero => exact absurd HA.out (by simp [laws_markIntS.l0])
    | succ k1 =>
      have H := HA.out
      clear HA
      simp only [laws_markIntS.l0] at H
      by_cases c3 : x5_1 < (x0_1.length : Int)
      · rw [if_pos c3] at H
        have c3b0 : decide (x5_1 < (x0_1.length : Int)) = true := decide_eq_true c3
        clear c3
        by_cases c4 : 0 ≤ x5_1
        · rw [if_pos c4] at H
          have c4b0 : decide (0 ≤ x5_1) = true := decide_eq_true c4
          clear c4
          obtain ⟨y47001, hy47001⟩ : ∃ y_ : List Int, y_ = (x0_1.set (x5_1 : Int).toNat x1_1) := ⟨_, rfl⟩
          replace H : (laws_markIntS.l0 k1 y47001 (wrap64 (x1_1 + 1)) (wrap64 (x5_1 + 1))) = some (r1, r2) := by first | (rw [hy47001]; with_reducible exact H) | (have H2_ := (Option.bind_some _ _).symm.trans H; rw [hy47001]; with_reducible exact H2_) | (have H2_ := (Option.bind_some _ _).symm.trans H; with_reducible exact H2_) | with_reducible exact H | (rw [hy47001]; exact H) | exact H
          have Ny47001 := Aside0.mk hy47001
          clear hy47001
          have H' := Aside0.mk H
          clear H
          obtain ⟨Ao6, co6, eo6⟩ := Kd.R_slice HO_0.out
          subst eo6
          have p5 : 0 ≤ (x5_1 : Int) := of_decide_eq_true (by first | (with_reducible assumption) | assumption)
          have q5 : (x5_1 : Int) < ((x0_1.length : Int) : Int) := of_decide_eq_true (by first | (with_reducible assumption) | assumption)
          obtain ⟨go5, co5, eo5, gb5, gl5, cl5, HG5⟩ := Kd.R_form HO_0.out (by omega)
          (first | cases eo5 | (injection eo5 with ea_ en_ ec_; (first | subst ea_ | (injection ea_ with ea_; subst ea_)); subst ec_; clear en_))
          have GB5 := Aside0.mk gb5
          have GG5 := Aside0.mk HG5
          clear gb5 gl5 HG5
          have HMgo5 := Aside0.mk (show (P0_ go5 ∨ w.heap.size ≤ go5) from (HO_0.out.1 _ rfl))
          obtain ⟨hx5_0, hf5_0⟩ := Kd.R_celln 0 HO_0.out (x5_1 : Int) p5 q5
          replace p5 := eq_true p5
          replace q5 := eq_true q5
          have HP7 := Kd.R_putg HO_0.out (x5_1 : Int) x1_1
          go_wp2_with (first | ((with_reducible refine gate_store (t := 3) (p := 15) rfl ?_); refine store_event (t := 3) (p := 15) (v := ?vo_w8) (w1 := (wr.setCell ⟨go5, (x5_1 : Int).toNat, none⟩ (.int .i64 x1_1))) ?hg ?ho ?hn ?hr ?_; (case ho => rfl); (case hg => rfl); (case hn => rfl); (case hr => first | (go_simp; done) | (go_simp; rfl)); intro w8 hw; have hg : wr.grownBy w8 (some go5) := (by rw [hw]; exact HP7.2); have hp_ : Kd.R (Kd.int .i64) 3 w8 w0.heap.size (fun k_ => (P0_ k_ ∨ w.heap.size ≤ k_)) (.slice (some ⟨go5, 0, none⟩) x0_1.length co6) y47001 := (by rw [hw, Ny47001.out]; exact HP7.1); clear HP7; have n0_ := Aside0.mk (hp_); have n1_ := Aside0.mk ((by rw [hw]; exact below_set (HB.out) GB5.out : Below w0.heap.size w0 w8)); have n2_ := Aside0.mk (Kept.of_grown (S := (fun k_ => P0_ k_)) hg (by repeat (first | (with_reducible first | exact HK.out | apply Kept.alloc | apply Kept.drewN | apply Kept.drew) | exact HK.out)) (fun k_ e_ => (HO_0.out.1 k_ e_))); clear HO_0; clear HB; clear HK; have HO_0 := n0_; have HB := n1_; have HK := n2_; clear n0_ n1_ n2_; clear hg hw hp_))
          go_roundg k1
          case measure => have := HK1.out; omega
          case rel => exact ⟨(y47001), (wrap64 (x1_1 + 1)), (wrap64 (x5_1 + 1)), (by first | rfl | (simp; done) | (simp [*]; done)), (by first | rfl | (simp; done) | (simp [*]; done)), H', ⟨by have := HK1.out; omega⟩, ⟨by (with_reducible repeat (first | apply Kd.R_alloc | apply Kd.R_drewN | apply Kd.R_drew)); exact HO_0.out⟩, ⟨by repeat (first | (with_reducible first | exact HK.out | apply Kept.alloc | apply Kept.drewN | apply Kept.drew) | exact HK.out)⟩, ⟨by repeat (first | (with_reducible first | exact HB.out | apply below_alloc | apply pw_below_drewN | apply below_drew1) | exact HB.out)⟩⟩
        · rw [if_neg c4] at H
          exact absurd H (by simp)
      · rw [if_neg c3] at H
        have c3b0 : decide (x5_1 < (x0_1.length : Int)) = false := decide_eq_false c3
        clear c3
        simp only [Option.some.injEq, Prod.mk.injEq] at H
        obtain ⟨rfl, rfl⟩ := H
        obtain ⟨Ao9, co9, eo9⟩ := Kd.R_slice HO_0.out
        subst eo9
        go_wp2
        go_ret
        exact ⟨by first | rfl | (simp [errW_none, errW_some] <;> rfl) | (simp [*, errW_none, errW_some] <;> rfl), by (with_reducible repeat (first | apply Kd.R_alloc | apply Kd.R_drewN | apply Kd.R_drew)); exact HO_0.out, by repeat (first | (with_reducible first | exact HB.out | apply below_alloc | apply pw_below_drewN | apply below_drew1) | exact HB.out), by repeat (first | (with_reducible first | exact HK.out | apply Kept.alloc | apply Kept.drewN | apply Kept.drew) | exact HK.out)⟩


def laws_markImage.f (k : Nat) (a0_0 : Int) (a0_1 : Int) (a0_2 : Int) (l0_3 : List Int) (a1 : Int) : Option (Int × List Int) := (laws_markIntS.f k l0_3 a1).bind fun bt32002 => (some (bt32002.1, bt32002.2))
theorem laws_markImage.mono : ∀ a0 a1 a2 a3 a4 k, LeO (laws_markImage.f k a0 a1 a2 a3 a4) (laws_markImage.f (k + 1) a0 a1 a2 a3 a4) := by
  intro a0 a1 a2 a3 a4 k
  unfold laws_markImage.f
  repeat' first
      | (with_reducible exact laws_markIntS.mono _ _ _)
      | (with_reducible exact LeO.refl _)
      | (with_reducible exact LeO.none _)
      | (with_reducible refine LeO.ite ?_ ?_)
      | (with_reducible refine LeO.bind ?_ (fun _ => ?_))
      | exact laws_markIntS.mono _ _ _
      | exact LeO.none _
      | refine LeO.ite ?_ ?_
      | refine LeO.bind ?_ (fun _ => ?_)
set_option maxHeartbeats 8000000 in
set_option maxRecDepth 100000 in
theorem laws_markImage.calls (k : Nat) (a0_0 : Int) (a0_1 : Int) (a0_2 : Int) (P0_3_ : Nat → Prop) (u9000_ : Value) (l0_3 : List Int) (a1 : Int) (r1 : Int) (r2 : List Int) (w0 w : World) (hB : Below w0.heap.size w0 w) (ho0_3 : Kd.R (Kd.int .i64) 3 w w0.heap.size P0_3_ u9000_ l0_3) (h : laws_markImage.f k a0_0 a0_1 a0_2 l0_3 a1 = some (r1, r2)) :
    Calls Try.prog 31 #[.agg #[.int .i64 a0_0, .int .i64 a0_1, .int .i64 a0_2, u9000_], .int .i64 a1] w fun e w' => e = .returned (.int .i64 r1) ∧ Kd.R (Kd.int .i64) 3 w' w0.heap.size (fun k_ => (P0_3_ k_ ∨ w.heap.size ≤ k_)) u9000_ r2 ∧ Below w0.heap.size w0 w' ∧ Kept w w' (fun k_ => P0_3_ k_) := by
  have hu27 := Try.underlying27
  have HO0_3 := Aside0.mk (show Kd.R (Kd.int .i64) 3 w w0.heap.size (fun k_ => (P0_3_ k_ ∨ w.heap.size ≤ k_)) u9000_ l0_3 from Kd.R_mono ho0_3 (fun k_ hk => (.inl hk)))
  have HK := Aside0.mk (Kept.refl w (fun k_ => P0_3_ k_))
  have HW0 := Aside0.mk hB.size
  have HB := Aside0.mk hB
  clear hB
  have H : ((laws_markIntS.f k l0_3 a1).bind fun bt32002 => (some (bt32002.1, bt32002.2))) = some (r1, r2) := h
  clear h
  replace H := Option.bind_eq_some_iff.mp H
  obtain ⟨⟨t32002, t32003⟩, A30, H⟩ := H
  replace H : (some (t32002, t32003)) = some (r1, r2) := H
  have A3 := Aside0.mk A30
  clear A30
  simp only [Option.some.injEq, Prod.mk.injEq] at H
  obtain ⟨rfl, rfl⟩ := H
  obtain ⟨Ao4, co4, eo4⟩ := Kd.R_slice HO0_3.out
  subst eo4
  go_enter Try.func31, Try.ntmps31
  go_wp2_with (first | ((with_reducible refine gate_dst (N := 2) rfl ?_); refine box_event ?hg (N := 2) ?hd (cs := #[.int .i64 a0_0, .int .i64 a0_1, .int .i64 a0_2, .slice Ao4 l0_3.length co4]) (t := 27) ?hr ?_; (case hd => rfl); (case hg => rfl); (case hr => first | (go_simp; done) | (go_simp; rfl)); intro gb32001 hg w5 hbox hb; have n0_ := Aside0.mk (Kd.R_below (by (with_reducible repeat (first | apply Kd.R_alloc | apply Kd.R_drewN | apply Kd.R_drew)); exact HO0_3.out) hb); have n1_ := Aside0.mk (Kept.below (S := (fun k_ => P0_3_ k_)) (by repeat (first | (with_reducible first | exact HK.out | apply Kept.alloc | apply Kept.drewN | apply Kept.drew) | exact HK.out)) hb); have n2_ := Aside0.mk (below_step (by repeat (first | (with_reducible first | exact HB.out | apply below_alloc | apply pw_below_drewN | apply below_drew1) | exact HB.out)) hb); have n3_ := Aside0.mk (hbox); have n4_ := Aside0.mk ((by rw [hg]; exact (by first | exact HK.out.1 | exact (show Kept w _ (fun k_ => P0_3_ k_) from by repeat (first | (with_reducible first | exact HK.out | apply Kept.alloc | apply Kept.drewN | apply Kept.drew) | exact HK.out)).1) : w.heap.size ≤ gb32001)); have n5_ := Aside0.mk ((by rw [hg]; exact (below_size (by repeat (first | (with_reducible first | exact HB.out | apply below_alloc | apply pw_below_drewN | apply below_drew1) | exact HB.out))) : w0.heap.size ≤ gb32001)); clear HO0_3; clear HK; clear HB; have HO0_3 := n0_; have HK := n1_; have HB := n2_; have BK32001 := n3_; have GW32001 := n4_; have GE32001 := n5_; clear n0_ n1_ n2_ n3_ n4_ n5_; clear hb hbox hg; have hcz6_0 : w5.cell? ⟨gb32001, 0, none⟩ = some (.int .i64 a0_0) := (blk_cell BK32001.out 0).trans rfl; have hcz6_1 : w5.cell? ⟨gb32001, 1, none⟩ = some (.int .i64 a0_1) := (blk_cell BK32001.out 1).trans rfl; have hcz6_2 : w5.cell? ⟨gb32001, 2, none⟩ = some (.int .i64 a0_2) := (blk_cell BK32001.out 2).trans rfl; have hcz6_3 : w5.cell? ⟨gb32001, 3, none⟩ = some (.slice Ao4 l0_3.length co4) := (blk_cell BK32001.out 3).trans rfl; have hfz6_0 := blk_frozen BK32001.out 0; have hfz6_1 := blk_frozen BK32001.out 1; have hfz6_2 := blk_frozen BK32001.out 2; have hfz6_3 := blk_frozen BK32001.out 3) | ((with_reducible refine gate_callee (f := 46) rfl ?_); refine goesL_ (some 8) rfl rfl Try.func46 (by kernel_rfl) rfl #[.slice Ao4 l0_3.length co4, .int .i64 a1] rfl (by (try simp only [List.map_toArray, List.map_cons, List.map_nil]); first | done | rfl | (simp only [List.length_drop, List.length_take]; rfl)) ?_; (with_reducible refine (laws_markIntS.calls k (fun k_ => some k_ = (.slice Ao4 l0_3.length co4 : Value).ownBlock) (.slice Ao4 l0_3.length co4) l0_3 a1 t32002 t32003 w0 _ ?side1 ?side2 A3.out).mono ?_); (case side1 => repeat (first | (with_reducible first | exact HB.out | apply below_alloc | apply pw_below_drewN | apply below_drew1 | refine below_set ?_ GE32001.out) | exact HB.out)); (case side2 => exact Kd.R_tight rfl HO0_3.out); rintro e w7 ⟨rfl, hy0, hb, hkp⟩; refine ⟨_, rfl, ?_⟩; have n0_ := Aside0.mk (Kd.R_reok rfl hy0 (fun k_ e_ => HO0_3.out.1 k_ e_)); have n1_ := Aside0.mk (blk_kept (by (with_reducible repeat (first | refine blk_drewN ?_ _ | refine blk_drew ?_ | refine blk_alloc ?_ _)); exact BK32001.out) hkp (fun hs_ => (fun e_ => (Kd.R_ne HO0_3.out BK32001.out (by decide)) e_) hs_)); have n2_ := Aside0.mk (Kept.then_ (S := (fun k_ => P0_3_ k_)) (by repeat (first | (with_reducible first | exact HK.out | apply Kept.alloc | apply Kept.drewN | apply Kept.drew | refine Kept.setCell ?_ (.inr GW32001.out) _) | exact HK.out)) hkp (fun k_ hs_ => (fun e_ => (HO0_3.out.1 k_ e_.symm)) hs_)); have n3_ := Aside0.mk (hb); clear HO0_3; clear BK32001; clear HK; clear HB; have HO0_3 := n0_; have BK32001 := n1_; have HK := n2_; have HB := n3_; clear n0_ n1_ n2_ n3_; (try clear hb); (try clear hkp); (try clear hy0)))
  go_ret
  exact ⟨by first | rfl | (simp [errW_none, errW_some] <;> rfl) | (simp [*, errW_none, errW_some] <;> rfl), by (with_reducible repeat (first | apply Kd.R_alloc | apply Kd.R_drewN | apply Kd.R_drew)); exact HO0_3.out, by repeat (first | (with_reducible first | exact HB.out | apply below_alloc | apply pw_below_drewN | apply below_drew1 | refine below_set ?_ GE32001.out) | exact HB.out), by repeat (first | (with_reducible first | exact HK.out | apply Kept.alloc | apply Kept.drewN | apply Kept.drew | refine Kept.setCell ?_ (.inr GW32001.out) _) | exact HK.out)⟩

end Go.Proofs.Ytnofkbbcbpjhfaa.Q

/- Images: valid ones, as the program and the reference have it; copies of lists of numbers. -/
namespace Go.Proofs.Ytnofkbbcbpjhfaa.Pure
open Go.RowKit Go.Proofs.Ytnofkbbcbpjhfaa.Q Go.Proofs.YtnofkbbcbpjhfaaW.PrintWords Go.Proofs.YtnofkbbcbpjhfaaW.PrintLast Go.Proofs.YtnofkbbcbpjhfaaW.PrintMore
set_option linter.unusedVariables false
set_option linter.unusedSimpArgs false

def byteI (n : Int) : Bool := decide (0 ≤ n) && decide (n ≤ 255)
def shapeI (w h p : Int) : Bool := decide (1 ≤ w ∧ w ≤ 16 ∧ 1 ≤ h ∧ h ≤ 16 ∧ 1 ≤ p ∧ p ≤ 4)
theorem shapeI_iff (w h p : Int) : shapeI w h p = true ↔ 1 ≤ w ∧ w ≤ 16 ∧ 1 ≤ h ∧ h ≤ 16 ∧ 1 ≤ p ∧ p ≤ 4 := by simp [shapeI]
def validI (w h p : Int) (d : List Int) : Bool := shapeI w h p && (decide ((d.length : Int) = w * h * p) && d.all byteI)
theorem validI_iff (w h p : Int) (d : List Int) : validI w h p d = true ↔ (1 ≤ w ∧ w ≤ 16 ∧ 1 ≤ h ∧ h ≤ 16 ∧ 1 ≤ p ∧ p ≤ 4) ∧ (d.length : Int) = w * h * p ∧ ∀ n ∈ d, 0 ≤ n ∧ n ≤ 255 := by
  simp [validI, shapeI_iff, byteI, and_assoc]
theorem shape_prod {w h p : Int} (hs : 1 ≤ w ∧ w ≤ 16 ∧ 1 ≤ h ∧ h ≤ 16 ∧ 1 ≤ p ∧ p ≤ 4) : 0 ≤ w * h ∧ w * h ≤ 256 ∧ 0 ≤ w * h * p ∧ w * h * p ≤ 1024 := by
  have h1 : 0 ≤ w * h := Int.mul_nonneg (by omega) (by omega)
  have h2 : w * h ≤ 16 * 16 := Int.mul_le_mul (by omega) (by omega) (by omega) (by omega)
  have h3 : 0 ≤ w * h * p := Int.mul_nonneg h1 (by omega)
  have h4 : w * h * p ≤ 256 * 4 := Int.mul_le_mul (by omega) (by omega) (by omega) (by omega)
  omega
theorem shape_wrap {w h p : Int} (hs : 1 ≤ w ∧ w ≤ 16 ∧ 1 ≤ h ∧ h ≤ 16 ∧ 1 ≤ p ∧ p ≤ 4) : wrap64 (wrap64 (w * h) * p) = w * h * p := by
  have := shape_prod hs
  rw [w64 (x := w * h) (by omega) (by omega), w64 (by omega) (by omega)]
theorem impl_isSide_eq (a : Int) : impl_isSide.f a = some (decide (1 ≤ a ∧ a ≤ 16)) := by
  unfold impl_isSide.f
  by_cases c : a ≥ 1
  · rw [if_pos c]; congr 1; rw [decide_eq_decide]; omega
  · rw [if_neg c, decide_eq_false (by omega)]
theorem impl_isShape_eq (w h p : Int) : impl_isShape.f w h p = some (shapeI w h p) := by
  unfold impl_isShape.f shapeI
  rw [impl_isSide_eq, impl_isSide_eq]
  simp only [Option.bind_some]
  by_cases c1 : 1 ≤ w ∧ w ≤ 16
  · rw [if_pos (by simpa using c1)]
    by_cases c2 : 1 ≤ h ∧ h ≤ 16
    · rw [if_pos (by simpa using c2)]
      by_cases c3 : p ≥ 1
      · rw [if_pos c3]; congr 1; rw [decide_eq_decide]; omega
      · rw [if_neg c3, decide_eq_false (by omega)]
    · rw [if_neg (by simpa using c2), decide_eq_false (by omega)]
  · rw [if_neg (by simpa using c1), decide_eq_false (by omega)]
theorem areBytesI_eq (l : List Int) : impl_areBytes.f l = some (l.all byteI) := by
  unfold impl_areBytes.f
  congr 1
  rw [List.not_any_eq_all_not]
  congr 1
  funext n
  unfold notByte byteI
  rw [Bool.eq_iff_iff]
  simp
theorem impl_isImage_eq (w h p : Int) (d : List Int) : impl_isImage.f w h p d = some (validI w h p d) := by
  unfold impl_isImage.f validI
  rw [impl_isShape_eq, areBytesI_eq]
  simp only [Option.bind_some]
  by_cases c : shapeI w h p = true
  · rw [if_pos c, shape_wrap ((shapeI_iff w h p).1 c), c]
    by_cases e : (d.length : Int) = w * h * p
    · rw [if_pos e, decide_eq_true e]; rfl
    · rw [if_neg e, decide_eq_false e]; rfl
  · rw [if_neg c, Bool.eq_false_iff.2 c]; rfl
theorem spec_inRangeI_eq (n a b : Int) : spec_inRange.f n a b = some (decide (a ≤ n) && decide (n ≤ b)) := by
  unfold spec_inRange.f
  by_cases c : a ≤ n
  · rw [if_pos c, decide_eq_true c, Bool.true_and]
  · rw [if_neg c, decide_eq_false c, Bool.false_and]
theorem spec_validShape_eq (w h p : Int) : spec_validShape.f w h p = some (shapeI w h p) := by
  unfold spec_validShape.f shapeI
  rw [spec_inRangeI_eq, spec_inRangeI_eq, spec_inRangeI_eq]
  simp only [Option.bind_some]
  by_cases c1 : 1 ≤ w ∧ w ≤ 16
  · rw [if_pos (by simpa using c1)]
    by_cases c2 : 1 ≤ h ∧ h ≤ 16
    · rw [if_pos (by simpa using c2)]; congr 1; rw [Bool.eq_iff_iff]; simp; omega
    · rw [if_neg (by simpa using c2), decide_eq_false (by omega)]
  · rw [if_neg (by simpa using c1), decide_eq_false (by omega)]
theorem spec_allInI_ev (l : List Int) (hl : l.length ≤ 1000000000000) : Ev (fun k => spec_allIn.f k l 0 255) (l.all byteI) := by
  have key := ev_up l.length (fun k i (_ : Unit) => spec_allIn.l0 k l 0 255 (i : Int)) (fun _ _ => True) (fun i _ => (l.drop i).all byteI)
    (by
      intro i s hi _
      have hd : (l.drop i).all byteI = (byteI l[i] && (l.drop (i + 1)).all byteI) := by rw [List.drop_eq_getElem_cons hi, List.all_cons]
      cases hb : byteI l[i] with
      | true =>
        right
        refine ⟨(), fun k => ?_, trivial, by rw [hd, hb, Bool.true_and]⟩
        simp only [spec_allIn.l0]
        rw [if_pos (by omega), if_pos (by omega), rd_nat l i hi, spec_inRangeI_eq]
        simp only [Option.bind_some]
        rw [if_pos (show (decide (0 ≤ l[i]) && decide (l[i] ≤ 255)) = true from hb), w64n i (by omega)]
      | false =>
        left
        rw [hd, hb, Bool.false_and]
        refine Ev.step (f := fun _ => some false) (fun k => ?_) (Ev.now false)
        simp only [spec_allIn.l0]
        rw [if_pos (by omega), if_pos (by omega), rd_nat l i hi, spec_inRangeI_eq]
        simp only [Option.bind_some]
        rw [if_neg (Bool.eq_false_iff.1 (show (decide (0 ≤ l[i]) && decide (l[i] ≤ 255)) = false from hb))])
    (by
      intro s _
      rw [List.drop_length]
      refine Ev.step (f := fun _ => some true) (fun k => ?_) (Ev.now true)
      simp only [spec_allIn.l0]
      rw [if_neg (by omega)])
    l.length 0 () (by omega) trivial
  unfold spec_allIn.f
  simpa using key
theorem spec_validImage_ev (w h p : Int) (d : List Int) (hl : d.length ≤ 1000000000000) : Ev (fun k => spec_validImage.f k w h p d) (validI w h p d) := by
  unfold spec_validImage.f validI
  refine ev_now (spec_validShape_eq w h p) ?_
  by_cases c : shapeI w h p = true
  · refine ev_pos c ?_
    rw [shape_wrap ((shapeI_iff w h p).1 c), c, Bool.true_and]
    by_cases e : (d.length : Int) = w * h * p
    · refine ev_pos e ?_
      rw [decide_eq_true e, Bool.true_and]
      exact ev_bind (spec_allInI_ev d hl) (Ev.now _)
    · refine ev_neg e ?_
      rw [decide_eq_false e]
      exact Ev.now _
  · refine ev_neg c ?_
    rw [Bool.eq_false_iff.2 c]
    exact Ev.now _

/- A pixel's numbers, and where they lie. -/

/-- where a pixel's numbers begin -/
def pixJ (a p : Int) (x y : Nat) : Int := wrap64 ((wrap64 ((wrap64 ((y : Int) * a)) + (x : Int))) * p)
theorem pixJ_is {a b p : Int} {d : List Int} (hv : validI a b p d = true) {x y : Nat} (hx : (x : Int) < a) (hy : (y : Int) < b) : 0 ≤ pixJ a p x y ∧ pixJ a p x y ≤ 1024 ∧ pixJ a p x y = ((y : Int) * a + x) * p ∧ pixJ a p x y + p ≤ (d.length : Int) := by
  have h := (validI_iff a b p d).1 hv
  have hp := shape_prod h.1
  have h1 : 0 ≤ (y : Int) * a := Int.mul_nonneg (by omega) (by omega)
  have h2 : (y : Int) * a ≤ (b - 1) * a := Int.mul_le_mul_of_nonneg_right (by omega) (by omega)
  have h3 : (b - 1) * a = a * b - a := by rw [Int.sub_mul, Int.mul_comm b a]; omega
  have h4 : 0 ≤ ((y : Int) * a + x) * p := Int.mul_nonneg (by omega) (by omega)
  have h5 : ((y : Int) * a + x) * p ≤ (a * b - 1) * p := Int.mul_le_mul_of_nonneg_right (by omega) (by omega)
  have h6 : (a * b - 1) * p = a * b * p - p := by rw [Int.sub_mul]; omega
  have e : pixJ a p x y = ((y : Int) * a + x) * p := by
    unfold pixJ
    rw [w64 (x := (y : Int) * a) (by omega) (by omega), w64 (x := (y : Int) * a + (x : Int)) (by omega) (by omega), w64 (by omega) (by omega)]
  omega
end Go.Proofs.Ytnofkbbcbpjhfaa.Pure

/- A part of a row of one's own is overwritten by a copy; loads of images and numbers in a region that draws its order. -/
namespace Go.Proofs.Ytnofkbbcbpjhfaa.Q
open Go.RowKit Go.Proofs.YtnofkbbcbpjhfaaW.PrintWords Go.Proofs.YtnofkbbcbpjhfaaW.PrintLast Go.Proofs.YtnofkbbcbpjhfaaW.PrintMore
attribute [local go_sem] max2_int min2_int max_two min_two max_three min_three max_four min_four
set_option linter.unusedVariables false
set_option linter.unusedSimpArgs false

theorem yields_img {ops : Array Oper} {S : World → Prop} {op : Oper} {a : Act} (hw : Region.wanted op (yielded ops a.tmps) = true) (x : Operand) (ho : op.op = .load 27 x)
    (B : Nat) (hx : a.eval x = .pointer (some ⟨B, 0, none⟩)) (cs : Array Value) (hS : ∀ w, S w → w.heap[B]? = some (.cells cs 27 (0, 0))) (hn : cs.size = 4) : YieldsIf Try.prog ops S op (.agg cs) a :=
  .inl ⟨hw, fun w hw' => by
    unfold execOp
    simp only [ho, hx, Instr.loadAt, Instr.sureAddr, Sem.run_bind, Sem.run_pure, Result.andThen_ok, run_loadVar_row w B 27 27 cs (0, 0) _ (hS w hw') Try.underlying27 rfl (by rw [hn]; kernel_rfl)]⟩
/-- a row of numbers, a part of it overwritten -/
def laidOver (d : List Int) (j : Nat) (ys : List Int) : List Int := d.take j ++ (ys ++ d.drop (j + ys.length))
theorem laidOver_length (d : List Int) (j : Nat) (ys : List Int) (h : j + ys.length ≤ d.length) : (laidOver d j ys).length = d.length := by
  unfold laidOver
  rw [List.length_append, List.length_append, List.length_take, List.length_drop]
  omega
theorem take_three {α : Type} (A B C : List α) (L : Nat) (h : A.length + B.length ≤ L) : (A ++ (B ++ C)).take L = A ++ (B ++ C.take (L - (A.length + B.length))) := by
  rw [List.take_append, List.take_of_length_le (by omega), List.take_append, List.take_of_length_le (by omega), Nat.sub_sub]
theorem copyAt_wp {o : Oper} {a : Act} {W : World} {K : Act → World → Prop} {Q : Exit → Act → World → Prop} (s x : Operand) (t t' : TypeId)
    (ho : o.op = .call { callee := .builtin .copy, args := #[s, x], argTypes := #[t, t'] }) (ht : Try.prog.underlying t = some (.slice 3))
    (g cap off : Nat) (xs ys : List Int) (A : Option Addr) (m c n c1 base : Nat) (ok : Nat → Prop) (hs : a.eval s = .slice (some ⟨g, off, none⟩) m c1) (hx : a.eval x = .slice A m c) (hn : n = xs.length)
    (HO : Kd.R (Kd.int .i64) 3 W base ok (.slice (some ⟨g, 0, none⟩) n cap) xs) (HR : Kd.C (Kd.int .i64) W A m ys) (hfit : off + m ≤ n)
    (h : ∀ w1, Kd.R (Kd.int .i64) 3 w1 base ok (.slice (some ⟨g, 0, none⟩) n cap) (laidOver xs off ys) → base ≤ g → W.grownBy w1 (some g) → K (a.put o.dst (.int .i64 (m : Int))) w1) :
    Oper.wp Try.prog o a W K Q := by
  subst hn
  have hR := Kd.reads_of_C (enc := Value.int .i64) (d := (0 : Int)) HR
  have hm : ys.length = m := hR.1
  have hown := Kd.own_of_R HO
  have hinfo : (Try.prog.info? 3).map (·.size) = some 1 := by kernel_rfl
  have fin : ∀ w1, (Builtin.copy_ #[t, t'] o.type #[.slice (some ⟨g, off, none⟩) m c1, .slice A m c]).run Try.prog W = .ok (goInt (m : Int)) w1 → Kd.R (Kd.int .i64) 3 w1 base ok (.slice (some ⟨g, 0, none⟩) xs.length cap) (laidOver xs off ys) → base ≤ g → W.grownBy w1 (some g) → Oper.wp Try.prog o a W K Q := by
    intro w1 hr hrow hbg hg
    unfold Oper.wp execOp
    simp only [ho, resolve, invoke, builtin, Sem.run_bind, Sem.run_pure, Result.andThen_ok, List.map_toArray, List.map_cons, List.map_nil, hs, hx, hr]
    exact h w1 hrow hbg hg
  rcases hown.2 with ⟨e0, _⟩ | ⟨g', cap', cur, hv, hb, hh, hnc, hcm, hcs, htake⟩
  · cases e0
  · injection hv with hv1 hv2 hv3
    injection hv1 with hv1
    injection hv1 with hv1 _ _
    subst hv1
    subst hv3
    rcases Nat.eq_zero_or_pos m with h0 | hp
    · obtain rfl : ys = [] := List.eq_nil_of_length_eq_zero (by omega)
      refine fin W ?_ (by unfold laidOver; rw [List.length_nil, Nat.add_zero, List.nil_append, List.take_append_drop]; exact HO) hb (World.grownBy.refl W _)
      rw [h0]
      exact run_copy_none W t t' o.type 3 (some ⟨g, off, none⟩) A 0 c1 0 c ht hinfo rfl
    · obtain ⟨ad, hA, hc⟩ := hR.2.2 (by omega)
      have hcs1 : cur.size = cap := by omega
      have hkl : (encs (Value.int .i64) ys).length = m := by rw [encs_length, hm]
      have hsrc : ∀ j u, (encs (Value.int .i64) ys)[j]? = some u → W.cell? (ad.add j) = some u := by
        intro j u hu
        have hj : j < ys.length := by
          rcases Nat.lt_or_ge j ys.length with h | h
          · exact h
          · rw [List.getElem?_eq_none (by rw [encs_length]; exact h)] at hu
            cases hu
        rw [encs_get (d := (0 : Int)) _ j hj] at hu
        rw [hc j (by omega), ← hu]
      have hr := run_copy_cells (P := Try.prog) W t t' o.type 3 g off m c1 ad m c (encs (Value.int .i64) ys) ht hinfo (by rw [hkl]; simp) hsrc
        (fun j hj => by rw [cell_of_row W g _ cur 3 (0, 0) hh]; simp; omega) (fun j _ => blk_frozen hh _) (by intro u hu; simp only [encs, List.mem_map] at hu; obtain ⟨q, _, rfl⟩ := hu; rfl)
      obtain ⟨cur', h3, h4, h5⟩ := setCells_row (encs (Value.int .i64) ys) off W cur hh (by rw [hkl]; omega)
      obtain ⟨s1, s2, s3, s4⟩ := setCells_same g (encs (Value.int .i64) ys) off W
      refine fin _ (by rw [hA, hr, hkl]) (Kd.R_of_own ?_ HO.1) hb ⟨s1, s2, s3, by rw [s4]; exact Nat.le_refl _, fun k _ hk => setCells_far _ _ k (fun he => hk (by rw [he]))⟩
      have hln := laidOver_length xs off ys (by omega)
      rw [hln]
      refine ⟨by rw [encs_length, hln, Nat.mul_one], .inr ⟨g, cap, cur', rfl, hb, h3, hnc, hcm, by rw [h4, hcs], ?_⟩⟩
      have htk : cur.toList.take xs.length = encs (Value.int .i64) xs := by rw [← htake, Nat.mul_one]
      rw [h5, hkl, Nat.mul_one]
      unfold laidOver
      rw [encs_append, encs_append]
      have e1 : encs (Value.int .i64) (xs.take off) = (cur.toList.take off) := by
        have : encs (Value.int .i64) (xs.take off) = (encs (Value.int .i64) xs).take off := by simp [encs, List.map_take]
        rw [this, ← htk, List.take_take, Nat.min_eq_left (by omega)]
      have e2 : encs (Value.int .i64) (xs.drop (off + ys.length)) = (cur.toList.drop (off + m)).take (xs.length - (off + m)) := by
        have : encs (Value.int .i64) (xs.drop (off + ys.length)) = (encs (Value.int .i64) xs).drop (off + ys.length) := by simp [encs, List.map_drop]
        rw [this, ← htk, hm, List.drop_take]
      rw [e1, e2]
      have e3 : (cur.toList.take off).length = off := by rw [List.length_take, Array.length_toList, Nat.min_eq_left (by omega)]
      first | rw [List.append_assoc, take_three _ _ _ _ (by rw [e3, hkl]; omega), e3, hkl] | rw [take_three _ _ _ _ (by rw [e3, hkl]; omega), e3, hkl]
def rowD (px : Nat → Nat → List Int) (a y : Nat) : List Int := (List.range a).flatMap (fun x => px x y)
def imgD (px : Nat → Nat → List Int) (a b : Nat) : List Int := (List.range b).flatMap (fun y => rowD px a y)
end Go.Proofs.Ytnofkbbcbpjhfaa.Q

/- impl.patched: an image in which the pixels of boxes are those of another one. -/
namespace Go.Proofs.Ytnofkbbcbpjhfaa.Q
open Go.RowKit Go.Proofs.YtnofkbbcbpjhfaaW.PrintWords Go.Proofs.YtnofkbbcbpjhfaaW.PrintLast Go.Proofs.YtnofkbbcbpjhfaaW.PrintMore
attribute [local go_sem] max2_int min2_int max_two min_two max_three min_three max_four min_four
set_option linter.unusedVariables false
set_option linter.unusedSimpArgs false
open Go.Proofs.Ytnofkbbcbpjhfaa.Pure

/-- one pixel's numbers put over -/
def put1 (a p : Int) (e : List Int) (x y : Nat) (d : List Int) : List Int := laidOver d (pixJ a p x y).toNat (pixT e (pixJ a p x y) p)
def putX (a p : Int) (e : List Int) (X y n : Nat) (d : List Int) : List Int := (List.range n).foldl (fun d i => put1 a p e (X + i) y d) d
def putB (a p : Int) (e : List Int) (X Y W n : Nat) (d : List Int) : List Int := (List.range n).foldl (fun d i => putX a p e X (Y + i) W d) d
def patchD (a p : Int) (e : List Int) (l : List S47) (d : List Int) : List Int := l.foldl (fun d r => putB a p e r.f0.toNat r.f1.toNat r.f2.toNat r.f3.toNat d) d
def onB (a b : Int) (r : S47) : Bool := decide (0 ≤ r.f0) && (decide (r.f0 < a) && (decide (0 ≤ r.f1) && (decide (r.f1 < b) && (decide (1 ≤ r.f2) && (decide (r.f2 ≤ a - r.f0) && (decide (1 ≤ r.f3) && decide (r.f3 ≤ b - r.f1)))))))
theorem onB_iff (a b : Int) (r : S47) : onB a b r = true ↔ 0 ≤ r.f0 ∧ r.f0 < a ∧ 0 ≤ r.f1 ∧ r.f1 < b ∧ 1 ≤ r.f2 ∧ r.f2 ≤ a - r.f0 ∧ 1 ≤ r.f3 ∧ r.f3 ≤ b - r.f1 := by simp [onB]
def impl_patched.f (a b p : Int) (d1 : List Int) (a2 b2 p2 : Int) (d2 : List Int) (l : List S47) : Option (Int × Int × Int × List Int) :=
  if validI a b p d1 = true ∧ validI a b p d2 = true ∧ a2 = a ∧ b2 = b ∧ p2 = p ∧ l.all (onB a b) = true then some (a, b, p, patchD a p d2 l d1) else none
theorem putX_succ (a p : Int) (e : List Int) (X y n : Nat) (d : List Int) : putX a p e X y (n + 1) d = put1 a p e (X + n) y (putX a p e X y n d) := by unfold putX; rw [List.range_succ, List.foldl_append]; rfl
theorem putB_succ (a p : Int) (e : List Int) (X Y W n : Nat) (d : List Int) : putB a p e X Y W (n + 1) d = putX a p e X (Y + n) W (putB a p e X Y W n d) := by unfold putB; rw [List.range_succ, List.foldl_append]; rfl
theorem patchD_succ (a p : Int) (e : List Int) (l : List S47) (k : Nat) (h : k < l.length) (d : List Int) : patchD a p e (l.take (k + 1)) d = putB a p e l[k].f0.toNat l[k].f1.toNat l[k].f2.toNat l[k].f3.toNat (patchD a p e (l.take k) d) := by unfold patchD; rw [List.take_succ_eq_append_getElem h, List.foldl_append]; rfl

set_option maxHeartbeats 4000000 in
set_option maxRecDepth 100000 in
theorem patched_go (a b p : Int) (A1 A2 A3 : Option Addr) (c1 c2 c3 : Nat) (d1 d2 : List Int) (l : List S47) (hv1 : validI a b p d1 = true) (hv2 : validI a b p d2 = true) (hl : ∀ r ∈ l, onB a b r = true) (hc1 : d1.length ≤ c1) (hc2 : d2.length ≤ c2) (w : World) (hr1 : Kd.C (Kd.int .i64) w A1 d1.length d1) (hr2 : Kd.C (Kd.int .i64) w A2 d2.length d2) (hr3 : Kd.C k47 w A3 l.length l) :
    Calls Try.prog 125 #[.agg #[.int .i64 a, .int .i64 b, .int .i64 p, .slice A1 d1.length c1], .agg #[.int .i64 a, .int .i64 b, .int .i64 p, .slice A2 d2.length c2], .slice A3 l.length c3] w fun e w' => ∃ v3_ : Value, e = .returned (.agg #[.int .i64 a, .int .i64 b, .int .i64 p, v3_]) ∧ Kd.R (Kd.int .i64) 3 w' w.heap.size (fun _ => True) v3_ (patchD a p d2 l d1) ∧ Below w.heap.size w w' := by
  have hsh := (validI_iff a b p d1).1 hv1
  have hsp := shape_prod hsh.1
  have hpos : 0 < a * b * p := Int.mul_pos (Int.mul_pos (by omega) (by omega)) (by omega)
  have HL1 := Aside0.mk (show d1.length ≤ 1024 by omega)
  have HNE := Aside0.mk (show 0 < d1.length by omega)
  have HL12 := Aside0.mk (show d2.length = d1.length by have := ((validI_iff a b p d2).1 hv2).2.1; omega)
  have HV1 := Aside0.mk hv1
  have HV2 := Aside0.mk hv2
  have HSH := Aside0.mk hsh.1
  have HC1 := Aside0.mk hc1
  have HC2 := Aside0.mk hc2
  have HR1 := Aside0.mk hr1
  have HR2 := Aside0.mk hr2
  have HR3 := Aside0.mk hr3
  have HL := Aside0.mk hl
  have hm : l.length ≤ 9223372036854775807 := hr3.2.1
  have HB0 := Aside0.mk (Below.refl w.heap.size w)
  have HCP := Aside0.mk (show impl_copyImage.f a b p d1 = some (a, b, p, d1) from by
    unfold impl_copyImage.f
    simp only [Option.bind_some]
    rw [if_pos (by simp; omega)]
    simp)
  have hu := Try.underlying27
  have hub := Try.underlying47
  have hui := Try.underlying22
  clear hsh hsp hpos hc1 hc2 hr1 hr2 hr3 hl hv1 hv2
  go_enter Try.func125, Try.ntmps125
  go_wp2_with (first
    | ((with_reducible refine gate_dst (N := 3) rfl ?_); refine box_event ?hg (N := 3) ?hd (cs := #[.int .i64 a, .int .i64 b, .int .i64 p, .slice A1 d1.length c1]) (t := 27) ?hr ?_; (case hd => rfl); (case hg => rfl); (case hr => first | (go_simp; done) | (go_simp; rfl)); intro g1 hg_ w1 hbox hb; have HB1 := Aside0.mk (below_then HB0.out HB0.out.size hb); have K1 := Aside0.mk hbox; have Gg1 := Aside0.mk (show w.heap.size ≤ g1 from by rw [hg_]; exact HB0.out.size); clear hbox hb hg_)
    | ((with_reducible refine gate_dst (N := 4) rfl ?_); refine box_event ?hg (N := 4) ?hd (cs := #[.int .i64 a, .int .i64 b, .int .i64 p, .slice A2 d2.length c2]) (t := 27) ?hr ?_; (case hd => rfl); (case hg => rfl); (case hr => first | (go_simp; done) | (go_simp; rfl)); intro g2 hg_ w2 hbox hb; have HB2 := Aside0.mk (below_then HB1.out HB1.out.size hb); have K2 := Aside0.mk hbox; have Gg2 := Aside0.mk (show w.heap.size ≤ g2 from by rw [hg_]; exact HB1.out.size); have K1b := Aside0.mk (blk_below K1.out hb); clear hbox hb hg_)
    | ((with_reducible refine gate_dst (N := 6) rfl ?_); refine box_event ?hg (N := 6) ?hd (cs := #[.int .i64 0, .int .i64 0, .int .i64 0, .slice none 0 0]) (t := 27) ?hr ?_; (case hd => rfl); (case hg => rfl); (case hr => first | (go_simp; done) | (go_simp; rfl)); intro g3 hg_ w3 hbox hb; have HB3 := Aside0.mk (below_then HB2.out HB2.out.size hb); have K3 := Aside0.mk hbox; have Gg3 := Aside0.mk (show w.heap.size ≤ g3 from by rw [hg_]; exact HB2.out.size); have K1c := Aside0.mk (blk_below K1b.out hb); have K2c := Aside0.mk (blk_below K2.out hb); have f0 : w3.cell? ⟨g1, 0, none⟩ = some (.int .i64 a) := (blk_cell K1c.out 0).trans rfl; have f1 : w3.cell? ⟨g1, 1, none⟩ = some (.int .i64 b) := (blk_cell K1c.out 1).trans rfl; have f2 : w3.cell? ⟨g1, 2, none⟩ = some (.int .i64 p) := (blk_cell K1c.out 2).trans rfl; have f3 : w3.cell? ⟨g1, 3, none⟩ = some (.slice A1 d1.length c1) := (blk_cell K1c.out 3).trans rfl; clear hbox hb hg_)
    | (go_at_call 133; (with_reducible refine (impl_copyImage.calls a b p A1 c1 d1 a b p d1 w3 (Kd.C_below HR1.out HB3.out) HC1.out HCP.out).mono ?_); rintro e w4 ⟨v4, rfl, hr4, hb4⟩; have HB4 := Aside0.mk (below_then HB3.out HB3.out.size hb4); have HR4 := Aside0.mk (Kd.R_lower hr4 HB3.out.size); have K2d := Aside0.mk (blk_below K2c.out hb4); have K3d := Aside0.mk (blk_below K3.out hb4); obtain ⟨gr, cr, e4, hgr, hgl, _⟩ := Kd.R_form hr4 HNE.out; subst e4; have GR := Aside0.mk hgr; have GL := Aside0.mk hgl; clear hr4 hb4 hgr hgl))
  obtain ⟨n, HN⟩ : ∃ n, Aside0 (n = d1.length) := ⟨_, ⟨rfl⟩⟩
  have HGM := blk_new w4 (.cells #[.int .i64 a, .int .i64 b, .int .i64 p, .slice (some ⟨gr, 0, none⟩) d1.length cr] 27 (0, 0))
  rw [← HN.out] at HGM ⊢
  have HR4 := HR4.out
  rw [← HN.out] at HR4
  have SZ := blk_lt K3.out
  have SZ2 := blk_lt K3d.out
  have GG3 := Gg3.out
  go_loopw [16] (fun v16 W => ∃ k : Nat, v16 = .int .i64 k ∧ k ≤ l.length ∧ (∃ D, Aside0 (D = patchD a p d2 (l.take k) d1) ∧ Aside0 (n = D.length) ∧ Kd.R (Kd.int .i64) 3 W w.heap.size (fun k => k = gr) (.slice (some ⟨gr, 0, none⟩) n cr) D) ∧ Aside0 (W.heap[w4.heap.size]? = some (.cells #[.int .i64 a, .int .i64 b, .int .i64 p, .slice (some ⟨gr, 0, none⟩) n cr] 27 (0, 0))) ∧ Aside0 (W.heap[g2]? = some (.cells #[.int .i64 a, .int .i64 b, .int .i64 p, .slice A2 d2.length c2] 27 (0, 0))) ∧ Aside0 (W.heap[g3]? = some (.cells #[.int .i64 0, .int .i64 0, .int .i64 0, .slice none 0 0] 27 (0, 0))) ∧ Aside0 (Below w.heap.size w W)) (fun v16 _ => l.length - (intOf v16).toNat)
  case atStart => exact ⟨0, rfl, by omega, ⟨d1, ⟨rfl⟩, HN, Kd.R_alloc (Kd.R_mono (Kd.R_tight rfl HR4) (fun k hk => by simpa [Value.ownBlock] using hk)) _⟩, ⟨HGM⟩, ⟨blk_alloc K2d.out _⟩, ⟨blk_alloc K3d.out _⟩, ⟨below_alloc HB4.out _⟩⟩
  case round =>
    clear HR4 HGM
    obtain ⟨k, rfl, hk, ⟨D0, HD0, HDn, hr⟩, h7, h2, h3, hb⟩ := hrel
    obtain ⟨wo, rfl⟩ : ∃ wo : World, wo = wr := ⟨_, rfl⟩
    by_cases hlt : k < l.length
    · have hdk : decide ((k : Int) < (l.length : Int)) = true := by simp; omega
      obtain ⟨ad, e, hx0, hx1, hx2, hx3⟩ := at_T47 HR3.out (k : Int) (by omega) (by omega)
      cases e
      have er : rd_T47 l (k : Int) = l[k] := by simp [rd_T47, hlt]
      have ho := (onB_iff a b l[k]).1 (HL.out l[k] (List.getElem_mem hlt))
      have HGS := Aside0.mk (patchD_succ a p d2 l k hlt d1)
      rw [er, Int.toNat_natCast] at hx0 hx1 hx2 hx3
      clear er
      generalize l[k] = r at *
      obtain ⟨X, hX⟩ := Int.eq_ofNat_of_zero_le ho.1
      obtain ⟨Y, hY⟩ := Int.eq_ofNat_of_zero_le ho.2.2.1
      obtain ⟨Wd, hWd⟩ := Int.eq_ofNat_of_zero_le (show 0 ≤ r.f2 by omega)
      obtain ⟨Hg, hHg⟩ := Int.eq_ofNat_of_zero_le (show 0 ≤ r.f3 by omega)
      rw [hX] at hx0 ho
      rw [hY] at hx1 ho
      rw [hWd] at hx2 ho
      rw [hHg] at hx3 ho
      have hsh := HSH.out
      have hx16 : X < 16 := by omega
      have hy16 : Y < 16 := by omega
      have hw16 : Wd ≤ 16 := by omega
      have hh16 : Hg ≤ 16 := by omega
      have HXA := Aside0.mk (show (X : Int) + Wd ≤ a by omega)
      have HYB := Aside0.mk (show (Y : Int) + Hg ≤ b by omega)
      replace HGS := Aside0.mk (show patchD a p d2 (l.take (k + 1)) d1 = putB a p d2 X Y Wd Hg D0 from by rw [HGS.out, hX, hY, hWd, hHg, HD0.out]; rfl)
      clear hsh ho hX hY hWd hHg
      replace hx0 := (hb.out.cell (World.block_lt_of_cell? w _ hx0)).trans hx0
      replace hx1 := (hb.out.cell (World.block_lt_of_cell? w _ hx1)).trans hx1
      replace hx2 := (hb.out.cell (World.block_lt_of_cell? w _ hx2)).trans hx2
      replace hx3 := (hb.out.cell (World.block_lt_of_cell? w _ hx3)).trans hx3
      go_wp2
      have SB := hb.out.size
      have S7 := blk_lt h7.out
      have S3 := blk_lt h3.out
      go_loopw [10] (fun v10 W => ∃ y : Nat, v10 = .int .i64 y ∧ Y ≤ y ∧ y ≤ Y + Hg ∧ (∃ D, Aside0 (D = putB a p d2 X Y Wd (y - Y) D0) ∧ Aside0 (n = D.length) ∧ Kd.R (Kd.int .i64) 3 W w.heap.size (fun k => k = gr) (.slice (some ⟨gr, 0, none⟩) n cr) D) ∧ Aside0 (W.heap[wo.heap.size]? = some (.cells #[.int .i64 (X : Int), .int .i64 (Y : Int), .int .i64 (Wd : Int), .int .i64 (Hg : Int)] 47 (0, 0))) ∧ Aside0 (W.heap[w4.heap.size]? = some (.cells #[.int .i64 a, .int .i64 b, .int .i64 p, .slice (some ⟨gr, 0, none⟩) n cr] 27 (0, 0))) ∧ Aside0 (W.heap[g2]? = some (.cells #[.int .i64 a, .int .i64 b, .int .i64 p, .slice A2 d2.length c2] 27 (0, 0))) ∧ Aside0 (W.heap[g3]? = some (.cells #[.int .i64 0, .int .i64 0, .int .i64 0, .slice none 0 0] 27 (0, 0))) ∧ Aside0 (Below w.heap.size w W)) (fun v10 _ => Y + Hg - (intOf v10).toNat)
      case atStart => exact ⟨Y, rfl, Nat.le_refl _, by omega, ⟨D0, ⟨by rw [Nat.sub_self]; rfl⟩, HDn, Kd.R_alloc hr _⟩, ⟨blk_new _ _⟩, ⟨blk_alloc h7.out _⟩, ⟨blk_alloc h2.out _⟩, ⟨blk_alloc h3.out _⟩, ⟨below_alloc hb.out _⟩⟩
      case round =>
        clear hr h7 h2 h3 hb HDn
        obtain ⟨y, rfl, hYy, hyH, ⟨D1, HD1, HDn, hr⟩, h9, h7, h2, h3, hb⟩ := hrel
        have k0 : wr.cell? ⟨wo.heap.size, 0, none⟩ = some (.int .i64 (X : Int)) := (blk_cell h9.out 0).trans rfl
        have k1 : wr.cell? ⟨wo.heap.size, 1, none⟩ = some (.int .i64 (Y : Int)) := (blk_cell h9.out 1).trans rfl
        have k2 : wr.cell? ⟨wo.heap.size, 2, none⟩ = some (.int .i64 (Wd : Int)) := (blk_cell h9.out 2).trans rfl
        have k3 : wr.cell? ⟨wo.heap.size, 3, none⟩ = some (.int .i64 (Hg : Int)) := (blk_cell h9.out 3).trans rfl
        by_cases hly : y < Y + Hg
        · have hdy : decide ((y : Int) < (Y : Int) + (Hg : Int)) = true := by simp; omega
          go_wp2
          go_loopw [11] (fun v11 W => ∃ x : Nat, v11 = .int .i64 x ∧ X ≤ x ∧ x ≤ X + Wd ∧ (∃ D, Aside0 (D = putX a p d2 X y (x - X) D1) ∧ Aside0 (n = D.length) ∧ Kd.R (Kd.int .i64) 3 W w.heap.size (fun k => k = gr) (.slice (some ⟨gr, 0, none⟩) n cr) D) ∧ Aside0 (W.heap[wo.heap.size]? = some (.cells #[.int .i64 (X : Int), .int .i64 (Y : Int), .int .i64 (Wd : Int), .int .i64 (Hg : Int)] 47 (0, 0))) ∧ Aside0 (W.heap[w4.heap.size]? = some (.cells #[.int .i64 a, .int .i64 b, .int .i64 p, .slice (some ⟨gr, 0, none⟩) n cr] 27 (0, 0))) ∧ Aside0 (W.heap[g2]? = some (.cells #[.int .i64 a, .int .i64 b, .int .i64 p, .slice A2 d2.length c2] 27 (0, 0))) ∧ Aside0 (W.heap[g3]? = some (.cells #[.int .i64 0, .int .i64 0, .int .i64 0, .slice none 0 0] 27 (0, 0))) ∧ Aside0 (Below w.heap.size w W)) (fun v11 _ => X + Wd - (intOf v11).toNat)
          case atStart => exact ⟨X, rfl, Nat.le_refl _, by omega, ⟨D1, ⟨by rw [Nat.sub_self]; rfl⟩, HDn, hr⟩, h9, h7, h2, h3, hb⟩
          case round =>
            clear hr h9 h7 h2 h3 hb k0 k1 k2 k3 HDn
            obtain ⟨x, rfl, hXx, hxW, ⟨D, HD2, HDn, hr⟩, h9, h7, h2, h3, hb⟩ := hrel
            have k0 : wr.cell? ⟨wo.heap.size, 0, none⟩ = some (.int .i64 (X : Int)) := (blk_cell h9.out 0).trans rfl
            have k2 : wr.cell? ⟨wo.heap.size, 2, none⟩ = some (.int .i64 (Wd : Int)) := (blk_cell h9.out 2).trans rfl
            by_cases hlx : x < X + Wd
            · have hdx : decide ((x : Int) < (X : Int) + (Wd : Int)) = true := by simp; omega
              obtain ⟨j, hj⟩ : ∃ j, pixJ a p x y = j := ⟨_, rfl⟩
              have hxa : (x : Int) < a := by have := HXA.out; omega
              have hyb : (y : Int) < b := by have := HYB.out; omega
              have hb1 := pixJ_is HV1.out hxa hyb
              have hb2 := pixJ_is HV2.out hxa hyb
              have hpp := HSH.out
              rw [hj] at hb1 hb2
              have hw : wrap64 (j + p) = j + p := w64 (by omega) (by omega)
              have hnn := HN.out
              obtain ⟨_, _, _, _, _, hcrn, _⟩ : Nonempty True ∧ Nonempty True ∧ Nonempty True ∧ Nonempty True ∧ Nonempty True ∧ n ≤ cr ∧ True := ⟨⟨trivial⟩, ⟨trivial⟩, ⟨trivial⟩, ⟨trivial⟩, ⟨trivial⟩, (Kd.R_reads' hr).2.1, trivial⟩
              have AT1 := Aside0.mk (fun W => at_callsX a b p (some ⟨gr, 0, none⟩) cr n (x : Int) (y : Int) j hcrn hj (by omega) (by omega) (by omega) (some ⟨gr, j.toNat, none⟩) (by
                rw [if_neg (by omega)]
                simp only [Option.map_some]
                unfold Addr.add
                split <;> simp_all) W)
              obtain ⟨Aq, hAq⟩ : ∃ Aq, Aq = if c2 = j.toNat then A2 else A2.map (·.add (j.toNat * 1)) := ⟨_, rfl⟩
              have AT2 := Aside0.mk (fun W => at_callsX a b p A2 c2 d2.length (x : Int) (y : Int) j HC2.out hj (by omega) (by omega) (by omega) Aq hAq W)
              have HP2 := Aside0.mk (fun (W : World) (hW : Below w.heap.size w W) => pixT_C (j := j) (p := p) (Kd.C_below HR2.out hW) HC2.out (by omega) (by omega))
              rw [pixT_length d2 j p (by omega), ← hAq] at HP2
              have HF := Aside0.mk (show j.toNat + ((wrap64 (j + p)).toNat - j.toNat) ≤ n by omega)
              have HPL := Aside0.mk (pixT_length d2 j p (by omega))
              have HJ := Aside0.mk hj
              clear hb1 hb2 hpp hw hnn hcrn hj hxa hyb hAq
              go_wp2
              refine wp_region_held_drew (S := (fun W => Aside0 (Below w.heap.size w W) ∧ Aside0 (W.heap[w4.heap.size]? = some (.cells #[.int .i64 a, .int .i64 b, .int .i64 p, .slice (some ⟨gr, 0, none⟩) n cr] 27 (0, 0))) ∧ Aside0 (W.heap[g2]? = some (.cells #[.int .i64 a, .int .i64 b, .int .i64 p, .slice A2 d2.length c2] 27 (0, 0))) ∧ Aside0 (W.heap[wo.heap.size]? = some (.cells #[.int .i64 (X : Int), .int .i64 (Y : Int), .int .i64 (Wd : Int), .int .i64 (Hg : Int)] 47 (0, 0))) ∧ Aside0 (W.heap[g3]? = some (.cells #[.int .i64 0, .int .i64 0, .int .i64 0, .slice none 0 0] 27 (0, 0))))) (by kernel_rfl) ⟨⟨below_drew hb.out⟩, ⟨blk_below h7.out (below_drew (Below.refl _ _))⟩, ⟨blk_below h2.out (below_drew (Below.refl _ _))⟩, ⟨blk_below h9.out (below_drew (Below.refl _ _))⟩, ⟨blk_below h3.out (below_drew (Below.refl _ _))⟩⟩ (fun hH => ?_)
              have hrd := Kd.R_drew hr
              obtain ⟨W0, hW0⟩ : ∃ W, W = wr.drew := ⟨_, rfl⟩
              rw [← hW0] at hH hrd ⊢
              clear hW0 hr hb h7 h2 h3 h9
              refine wpAnyH_take (i := 0) rfl (by kernel_rfl) (by kernel_rfl) (by kernel_rfl) (fun _ _ _ h => h) (yields_img (by kernel_rfl) _ rfl w4.heap.size rfl #[.int .i64 a, .int .i64 b, .int .i64 p, .slice (some ⟨gr, 0, none⟩) n cr] (fun W hW => hW.2.1.out) rfl) hH ?_
              simp only [Act.put, List.setIfInBounds_toArray, List.set_cons_zero, List.set_cons_succ, List.getElem_toArray, List.getElem_cons_zero, List.getElem_cons_succ]
              refine wpAnyH_take (i := 1) (v := .int .i64 (x : Int)) rfl (by kernel_rfl) (by kernel_rfl) (by kernel_rfl) (fun _ _ _ h => h) (.inl ⟨by kernel_rfl, fun W hW => by first | (go_simp; done) | (go_simp; intro h_; omega)⟩) hH ?_
              simp only [Act.put, List.setIfInBounds_toArray, List.set_cons_zero, List.set_cons_succ, List.getElem_toArray, List.getElem_cons_zero, List.getElem_cons_succ]
              refine wpAnyH_take (i := 2) (v := .int .i64 (y : Int)) rfl (by kernel_rfl) (by kernel_rfl) (by kernel_rfl) (fun _ _ _ h => h) (.inl ⟨by kernel_rfl, fun W hW => by first | (go_simp; done) | (go_simp; intro h_; omega)⟩) hH ?_
              simp only [Act.put, List.setIfInBounds_toArray, List.set_cons_zero, List.set_cons_succ, List.getElem_toArray, List.getElem_cons_zero, List.getElem_cons_succ]
              refine wpAnyH_take (i := 4) rfl (by kernel_rfl) (by kernel_rfl) (by kernel_rfl) (fun _ _ _ h => h) (yields_img (by kernel_rfl) _ rfl g2 rfl #[.int .i64 a, .int .i64 b, .int .i64 p, .slice A2 d2.length c2] (fun W hW => hW.2.2.1.out) rfl) hH ?_
              simp only [Act.put, List.setIfInBounds_toArray, List.set_cons_zero, List.set_cons_succ, List.getElem_toArray, List.getElem_cons_zero, List.getElem_cons_succ]
              refine wpAnyH_take (i := 5) (v := .int .i64 (x : Int)) rfl (by kernel_rfl) (by kernel_rfl) (by kernel_rfl) (fun _ _ _ h => h) (.inl ⟨by kernel_rfl, fun W hW => by first | (go_simp; done) | (go_simp; intro h_; omega)⟩) hH ?_
              simp only [Act.put, List.setIfInBounds_toArray, List.set_cons_zero, List.set_cons_succ, List.getElem_toArray, List.getElem_cons_zero, List.getElem_cons_succ]
              refine wpAnyH_take (i := 6) (v := .int .i64 (y : Int)) rfl (by kernel_rfl) (by kernel_rfl) (by kernel_rfl) (fun _ _ _ h => h) (.inl ⟨by kernel_rfl, fun W hW => by first | (go_simp; done) | (go_simp; intro h_; omega)⟩) hH ?_
              simp only [Act.put, List.setIfInBounds_toArray, List.set_cons_zero, List.set_cons_succ, List.getElem_toArray, List.getElem_cons_zero, List.getElem_cons_succ]
              refine wpAnyH_ready (rs := [3]) (by kernel_rfl) (by simp) ?_
              refine AllReadyH.cons (i := 3) rfl ?_ AllReadyH.nil
              intro K hK
              rw [if_pos (by rfl)]
              go_simp
              go_wp2_with (first | (go_at_call 109; (with_reducible refine (AT1.out _).mono ?_); rintro e W1 ⟨rfl, hb⟩))
              refine hK.out _ _ ⟨⟨below_then hH.1.out hH.1.out.size hb⟩, ⟨blk_below hH.2.1.out hb⟩, ⟨blk_below hH.2.2.1.out hb⟩, ⟨blk_below hH.2.2.2.1.out hb⟩, ⟨blk_below hH.2.2.2.2.out hb⟩⟩ (fun hH1 => ?_)
              replace hrd := Kd.R_below hrd hb
              clear hK K hb hH
              have hH := hH1
              clear hH1
              try simp only [Act.put, List.setIfInBounds_toArray, List.set_cons_zero, List.set_cons_succ, List.getElem_toArray, List.getElem_cons_zero, List.getElem_cons_succ]
              refine wpAnyH_ready (rs := [7]) (by kernel_rfl) (by simp) ?_
              refine AllReadyH.cons (i := 7) rfl ?_ AllReadyH.nil
              intro K hK
              rw [if_pos (by rfl)]
              go_simp
              go_wp2_with (first | (go_at_call 109; (with_reducible refine (AT2.out _).mono ?_); rintro e W2 ⟨rfl, hb⟩))
              refine hK.out _ _ ⟨⟨below_then hH.1.out hH.1.out.size hb⟩, ⟨blk_below hH.2.1.out hb⟩, ⟨blk_below hH.2.2.1.out hb⟩, ⟨blk_below hH.2.2.2.1.out hb⟩, ⟨blk_below hH.2.2.2.2.out hb⟩⟩ (fun hH1 => ?_)
              replace hrd := Kd.R_below hrd hb
              clear hK K hb hH
              have hH := hH1
              clear hH1
              try simp only [Act.put, List.setIfInBounds_toArray, List.set_cons_zero, List.set_cons_succ, List.getElem_toArray, List.getElem_cons_zero, List.getElem_cons_succ]
              refine wpAnyH_ready (rs := [8]) (by kernel_rfl) (by simp) ?_
              refine AllReadyH.cons (i := 8) rfl ?_ AllReadyH.nil
              intro K hK
              rw [if_pos (by rfl)]
              refine copyAt_wp (.tmp 45) (.tmp 49) 22 22 rfl Try.underlying22 gr cr j.toNat D (pixT d2 j p) _ _ _ n _ w.heap.size (fun k => k = gr) rfl rfl HDn.out hrd (HP2.out _ hH.1.out) HF.out ?_
              intro w5 hr5 hbg hg5
              have hb5 : Below w.heap.size w w5 := hH.1.out.grown hg5 hH.1.out.size (fun k hk => by injection hk with hk; omega)
              have hk7 : w5.heap[w4.heap.size]? = some (.cells #[.int .i64 a, .int .i64 b, .int .i64 p, .slice (some ⟨gr, 0, none⟩) n cr] 27 (0, 0)) := (hg5.block _ (blk_lt hH.2.1.out) (by intro e; injection e with e; have := GL.out; omega)).trans hH.2.1.out
              have hk2 : w5.heap[g2]? = some (.cells #[.int .i64 a, .int .i64 b, .int .i64 p, .slice A2 d2.length c2] 27 (0, 0)) := (hg5.block _ (blk_lt hH.2.2.1.out) (by intro e; injection e with e; have := GR.out; have := blk_lt K2c.out; omega)).trans hH.2.2.1.out
              have hk9 : w5.heap[wo.heap.size]? = some (.cells #[.int .i64 (X : Int), .int .i64 (Y : Int), .int .i64 (Wd : Int), .int .i64 (Hg : Int)] 47 (0, 0)) := (hg5.block _ (blk_lt hH.2.2.2.1.out) (by intro e; injection e with e; have := GL.out; omega)).trans hH.2.2.2.1.out
              have hk3 : w5.heap[g3]? = some (.cells #[.int .i64 0, .int .i64 0, .int .i64 0, .slice none 0 0] 27 (0, 0)) := (hg5.block _ (blk_lt hH.2.2.2.2.out) (by intro e; injection e with e; have := GR.out; omega)).trans hH.2.2.2.2.out
              refine hK.out _ _ ⟨⟨hb5⟩, ⟨hk7⟩, ⟨hk2⟩, ⟨hk9⟩, ⟨hk3⟩⟩ (fun hH1 => ?_)
              clear hK K hH hrd hb5 hk7 hk2 hk9 hk3 hg5
              obtain ⟨hb, h7, h2, h9, h3⟩ := hH1
              try simp only [Act.put, List.setIfInBounds_toArray, List.set_cons_zero, List.set_cons_succ, List.getElem_toArray, List.getElem_cons_zero, List.getElem_cons_succ]
              refine wpAnyH_done (by kernel_rfl) ?_ _
              go_wp2
              exact ⟨⟨x + 1, by go_num, by omega, by omega, ⟨laidOver D j.toNat (pixT d2 j p), ⟨by rw [show x + 1 - X = (x - X) + 1 by omega, putX_succ, ← HD2.out, show X + (x - X) = x by omega]; unfold put1; rw [HJ.out]⟩, ⟨by rw [laidOver_length _ _ _ (by rw [HPL.out, ← HDn.out]; exact HF.out)]; exact HDn.out⟩, hr5⟩, h9, h7, h2, h3, hb⟩, by simp [intOf]; omega⟩
            · have hdx : decide ((x : Int) < (X : Int) + (Wd : Int)) = false := by simp; omega
              have hxe : x = X + Wd := by omega
              subst hxe
              go_wp2
              go_roundw
              case rel => exact ⟨y + 1, by go_num, by omega, by omega, ⟨D, ⟨by rw [HD2.out, HD1.out, Nat.add_sub_cancel_left, show y + 1 - Y = (y - Y) + 1 by omega, putB_succ, show Y + (y - Y) = y by omega]⟩, HDn, hr⟩, h9, h7, h2, h3, hb⟩
              case measure => simp [intOf]; omega
        · have hdy : decide ((y : Int) < (Y : Int) + (Hg : Int)) = false := by simp; omega
          have hye : y = Y + Hg := by omega
          subst hye
          go_wp2
          go_roundw
          case rel => exact ⟨k + 1, by go_num, by omega, ⟨D1, ⟨by rw [HD1.out, HGS.out, Nat.add_sub_cancel_left]⟩, HDn, hr⟩, h7, h2, h3, hb⟩
          case measure => simp [intOf]; omega
    · have hdk : decide ((k : Int) < (l.length : Int)) = false := by simp; omega
      have hkl : k = l.length := by omega
      subst hkl
      have HB3o := h3.out
      have H7o := h7.out
      have m0 := blk_cell h7.out 0; have m1 := blk_cell h7.out 1; have m2 := blk_cell h7.out 2; have m3 := blk_cell h7.out 3
      have z0 := blk_cell h3.out 0; have z1 := blk_cell h3.out 1; have z2 := blk_cell h3.out 2; have z3 := blk_cell h3.out 3
      have y0 := blk_frozen h3.out 0; have y1 := blk_frozen h3.out 1; have y2 := blk_frozen h3.out 2; have y3 := blk_frozen h3.out 3
      go_wp2
      refine bodyPost_ret (results_cell_row rfl _ _ g3 27 #[.int .i64 a, .int .i64 b, .int .i64 p, .slice (some ⟨gr, 0, none⟩) n cr] (0, 0) _ rfl (by
        refine blk_put (cs := #[.int .i64 a, .int .i64 b, .int .i64 p, .slice none 0 0]) ?_ 3 _ rfl
        refine blk_put (cs := #[.int .i64 a, .int .i64 b, .int .i64 0, .slice none 0 0]) ?_ 2 _ rfl
        refine blk_put (cs := #[.int .i64 a, .int .i64 0, .int .i64 0, .slice none 0 0]) ?_ 1 _ rfl
        refine blk_put (cs := #[.int .i64 0, .int .i64 0, .int .i64 0, .slice none 0 0]) ?_ 0 _ rfl
        exact HB3o
        ) hu rfl (by kernel_rfl)) rfl ?_
      have SB := hb.out.size
      exact ⟨_, rfl, Kd.R_mono (Kd.R_far (Kd.R_far (Kd.R_far (Kd.R_far (by rw [List.take_length] at HD0; rw [← HD0.out]; exact hr) (fun k hk => by subst hk; have := GR.out; simp; omega) _) (fun k hk => by subst hk; have := GR.out; simp; omega) _) (fun k hk => by subst hk; have := GR.out; simp; omega) _) (fun k hk => by subst hk; have := GR.out; simp; omega) _) (fun _ _ => trivial), below_set (below_set (below_set (below_set hb.out (by omega)) (by omega)) (by omega)) (by omega)⟩
theorem impl_patched.calls (a b p : Int) (A1 : Option Addr) (c1 : Nat) (d1 : List Int) (a2 b2 p2 : Int) (A2 : Option Addr) (c2 : Nat) (d2 : List Int) (A3 : Option Addr) (c3 : Nat) (l : List S47) (r1 r2 r3 : Int) (r4 : List Int) (w : World) (hr1 : Kd.C (Kd.int .i64) w A1 d1.length d1) (hc1 : d1.length ≤ c1) (hr2 : Kd.C (Kd.int .i64) w A2 d2.length d2) (hc2 : d2.length ≤ c2) (hr3 : Kd.C k47 w A3 l.length l) (hc3 : l.length ≤ c3) (h : impl_patched.f a b p d1 a2 b2 p2 d2 l = some (r1, r2, r3, r4)) :
    Calls Try.prog 125 #[.agg #[.int .i64 a, .int .i64 b, .int .i64 p, .slice A1 d1.length c1], .agg #[.int .i64 a2, .int .i64 b2, .int .i64 p2, .slice A2 d2.length c2], .slice A3 l.length c3] w fun e w' => ∃ v3_ : Value, e = .returned (.agg #[.int .i64 r1, .int .i64 r2, .int .i64 r3, v3_]) ∧ Kd.R (Kd.int .i64) 3 w' w.heap.size (fun _ => True) v3_ r4 ∧ Below w.heap.size w w' := by
  unfold impl_patched.f at h
  by_cases hc : validI a b p d1 = true ∧ validI a b p d2 = true ∧ a2 = a ∧ b2 = b ∧ p2 = p ∧ l.all (onB a b) = true
  · rw [if_pos hc] at h
    obtain ⟨hv1, hv2, rfl, rfl, rfl, hl⟩ := hc
    obtain ⟨rfl, rfl, rfl, rfl⟩ : a2 = r1 ∧ b2 = r2 ∧ p2 = r3 ∧ patchD a2 p2 d2 l d1 = r4 := by simpa using h
    exact patched_go a2 b2 p2 A1 A2 A3 c1 c2 c3 d1 d2 l hv1 hv2 (List.all_eq_true.1 hl) hc1 hc2 w hr1 hr2 hr3
  · rw [if_neg hc] at h; cases h
end Go.Proofs.Ytnofkbbcbpjhfaa.Q
