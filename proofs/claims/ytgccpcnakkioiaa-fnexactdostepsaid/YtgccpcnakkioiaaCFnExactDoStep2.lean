/- A part of the proof that the statement FnExactDoStepSaid holds, under no condition of its own: The program's DoStep and the reference's return the same, and what is returned is held by nobody else: over lists of numbers alone. -/
import Derived.Test.YtgccpcnakkioiaaCFnExactDoStep1
namespace Go.Proofs.Ytgccpcnakkioiaa.Q
open Go.RowKit Go.Proofs.YtgccpcnakkioiaaW.PrintWords Go.Proofs.YtgccpcnakkioiaaW.PrintLast Go.Proofs.YtgccpcnakkioiaaW.PrintMore
attribute [local go_sem] max2_int min2_int max_two min_two max_three min_three max_four min_four
set_option linter.unusedVariables false
set_option linter.unusedSimpArgs false
def spec_validBox.f (a0_0 : Int) (a0_1 : Int) (a0_2 : Int) (l0_3 : List Int) (a1_0 : Int) (a1_1 : Int) (a1_2 : Int) (a1_3 : Int) : Option Bool := (spec_inRange.f a1_0 0 (wrap64 (a0_0 - 1))).bind fun t77003 => (if t77003 = true then ((spec_inRange.f a1_1 0 (wrap64 (a0_1 - 1))).bind fun t77004 => (if t77004 = true then ((spec_inRange.f a1_2 1 (wrap64 (a0_0 - a1_0))).bind fun t77005 => (if t77005 = true then ((spec_inRange.f a1_3 1 (wrap64 (a0_1 - a1_1))).bind fun t77006 => (some t77006)) else (some false))) else (some false))) else (some false))
set_option maxHeartbeats 8000000 in
set_option maxRecDepth 100000 in
theorem spec_validBox.calls (a0_0 : Int) (a0_1 : Int) (a0_2 : Int) (A0_3 : Option Addr) (c0_3 : Nat) (l0_3 : List Int) (a1_0 : Int) (a1_1 : Int) (a1_2 : Int) (a1_3 : Int) (r : Bool) (w : World) (hr0_3 : Kd.C (Kd.int .i64) w A0_3 l0_3.length l0_3) (hc0_3 : l0_3.length ≤ c0_3) (h : spec_validBox.f a0_0 a0_1 a0_2 l0_3 a1_0 a1_1 a1_2 a1_3 = some r) :
    Calls Try.prog 76 #[.agg #[.int .i64 a0_0, .int .i64 a0_1, .int .i64 a0_2, .slice A0_3 l0_3.length c0_3], .agg #[.int .i64 a1_0, .int .i64 a1_1, .int .i64 a1_2, .int .i64 a1_3]] w fun e w' => e = .returned (.bool r) ∧ Below w.heap.size w w' := by
  have hu28 := Try.underlying28
  have hu41 := Try.underlying41
  have HR0_3 := Aside0.mk hr0_3
  have HC0_3 := Aside0.mk hc0_3
  clear hr0_3 hc0_3
  have HB := Aside0.mk (Below.refl w.heap.size w)
  have H : ((spec_inRange.f a1_0 0 (wrap64 (a0_0 - 1))).bind fun t77003 => (if t77003 = true then ((spec_inRange.f a1_1 0 (wrap64 (a0_1 - 1))).bind fun t77004 => (if t77004 = true then ((spec_inRange.f a1_2 1 (wrap64 (a0_0 - a1_0))).bind fun t77005 => (if t77005 = true then ((spec_inRange.f a1_3 1 (wrap64 (a0_1 - a1_1))).bind fun t77006 => (some t77006)) else (some false))) else (some false))) else (some false))) = some r := h
  clear h
  replace H := Option.bind_eq_some_iff.mp H
  obtain ⟨t77003, A30, H⟩ := H
  replace H : (if t77003 = true then ((spec_inRange.f a1_1 0 (wrap64 (a0_1 - 1))).bind fun t77004 => (if t77004 = true then ((spec_inRange.f a1_2 1 (wrap64 (a0_0 - a1_0))).bind fun t77005 => (if t77005 = true then ((spec_inRange.f a1_3 1 (wrap64 (a0_1 - a1_1))).bind fun t77006 => (some t77006)) else (some false))) else (some false))) else (some false)) = some r := H
  have A3 := Aside0.mk A30
  clear A30
  by_cases c4 : t77003 = true
  · subst c4
    have H1 : ((spec_inRange.f a1_1 0 (wrap64 (a0_1 - 1))).bind fun t77004 => (if t77004 = true then ((spec_inRange.f a1_2 1 (wrap64 (a0_0 - a1_0))).bind fun t77005 => (if t77005 = true then ((spec_inRange.f a1_3 1 (wrap64 (a0_1 - a1_1))).bind fun t77006 => (some t77006)) else (some false))) else (some false))) = some r := by rw [if_pos rfl] at H; exact H
    clear H
    have H := H1
    clear H1
    replace H := Option.bind_eq_some_iff.mp H
    obtain ⟨t77004, A50, H⟩ := H
    replace H : (if t77004 = true then ((spec_inRange.f a1_2 1 (wrap64 (a0_0 - a1_0))).bind fun t77005 => (if t77005 = true then ((spec_inRange.f a1_3 1 (wrap64 (a0_1 - a1_1))).bind fun t77006 => (some t77006)) else (some false))) else (some false)) = some r := H
    have A5 := Aside0.mk A50
    clear A50
    by_cases c6 : t77004 = true
    · subst c6
      have H1 : ((spec_inRange.f a1_2 1 (wrap64 (a0_0 - a1_0))).bind fun t77005 => (if t77005 = true then ((spec_inRange.f a1_3 1 (wrap64 (a0_1 - a1_1))).bind fun t77006 => (some t77006)) else (some false))) = some r := by rw [if_pos rfl] at H; exact H
      clear H
      have H := H1
      clear H1
      replace H := Option.bind_eq_some_iff.mp H
      obtain ⟨t77005, A70, H⟩ := H
      replace H : (if t77005 = true then ((spec_inRange.f a1_3 1 (wrap64 (a0_1 - a1_1))).bind fun t77006 => (some t77006)) else (some false)) = some r := H
      have A7 := Aside0.mk A70
      clear A70
      by_cases c8 : t77005 = true
      · subst c8
        have H1 : ((spec_inRange.f a1_3 1 (wrap64 (a0_1 - a1_1))).bind fun t77006 => (some t77006)) = some r := by rw [if_pos rfl] at H; exact H
        clear H
        have H := H1
        clear H1
        replace H := Option.bind_eq_some_iff.mp H
        obtain ⟨t77006, A90, H⟩ := H
        replace H : (some t77006) = some r := H
        have A9 := Aside0.mk A90
        clear A90
        obtain rfl := Option.some.inj H
        go_enter Try.func76, Try.ntmps76
        go_wp2_with (first | ((with_reducible refine gate_dst (N := 2) rfl ?_); refine box_event ?hg (N := 2) ?hd (cs := #[.int .i64 a0_0, .int .i64 a0_1, .int .i64 a0_2, .slice A0_3 l0_3.length c0_3]) (t := 28) ?hr ?_; (case hd => rfl); (case hg => rfl); (case hr => (go_simp; done)); intro gb77001 hg w10 hbox hb; have n0_ := Aside0.mk (below_step HB.out hb); have n1_ := Aside0.mk (hbox); have n2_ := Aside0.mk ((by rw [hg]; exact (below_size HB.out) : w.heap.size ≤ gb77001)); have n3_ := Aside0.mk ((by rw [hg]; exact (below_size HB.out) : w.heap.size ≤ gb77001)); clear HB; have HB := n0_; have BK77001 := n1_; have GW77001 := n2_; have GE77001 := n3_; clear n0_ n1_ n2_ n3_; clear hb hbox hg) | ((with_reducible refine gate_dst (N := 3) rfl ?_); refine box_event ?hg (N := 3) ?hd (cs := #[.int .i64 a1_0, .int .i64 a1_1, .int .i64 a1_2, .int .i64 a1_3]) (t := 41) ?hr ?_; (case hd => rfl); (case hg => rfl); (case hr => (go_simp; done)); intro gb77002 hg w11 hbox hb; have n0_ := Aside0.mk (blk_below BK77001.out hb); have n1_ := Aside0.mk (below_step HB.out hb); have n2_ := Aside0.mk (hbox); have n3_ := Aside0.mk ((by rw [hg]; exact (below_size HB.out) : w.heap.size ≤ gb77002)); have n4_ := Aside0.mk ((by rw [hg]; exact (below_size HB.out) : w.heap.size ≤ gb77002)); have n5_ := Aside0.mk ((by rw [hg]; exact Nat.ne_of_lt (blk_lt BK77001.out) : gb77001 ≠ gb77002)); have n6_ := Aside0.mk ((by rw [hg]; exact Nat.ne_of_gt (blk_lt BK77001.out) : gb77002 ≠ gb77001)); clear BK77001; clear HB; have BK77001 := n0_; have HB := n1_; have BK77002 := n2_; have GW77002 := n3_; have GE77002 := n4_; have NB77001_77002 := n5_; have NB77002_77001 := n6_; clear n0_ n1_ n2_ n3_ n4_ n5_ n6_; clear hb hbox hg; have hnb12 := NB77002_77001.out; have hnc12 := NB77001_77002.out; have hcz13_0 : w11.cell? ⟨gb77002, 0, none⟩ = some (.int .i64 a1_0) := (blk_cell BK77002.out 0).trans rfl; have hcz13_1 : w11.cell? ⟨gb77002, 1, none⟩ = some (.int .i64 a1_1) := (blk_cell BK77002.out 1).trans rfl; have hcz13_2 : w11.cell? ⟨gb77002, 2, none⟩ = some (.int .i64 a1_2) := (blk_cell BK77002.out 2).trans rfl; have hcz13_3 : w11.cell? ⟨gb77002, 3, none⟩ = some (.int .i64 a1_3) := (blk_cell BK77002.out 3).trans rfl; have hfz13_0 := blk_frozen BK77002.out 0; have hfz13_1 := blk_frozen BK77002.out 1; have hfz13_2 := blk_frozen BK77002.out 2; have hfz13_3 := blk_frozen BK77002.out 3; have hcz14_0 : w11.cell? ⟨gb77001, 0, none⟩ = some (.int .i64 a0_0) := (blk_cell BK77001.out 0).trans rfl; have hcz14_1 : w11.cell? ⟨gb77001, 1, none⟩ = some (.int .i64 a0_1) := (blk_cell BK77001.out 1).trans rfl; have hcz14_2 : w11.cell? ⟨gb77001, 2, none⟩ = some (.int .i64 a0_2) := (blk_cell BK77001.out 2).trans rfl; have hcz14_3 : w11.cell? ⟨gb77001, 3, none⟩ = some (.slice A0_3 l0_3.length c0_3) := (blk_cell BK77001.out 3).trans rfl; have hfz14_0 := blk_frozen BK77001.out 0; have hfz14_1 := blk_frozen BK77001.out 1; have hfz14_2 := blk_frozen BK77001.out 2; have hfz14_3 := blk_frozen BK77001.out 3) | ((with_reducible refine gate_callee (f := 93) rfl ?_); refine goesL_ (some 10) rfl rfl Try.func93 (by kernel_rfl) rfl #[.int .i64 a1_0, .int .i64 0, .int .i64 (wrap64 (a0_0 - 1))] rfl (by (try simp only [List.map_toArray, List.map_cons, List.map_nil]); rfl) ?_; (with_reducible refine (spec_inRange.calls a1_0 0 (wrap64 (a0_0 - 1)) true _ A3.out).mono ?_); rintro e w' ⟨rfl, ⟨nd, rfl⟩⟩; refine ⟨_, rfl, ?_⟩) | (go_at_call 93; (with_reducible refine (spec_inRange.calls a1_1 0 (wrap64 (a0_1 - 1)) true _ A5.out).mono ?_); rintro e w' ⟨rfl, ⟨nd, rfl⟩⟩) | (go_at_call 93; (with_reducible refine (spec_inRange.calls a1_2 1 (wrap64 (a0_0 - a1_0)) true _ A7.out).mono ?_); rintro e w' ⟨rfl, ⟨nd, rfl⟩⟩) | (go_at_call 93; (with_reducible refine (spec_inRange.calls a1_3 1 (wrap64 (a0_1 - a1_1)) t77006 _ A9.out).mono ?_); rintro e w' ⟨rfl, ⟨nd, rfl⟩⟩))
        go_ret
        exact ⟨by rfl, by repeat (with_reducible first | exact HB.out | apply pw_below_drewN)⟩
      · replace c8 := Bool.eq_false_iff.mpr c8
        subst c8
        have H1 : (some false) = some r := by rw [if_neg (show ¬ (false = true) by decide)] at H; exact H
        clear H
        have H := H1
        clear H1
        obtain rfl := Option.some.inj H
        go_enter Try.func76, Try.ntmps76
        go_wp2_with (first | ((with_reducible refine gate_dst (N := 2) rfl ?_); refine box_event ?hg (N := 2) ?hd (cs := #[.int .i64 a0_0, .int .i64 a0_1, .int .i64 a0_2, .slice A0_3 l0_3.length c0_3]) (t := 28) ?hr ?_; (case hd => rfl); (case hg => rfl); (case hr => (go_simp; done)); intro gb77001 hg w15 hbox hb; have n0_ := Aside0.mk (below_step HB.out hb); have n1_ := Aside0.mk (hbox); have n2_ := Aside0.mk ((by rw [hg]; exact (below_size HB.out) : w.heap.size ≤ gb77001)); have n3_ := Aside0.mk ((by rw [hg]; exact (below_size HB.out) : w.heap.size ≤ gb77001)); clear HB; have HB := n0_; have BK77001 := n1_; have GW77001 := n2_; have GE77001 := n3_; clear n0_ n1_ n2_ n3_; clear hb hbox hg) | ((with_reducible refine gate_dst (N := 3) rfl ?_); refine box_event ?hg (N := 3) ?hd (cs := #[.int .i64 a1_0, .int .i64 a1_1, .int .i64 a1_2, .int .i64 a1_3]) (t := 41) ?hr ?_; (case hd => rfl); (case hg => rfl); (case hr => (go_simp; done)); intro gb77002 hg w16 hbox hb; have n0_ := Aside0.mk (blk_below BK77001.out hb); have n1_ := Aside0.mk (below_step HB.out hb); have n2_ := Aside0.mk (hbox); have n3_ := Aside0.mk ((by rw [hg]; exact (below_size HB.out) : w.heap.size ≤ gb77002)); have n4_ := Aside0.mk ((by rw [hg]; exact (below_size HB.out) : w.heap.size ≤ gb77002)); have n5_ := Aside0.mk ((by rw [hg]; exact Nat.ne_of_lt (blk_lt BK77001.out) : gb77001 ≠ gb77002)); have n6_ := Aside0.mk ((by rw [hg]; exact Nat.ne_of_gt (blk_lt BK77001.out) : gb77002 ≠ gb77001)); clear BK77001; clear HB; have BK77001 := n0_; have HB := n1_; have BK77002 := n2_; have GW77002 := n3_; have GE77002 := n4_; have NB77001_77002 := n5_; have NB77002_77001 := n6_; clear n0_ n1_ n2_ n3_ n4_ n5_ n6_; clear hb hbox hg; have hnb17 := NB77002_77001.out; have hnc17 := NB77001_77002.out; have hcz18_0 : w16.cell? ⟨gb77002, 0, none⟩ = some (.int .i64 a1_0) := (blk_cell BK77002.out 0).trans rfl; have hcz18_1 : w16.cell? ⟨gb77002, 1, none⟩ = some (.int .i64 a1_1) := (blk_cell BK77002.out 1).trans rfl; have hcz18_2 : w16.cell? ⟨gb77002, 2, none⟩ = some (.int .i64 a1_2) := (blk_cell BK77002.out 2).trans rfl; have hcz18_3 : w16.cell? ⟨gb77002, 3, none⟩ = some (.int .i64 a1_3) := (blk_cell BK77002.out 3).trans rfl; have hfz18_0 := blk_frozen BK77002.out 0; have hfz18_1 := blk_frozen BK77002.out 1; have hfz18_2 := blk_frozen BK77002.out 2; have hfz18_3 := blk_frozen BK77002.out 3; have hcz19_0 : w16.cell? ⟨gb77001, 0, none⟩ = some (.int .i64 a0_0) := (blk_cell BK77001.out 0).trans rfl; have hcz19_1 : w16.cell? ⟨gb77001, 1, none⟩ = some (.int .i64 a0_1) := (blk_cell BK77001.out 1).trans rfl; have hcz19_2 : w16.cell? ⟨gb77001, 2, none⟩ = some (.int .i64 a0_2) := (blk_cell BK77001.out 2).trans rfl; have hcz19_3 : w16.cell? ⟨gb77001, 3, none⟩ = some (.slice A0_3 l0_3.length c0_3) := (blk_cell BK77001.out 3).trans rfl; have hfz19_0 := blk_frozen BK77001.out 0; have hfz19_1 := blk_frozen BK77001.out 1; have hfz19_2 := blk_frozen BK77001.out 2; have hfz19_3 := blk_frozen BK77001.out 3) | ((with_reducible refine gate_callee (f := 93) rfl ?_); refine goesL_ (some 10) rfl rfl Try.func93 (by kernel_rfl) rfl #[.int .i64 a1_0, .int .i64 0, .int .i64 (wrap64 (a0_0 - 1))] rfl (by (try simp only [List.map_toArray, List.map_cons, List.map_nil]); rfl) ?_; (with_reducible refine (spec_inRange.calls a1_0 0 (wrap64 (a0_0 - 1)) true _ A3.out).mono ?_); rintro e w' ⟨rfl, ⟨nd, rfl⟩⟩; refine ⟨_, rfl, ?_⟩) | (go_at_call 93; (with_reducible refine (spec_inRange.calls a1_1 0 (wrap64 (a0_1 - 1)) true _ A5.out).mono ?_); rintro e w' ⟨rfl, ⟨nd, rfl⟩⟩) | (go_at_call 93; (with_reducible refine (spec_inRange.calls a1_2 1 (wrap64 (a0_0 - a1_0)) false _ A7.out).mono ?_); rintro e w' ⟨rfl, ⟨nd, rfl⟩⟩))
        go_ret
        exact ⟨by rfl, by repeat (with_reducible first | exact HB.out | apply pw_below_drewN)⟩
    · replace c6 := Bool.eq_false_iff.mpr c6
      subst c6
      have H1 : (some false) = some r := by rw [if_neg (show ¬ (false = true) by decide)] at H; exact H
      clear H
      have H := H1
      clear H1
      obtain rfl := Option.some.inj H
      go_enter Try.func76, Try.ntmps76
      go_wp2_with (first | ((with_reducible refine gate_dst (N := 2) rfl ?_); refine box_event ?hg (N := 2) ?hd (cs := #[.int .i64 a0_0, .int .i64 a0_1, .int .i64 a0_2, .slice A0_3 l0_3.length c0_3]) (t := 28) ?hr ?_; (case hd => rfl); (case hg => rfl); (case hr => (go_simp; done)); intro gb77001 hg w20 hbox hb; have n0_ := Aside0.mk (below_step HB.out hb); have n1_ := Aside0.mk (hbox); have n2_ := Aside0.mk ((by rw [hg]; exact (below_size HB.out) : w.heap.size ≤ gb77001)); have n3_ := Aside0.mk ((by rw [hg]; exact (below_size HB.out) : w.heap.size ≤ gb77001)); clear HB; have HB := n0_; have BK77001 := n1_; have GW77001 := n2_; have GE77001 := n3_; clear n0_ n1_ n2_ n3_; clear hb hbox hg) | ((with_reducible refine gate_dst (N := 3) rfl ?_); refine box_event ?hg (N := 3) ?hd (cs := #[.int .i64 a1_0, .int .i64 a1_1, .int .i64 a1_2, .int .i64 a1_3]) (t := 41) ?hr ?_; (case hd => rfl); (case hg => rfl); (case hr => (go_simp; done)); intro gb77002 hg w21 hbox hb; have n0_ := Aside0.mk (blk_below BK77001.out hb); have n1_ := Aside0.mk (below_step HB.out hb); have n2_ := Aside0.mk (hbox); have n3_ := Aside0.mk ((by rw [hg]; exact (below_size HB.out) : w.heap.size ≤ gb77002)); have n4_ := Aside0.mk ((by rw [hg]; exact (below_size HB.out) : w.heap.size ≤ gb77002)); have n5_ := Aside0.mk ((by rw [hg]; exact Nat.ne_of_lt (blk_lt BK77001.out) : gb77001 ≠ gb77002)); have n6_ := Aside0.mk ((by rw [hg]; exact Nat.ne_of_gt (blk_lt BK77001.out) : gb77002 ≠ gb77001)); clear BK77001; clear HB; have BK77001 := n0_; have HB := n1_; have BK77002 := n2_; have GW77002 := n3_; have GE77002 := n4_; have NB77001_77002 := n5_; have NB77002_77001 := n6_; clear n0_ n1_ n2_ n3_ n4_ n5_ n6_; clear hb hbox hg; have hnb22 := NB77002_77001.out; have hnc22 := NB77001_77002.out; have hcz23_0 : w21.cell? ⟨gb77002, 0, none⟩ = some (.int .i64 a1_0) := (blk_cell BK77002.out 0).trans rfl; have hcz23_1 : w21.cell? ⟨gb77002, 1, none⟩ = some (.int .i64 a1_1) := (blk_cell BK77002.out 1).trans rfl; have hcz23_2 : w21.cell? ⟨gb77002, 2, none⟩ = some (.int .i64 a1_2) := (blk_cell BK77002.out 2).trans rfl; have hcz23_3 : w21.cell? ⟨gb77002, 3, none⟩ = some (.int .i64 a1_3) := (blk_cell BK77002.out 3).trans rfl; have hfz23_0 := blk_frozen BK77002.out 0; have hfz23_1 := blk_frozen BK77002.out 1; have hfz23_2 := blk_frozen BK77002.out 2; have hfz23_3 := blk_frozen BK77002.out 3; have hcz24_0 : w21.cell? ⟨gb77001, 0, none⟩ = some (.int .i64 a0_0) := (blk_cell BK77001.out 0).trans rfl; have hcz24_1 : w21.cell? ⟨gb77001, 1, none⟩ = some (.int .i64 a0_1) := (blk_cell BK77001.out 1).trans rfl; have hcz24_2 : w21.cell? ⟨gb77001, 2, none⟩ = some (.int .i64 a0_2) := (blk_cell BK77001.out 2).trans rfl; have hcz24_3 : w21.cell? ⟨gb77001, 3, none⟩ = some (.slice A0_3 l0_3.length c0_3) := (blk_cell BK77001.out 3).trans rfl; have hfz24_0 := blk_frozen BK77001.out 0; have hfz24_1 := blk_frozen BK77001.out 1; have hfz24_2 := blk_frozen BK77001.out 2; have hfz24_3 := blk_frozen BK77001.out 3) | ((with_reducible refine gate_callee (f := 93) rfl ?_); refine goesL_ (some 10) rfl rfl Try.func93 (by kernel_rfl) rfl #[.int .i64 a1_0, .int .i64 0, .int .i64 (wrap64 (a0_0 - 1))] rfl (by (try simp only [List.map_toArray, List.map_cons, List.map_nil]); rfl) ?_; (with_reducible refine (spec_inRange.calls a1_0 0 (wrap64 (a0_0 - 1)) true _ A3.out).mono ?_); rintro e w' ⟨rfl, ⟨nd, rfl⟩⟩; refine ⟨_, rfl, ?_⟩) | (go_at_call 93; (with_reducible refine (spec_inRange.calls a1_1 0 (wrap64 (a0_1 - 1)) false _ A5.out).mono ?_); rintro e w' ⟨rfl, ⟨nd, rfl⟩⟩))
      go_ret
      exact ⟨by rfl, by repeat (with_reducible first | exact HB.out | apply pw_below_drewN)⟩
  · replace c4 := Bool.eq_false_iff.mpr c4
    subst c4
    have H1 : (some false) = some r := by rw [if_neg (show ¬ (false = true) by decide)] at H; exact H
    clear H
    have H := H1
    clear H1
    obtain rfl := Option.some.inj H
    go_enter Try.func76, Try.ntmps76
    go_wp2_with (first | ((with_reducible refine gate_dst (N := 2) rfl ?_); refine box_event ?hg (N := 2) ?hd (cs := #[.int .i64 a0_0, .int .i64 a0_1, .int .i64 a0_2, .slice A0_3 l0_3.length c0_3]) (t := 28) ?hr ?_; (case hd => rfl); (case hg => rfl); (case hr => (go_simp; done)); intro gb77001 hg w25 hbox hb; have n0_ := Aside0.mk (below_step HB.out hb); have n1_ := Aside0.mk (hbox); have n2_ := Aside0.mk ((by rw [hg]; exact (below_size HB.out) : w.heap.size ≤ gb77001)); have n3_ := Aside0.mk ((by rw [hg]; exact (below_size HB.out) : w.heap.size ≤ gb77001)); clear HB; have HB := n0_; have BK77001 := n1_; have GW77001 := n2_; have GE77001 := n3_; clear n0_ n1_ n2_ n3_; clear hb hbox hg) | ((with_reducible refine gate_dst (N := 3) rfl ?_); refine box_event ?hg (N := 3) ?hd (cs := #[.int .i64 a1_0, .int .i64 a1_1, .int .i64 a1_2, .int .i64 a1_3]) (t := 41) ?hr ?_; (case hd => rfl); (case hg => rfl); (case hr => (go_simp; done)); intro gb77002 hg w26 hbox hb; have n0_ := Aside0.mk (blk_below BK77001.out hb); have n1_ := Aside0.mk (below_step HB.out hb); have n2_ := Aside0.mk (hbox); have n3_ := Aside0.mk ((by rw [hg]; exact (below_size HB.out) : w.heap.size ≤ gb77002)); have n4_ := Aside0.mk ((by rw [hg]; exact (below_size HB.out) : w.heap.size ≤ gb77002)); have n5_ := Aside0.mk ((by rw [hg]; exact Nat.ne_of_lt (blk_lt BK77001.out) : gb77001 ≠ gb77002)); have n6_ := Aside0.mk ((by rw [hg]; exact Nat.ne_of_gt (blk_lt BK77001.out) : gb77002 ≠ gb77001)); clear BK77001; clear HB; have BK77001 := n0_; have HB := n1_; have BK77002 := n2_; have GW77002 := n3_; have GE77002 := n4_; have NB77001_77002 := n5_; have NB77002_77001 := n6_; clear n0_ n1_ n2_ n3_ n4_ n5_ n6_; clear hb hbox hg; have hnb27 := NB77002_77001.out; have hnc27 := NB77001_77002.out; have hcz28_0 : w26.cell? ⟨gb77002, 0, none⟩ = some (.int .i64 a1_0) := (blk_cell BK77002.out 0).trans rfl; have hcz28_1 : w26.cell? ⟨gb77002, 1, none⟩ = some (.int .i64 a1_1) := (blk_cell BK77002.out 1).trans rfl; have hcz28_2 : w26.cell? ⟨gb77002, 2, none⟩ = some (.int .i64 a1_2) := (blk_cell BK77002.out 2).trans rfl; have hcz28_3 : w26.cell? ⟨gb77002, 3, none⟩ = some (.int .i64 a1_3) := (blk_cell BK77002.out 3).trans rfl; have hfz28_0 := blk_frozen BK77002.out 0; have hfz28_1 := blk_frozen BK77002.out 1; have hfz28_2 := blk_frozen BK77002.out 2; have hfz28_3 := blk_frozen BK77002.out 3; have hcz29_0 : w26.cell? ⟨gb77001, 0, none⟩ = some (.int .i64 a0_0) := (blk_cell BK77001.out 0).trans rfl; have hcz29_1 : w26.cell? ⟨gb77001, 1, none⟩ = some (.int .i64 a0_1) := (blk_cell BK77001.out 1).trans rfl; have hcz29_2 : w26.cell? ⟨gb77001, 2, none⟩ = some (.int .i64 a0_2) := (blk_cell BK77001.out 2).trans rfl; have hcz29_3 : w26.cell? ⟨gb77001, 3, none⟩ = some (.slice A0_3 l0_3.length c0_3) := (blk_cell BK77001.out 3).trans rfl; have hfz29_0 := blk_frozen BK77001.out 0; have hfz29_1 := blk_frozen BK77001.out 1; have hfz29_2 := blk_frozen BK77001.out 2; have hfz29_3 := blk_frozen BK77001.out 3) | ((with_reducible refine gate_callee (f := 93) rfl ?_); refine goesL_ (some 10) rfl rfl Try.func93 (by kernel_rfl) rfl #[.int .i64 a1_0, .int .i64 0, .int .i64 (wrap64 (a0_0 - 1))] rfl (by (try simp only [List.map_toArray, List.map_cons, List.map_nil]); rfl) ?_; (with_reducible refine (spec_inRange.calls a1_0 0 (wrap64 (a0_0 - 1)) false _ A3.out).mono ?_); rintro e w' ⟨rfl, ⟨nd, rfl⟩⟩; refine ⟨_, rfl, ?_⟩))
    go_ret
    exact ⟨by rfl, by repeat (with_reducible first | exact HB.out | apply pw_below_drewN)⟩


mutual
def spec_crop.l0 : Nat → Int → Int → Int → Int → Int → Int → Int → Int → List Int → Int → Int → Int → List Int → Option (Int × Int × Int × List Int)
  | 0, _, _, _, _, _, _, _, _, _, _, _, _, _ => none
  | k + 1, x1, x2, x3, x4, x12, x98002000, x98002001, x98002002, x98002003, x98010000, x98010001, x98010002, x98010003 => if x12 < x4 then (spec_crop.l1 k x1 x2 x3 x4 x12 0 x98002000 x98002001 x98002002 x98002003 x98010000 x98010001 x98010002 x98010003) else (some (x98010000, x98010001, x98010002, x98010003))
def spec_crop.l1 : Nat → Int → Int → Int → Int → Int → Int → Int → Int → Int → List Int → Int → Int → Int → List Int → Option (Int × Int × Int × List Int)
  | 0, _, _, _, _, _, _, _, _, _, _, _, _, _, _ => none
  | k + 1, x1, x2, x3, x4, x12, x13, x98002000, x98002001, x98002002, x98002003, x98010000, x98010001, x98010002, x98010003 => if x13 < x3 then ((spec_pixelAt.f x98002000 x98002001 x98002002 x98002003 (wrap64 (x1 + x13)) (wrap64 (x2 + x12))).bind fun t98010 => ((spec_setPixel.f k x98010000 x98010001 x98010002 x98010003 x13 x12 t98010).bind fun t98013 => (spec_crop.l1 k x1 x2 x3 x4 x12 (wrap64 (x13 + 1)) x98002000 x98002001 x98002002 x98002003 x98010000 x98010001 x98010002 t98013))) else (spec_crop.l0 k x1 x2 x3 x4 (wrap64 (x12 + 1)) x98002000 x98002001 x98002002 x98002003 x98010000 x98010001 x98010002 x98010003)
end
def spec_crop.f (k : Nat) (a0_0 : Int) (a0_1 : Int) (a0_2 : Int) (l0_3 : List Int) (a1 : Int) (a2 : Int) (a3 : Int) (a4 : Int) : Option (Int × Int × Int × List Int) := (spec_newImage.f a3 a4 a0_2).bind fun bt98003 => (spec_crop.l0 k a1 a2 a3 a4 0 a0_0 a0_1 a0_2 l0_3 bt98003.1 bt98003.2.1 bt98003.2.2.1 bt98003.2.2.2)
theorem spec_crop.mono_l : ∀ k, (∀ y0 y1 y2 y3 y4 y5 y6 y7 y8 y9 y10 y11 y12, LeO (spec_crop.l0 k y0 y1 y2 y3 y4 y5 y6 y7 y8 y9 y10 y11 y12) (spec_crop.l0 (k + 1) y0 y1 y2 y3 y4 y5 y6 y7 y8 y9 y10 y11 y12)) ∧ (∀ y0 y1 y2 y3 y4 y5 y6 y7 y8 y9 y10 y11 y12 y13, LeO (spec_crop.l1 k y0 y1 y2 y3 y4 y5 y6 y7 y8 y9 y10 y11 y12 y13) (spec_crop.l1 (k + 1) y0 y1 y2 y3 y4 y5 y6 y7 y8 y9 y10 y11 y12 y13))
  | 0 => ⟨fun _ _ _ _ _ _ _ _ _ _ _ _ _ r h => by simp [spec_crop.l0] at h, fun _ _ _ _ _ _ _ _ _ _ _ _ _ _ r h => by simp [spec_crop.l1] at h⟩
  | k + 1 => by
    obtain ⟨ih0, ih1⟩ := spec_crop.mono_l k
    refine ⟨?_, ?_⟩
    · intro y0 y1 y2 y3 y4 y5 y6 y7 y8 y9 y10 y11 y12
      unfold spec_crop.l0
      repeat' first | (with_reducible exact ih1 _ _ _ _ _ _ _ _ _ _ _ _ _ _) | (with_reducible exact LeO.refl _) | (with_reducible refine LeO.ite ?_ ?_)
    · intro y0 y1 y2 y3 y4 y5 y6 y7 y8 y9 y10 y11 y12 y13
      unfold spec_crop.l1
      repeat' first | (with_reducible exact ih0 _ _ _ _ _ _ _ _ _ _ _ _ _) | (with_reducible exact ih1 _ _ _ _ _ _ _ _ _ _ _ _ _ _) | (with_reducible exact spec_setPixel.mono _ _ _ _ _ _ _ _) | (with_reducible exact LeO.refl _) | (with_reducible refine LeO.ite ?_ ?_) | (with_reducible refine LeO.bind ?_ (fun _ => ?_))
theorem spec_crop.mono : ∀ a0 a1 a2 a3 a4 a5 a6 a7 k, LeO (spec_crop.f k a0 a1 a2 a3 a4 a5 a6 a7) (spec_crop.f (k + 1) a0 a1 a2 a3 a4 a5 a6 a7) := by
  intro a0 a1 a2 a3 a4 a5 a6 a7 k
  obtain ⟨ih0, ih1⟩ := spec_crop.mono_l k
  unfold spec_crop.f
  repeat' first | (with_reducible exact ih0 _ _ _ _ _ _ _ _ _ _ _ _ _) | (with_reducible exact LeO.refl _) | (with_reducible refine LeO.bind ?_ (fun _ => ?_))
def spec_crop.T8 : Bool × List (List Nat × List Nat) := (true, [([], []), ([], []), ([], []), ([], []), ([], []), ([], []), ([4, 5], [4, 5]), ([], []), ([], []), ([7, 8], [7, 8]), ([3, 6, 9], [3, 6, 9]), ([0, 1, 2, 10, 10], [0, 1, 2, 10])])
def spec_crop.B8 : List Nat := [0, 0, 0, 0, 0, 0, 48, 0, 0, 384, 1016, 2047]
theorem spec_crop.tab8 : rtab .any (opsOf Try.f97 8) = spec_crop.T8 := by kernel_rfl
theorem spec_crop.bits8 : waitsOk spec_crop.T8.2 spec_crop.B8 = true := by kernel_rfl
set_option maxHeartbeats 8000000 in
set_option maxRecDepth 100000 in
theorem spec_crop.calls (k : Nat) (a0_0 : Int) (a0_1 : Int) (a0_2 : Int) (A0_3 : Option Addr) (c0_3 : Nat) (l0_3 : List Int) (a1 : Int) (a2 : Int) (a3 : Int) (a4 : Int) (r1 : Int) (r2 : Int) (r3 : Int) (r4 : List Int) (w : World) (hr0_3 : Kd.C (Kd.int .i64) w A0_3 l0_3.length l0_3) (hc0_3 : l0_3.length ≤ c0_3) (h : spec_crop.f k a0_0 a0_1 a0_2 l0_3 a1 a2 a3 a4 = some (r1, r2, r3, r4)) :
    Calls Try.prog 97 #[.agg #[.int .i64 a0_0, .int .i64 a0_1, .int .i64 a0_2, .slice A0_3 l0_3.length c0_3], .int .i64 a1, .int .i64 a2, .int .i64 a3, .int .i64 a4] w fun e w' => ∃ v3_ : Value, e = .returned (.agg #[.int .i64 r1, .int .i64 r2, .int .i64 r3, v3_]) ∧ Kd.R (Kd.int .i64) 3 w' w.heap.size (fun _ => True) v3_ r4 ∧ Below w.heap.size w w' := by
  have hu28 := Try.underlying28
  have HR0_3 := Aside0.mk hr0_3
  have HC0_3 := Aside0.mk hc0_3
  clear hr0_3 hc0_3
  have HB := Aside0.mk (Below.refl w.heap.size w)
  have H : ((spec_newImage.f a3 a4 a0_2).bind fun bt98003 => (spec_crop.l0 k a1 a2 a3 a4 0 a0_0 a0_1 a0_2 l0_3 bt98003.1 bt98003.2.1 bt98003.2.2.1 bt98003.2.2.2)) = some (r1, r2, r3, r4) := h
  clear h
  replace H := Option.bind_eq_some_iff.mp H
  obtain ⟨⟨t98003, t98004, t98005, t98006⟩, A60, H⟩ := H
  replace H : (spec_crop.l0 k a1 a2 a3 a4 0 a0_0 a0_1 a0_2 l0_3 t98003 t98004 t98005 t98006) = some (r1, r2, r3, r4) := H
  have A6 := Aside0.mk A60
  clear A60
  have H' := Aside0.mk H
  clear H
  go_enter Try.func97, Try.ntmps97
  go_wp2_with (first | ((with_reducible refine gate_dst (N := 5) rfl ?_); refine box_event ?hg (N := 5) ?hd (cs := #[.int .i64 a0_0, .int .i64 a0_1, .int .i64 a0_2, .slice A0_3 l0_3.length c0_3]) (t := 28) ?hr ?_; (case hd => rfl); (case hg => rfl); (case hr => (go_simp; done)); intro gb98001 hg w7 hbox hb; have n0_ := Aside0.mk (below_step HB.out hb); have n1_ := Aside0.mk (hbox); have n2_ := Aside0.mk ((by rw [hg]; exact (below_size HB.out) : w.heap.size ≤ gb98001)); have n3_ := Aside0.mk ((by rw [hg]; exact (below_size HB.out) : w.heap.size ≤ gb98001)); clear HB; have HB := n0_; have BK98001 := n1_; have GW98001 := n2_; have GE98001 := n3_; clear n0_ n1_ n2_ n3_; clear hb hbox hg) | ((with_reducible refine gate_dst (N := 10) rfl ?_); refine box_event ?hg (N := 10) ?hd (cs := #[.int .i64 0, .int .i64 0, .int .i64 0, .slice none 0 0]) (t := 28) ?hr ?_; (case hd => rfl); (case hg => rfl); (case hr => (go_simp; done)); intro gb98002 hg w8 hbox hb; have n0_ := Aside0.mk (blk_below BK98001.out hb); have n1_ := Aside0.mk (below_step HB.out hb); have n2_ := Aside0.mk (hbox); have n3_ := Aside0.mk ((by rw [hg]; exact (below_size HB.out) : w.heap.size ≤ gb98002)); have n4_ := Aside0.mk ((by rw [hg]; exact (below_size HB.out) : w.heap.size ≤ gb98002)); have n5_ := Aside0.mk ((by rw [hg]; exact Nat.ne_of_lt (blk_lt BK98001.out) : gb98001 ≠ gb98002)); have n6_ := Aside0.mk ((by rw [hg]; exact Nat.ne_of_gt (blk_lt BK98001.out) : gb98002 ≠ gb98001)); clear BK98001; clear HB; have BK98001 := n0_; have HB := n1_; have BK98002 := n2_; have GW98002 := n3_; have GE98002 := n4_; have NB98001_98002 := n5_; have NB98002_98001 := n6_; clear n0_ n1_ n2_ n3_ n4_ n5_ n6_; clear hb hbox hg; have hnb9 := NB98001_98002.out; have hnc9 := NB98002_98001.out; have hcz10_0 : w8.cell? ⟨gb98001, 0, none⟩ = some (.int .i64 a0_0) := (blk_cell BK98001.out 0).trans rfl; have hcz10_1 : w8.cell? ⟨gb98001, 1, none⟩ = some (.int .i64 a0_1) := (blk_cell BK98001.out 1).trans rfl; have hcz10_2 : w8.cell? ⟨gb98001, 2, none⟩ = some (.int .i64 a0_2) := (blk_cell BK98001.out 2).trans rfl; have hcz10_3 : w8.cell? ⟨gb98001, 3, none⟩ = some (.slice A0_3 l0_3.length c0_3) := (blk_cell BK98001.out 3).trans rfl; have hfz10_0 := blk_frozen BK98001.out 0; have hfz10_1 := blk_frozen BK98001.out 1; have hfz10_2 := blk_frozen BK98001.out 2; have hfz10_3 := blk_frozen BK98001.out 3) | ((with_reducible refine gate_callee (f := 96) rfl ?_); refine goesL_ (some 18) rfl rfl Try.func96 (by kernel_rfl) rfl #[.int .i64 a3, .int .i64 a4, .int .i64 a0_2] rfl (by (try simp only [List.map_toArray, List.map_cons, List.map_nil]); rfl) ?_; (with_reducible refine (spec_newImage.calls a3 a4 a0_2 t98003 t98004 t98005 t98006 _ A6.out).mono ?_); rintro e w11 ⟨v98007, rfl, ho0, hb⟩; refine ⟨_, rfl, ?_⟩; have n0_ := Aside0.mk (Kd.R_lower ho0 (below_size HB.out)); have n1_ := Aside0.mk (blk_below BK98001.out hb); have n2_ := Aside0.mk (blk_below BK98002.out hb); have n3_ := Aside0.mk (below_step HB.out hb); clear BK98001; clear BK98002; clear HB; have HO98008 := n0_; have BK98001 := n1_; have BK98002 := n2_; have HB := n3_; clear n0_ n1_ n2_ n3_; (try clear hb); (try clear ho0)) | ((with_reducible refine gate_dst (N := 11) rfl ?_); refine box_event ?hg (N := 11) ?hd (cs := #[.int .i64 0, .int .i64 0, .int .i64 0, .slice none 0 0]) (t := 28) ?hr ?_; (case hd => rfl); (case hg => rfl); (case hr => (go_simp; done)); intro gb98009 hg w12 hbox hb; have n0_ := Aside0.mk (Kd.R_below HO98008.out hb); have n1_ := Aside0.mk (blk_below BK98001.out hb); have n2_ := Aside0.mk (blk_below BK98002.out hb); have n3_ := Aside0.mk (below_step HB.out hb); have n4_ := Aside0.mk (hbox); have n5_ := Aside0.mk ((by rw [hg]; exact (below_size HB.out) : w.heap.size ≤ gb98009)); have n6_ := Aside0.mk ((by rw [hg]; exact (below_size HB.out) : w.heap.size ≤ gb98009)); have n7_ := Aside0.mk ((by rw [hg]; exact Nat.ne_of_lt (blk_lt BK98001.out) : gb98001 ≠ gb98009)); have n8_ := Aside0.mk ((by rw [hg]; exact Nat.ne_of_gt (blk_lt BK98001.out) : gb98009 ≠ gb98001)); have n9_ := Aside0.mk ((by rw [hg]; exact Nat.ne_of_lt (blk_lt BK98002.out) : gb98002 ≠ gb98009)); have n10_ := Aside0.mk ((by rw [hg]; exact Nat.ne_of_gt (blk_lt BK98002.out) : gb98009 ≠ gb98002)); clear HO98008; clear BK98001; clear BK98002; clear HB; have HO98008 := n0_; have BK98001 := n1_; have BK98002 := n2_; have HB := n3_; have BK98009 := n4_; have GW98009 := n5_; have GE98009 := n6_; have NB98001_98009 := n7_; have NB98009_98001 := n8_; have NB98002_98009 := n9_; have NB98009_98002 := n10_; clear n0_ n1_ n2_ n3_ n4_ n5_ n6_ n7_ n8_ n9_ n10_; clear hb hbox hg; have hnb13 := NB98009_98001.out; have hnc13 := NB98001_98009.out; have hnb14 := NB98009_98002.out; have hnc14 := NB98002_98009.out; have hcz15_0 : w12.cell? ⟨gb98009, 0, none⟩ = some (.int .i64 0) := (blk_cell BK98009.out 0).trans rfl; have hcz15_1 : w12.cell? ⟨gb98009, 1, none⟩ = some (.int .i64 0) := (blk_cell BK98009.out 1).trans rfl; have hcz15_2 : w12.cell? ⟨gb98009, 2, none⟩ = some (.int .i64 0) := (blk_cell BK98009.out 2).trans rfl; have hcz15_3 : w12.cell? ⟨gb98009, 3, none⟩ = some (.slice none 0 0) := (blk_cell BK98009.out 3).trans rfl; have hfz15_0 := blk_frozen BK98009.out 0; have hfz15_1 := blk_frozen BK98009.out 1; have hfz15_2 := blk_frozen BK98009.out 2; have hfz15_3 := blk_frozen BK98009.out 3; obtain ⟨Ao16, co16, eo16⟩ := Kd.R_slice HO98008.out; subst eo16))
  go_loopg [12] k (fun kq v12 w' => ∃ (x12_1 : Int) (x98010003_1 : List Int) (u98010003 : Value), v12 = .int .i64 x12_1 ∧ Aside0 (spec_crop.l0 kq a1 a2 a3 a4 x12_1 a0_0 a0_1 a0_2 l0_3 t98003 t98004 t98005 x98010003_1 = some (r1, r2, r3, r4)) ∧ Aside0 (kq ≤ k) ∧ Aside0 (Kd.R (Kd.int .i64) 3 w' w.heap.size (fun _ => True) u98010003 x98010003_1) ∧ Aside0 (w'.heap[gb98001]? = some (.cells #[.int .i64 a0_0, .int .i64 a0_1, .int .i64 a0_2, (.slice A0_3 l0_3.length c0_3)] 28 (0, 0))) ∧ Aside0 (w'.heap[gb98002]? = some (.cells #[.int .i64 0, .int .i64 0, .int .i64 0, (.slice none 0 0)] 28 (0, 0))) ∧ Aside0 (w'.heap[gb98009]? = some (.cells #[.int .i64 t98003, .int .i64 t98004, .int .i64 t98005, u98010003] 28 (0, 0))) ∧ Aside0 (Below w.heap.size w w'))
  case atStart => exact ⟨(0), (t98006), (.slice Ao16 t98006.length co16), (by rfl), H', ⟨Nat.le_refl _⟩, ⟨by (with_reducible repeat (first | apply Kd.R_alloc | apply Kd.R_drewN | apply Kd.R_drew)); exact Kd.R_mono (Kd.R_far (p := ⟨gb98009, 3, none⟩) (Kd.R_far (p := ⟨gb98009, 2, none⟩) (Kd.R_far (p := ⟨gb98009, 1, none⟩) (Kd.R_far (p := ⟨gb98009, 0, none⟩) (Kd.R_types HO98008.out BK98009.out (by decide)) (fun _ hk => hk.2) (.int .i64 t98003)) (fun _ hk => hk.2) (.int .i64 t98004)) (fun _ hk => hk.2) (.int .i64 t98005)) (fun _ hk => hk.2) (.slice Ao16 t98006.length co16)) (fun _ hk => trivial)⟩, ⟨by (with_reducible repeat (first | refine blk_drewN ?_ _ | refine blk_drew ?_ | refine blk_alloc ?_ _)); refine blk_far ?_ NB98001_98009.out _; (with_reducible repeat (first | refine blk_drewN ?_ _ | refine blk_drew ?_ | refine blk_alloc ?_ _)); refine blk_far ?_ NB98001_98009.out _; (with_reducible repeat (first | refine blk_drewN ?_ _ | refine blk_drew ?_ | refine blk_alloc ?_ _)); refine blk_far ?_ NB98001_98009.out _; (with_reducible repeat (first | refine blk_drewN ?_ _ | refine blk_drew ?_ | refine blk_alloc ?_ _)); refine blk_far ?_ NB98001_98009.out _; (with_reducible repeat (first | refine blk_drewN ?_ _ | refine blk_drew ?_ | refine blk_alloc ?_ _)); exact BK98001.out⟩, ⟨by (with_reducible repeat (first | refine blk_drewN ?_ _ | refine blk_drew ?_ | refine blk_alloc ?_ _)); refine blk_far ?_ NB98002_98009.out _; (with_reducible repeat (first | refine blk_drewN ?_ _ | refine blk_drew ?_ | refine blk_alloc ?_ _)); refine blk_far ?_ NB98002_98009.out _; (with_reducible repeat (first | refine blk_drewN ?_ _ | refine blk_drew ?_ | refine blk_alloc ?_ _)); refine blk_far ?_ NB98002_98009.out _; (with_reducible repeat (first | refine blk_drewN ?_ _ | refine blk_drew ?_ | refine blk_alloc ?_ _)); refine blk_far ?_ NB98002_98009.out _; (with_reducible repeat (first | refine blk_drewN ?_ _ | refine blk_drew ?_ | refine blk_alloc ?_ _)); exact BK98002.out⟩, ⟨by (with_reducible repeat (first | refine blk_drewN ?_ _ | refine blk_drew ?_ | refine blk_alloc ?_ _)); refine blk_put (cs := #[.int .i64 t98003, .int .i64 t98004, .int .i64 t98005, .slice none 0 0]) ?_ 3 _ rfl; (with_reducible repeat (first | refine blk_drewN ?_ _ | refine blk_drew ?_ | refine blk_alloc ?_ _)); refine blk_put (cs := #[.int .i64 t98003, .int .i64 t98004, .int .i64 0, .slice none 0 0]) ?_ 2 _ rfl; (with_reducible repeat (first | refine blk_drewN ?_ _ | refine blk_drew ?_ | refine blk_alloc ?_ _)); refine blk_put (cs := #[.int .i64 t98003, .int .i64 0, .int .i64 0, .slice none 0 0]) ?_ 1 _ rfl; (with_reducible repeat (first | refine blk_drewN ?_ _ | refine blk_drew ?_ | refine blk_alloc ?_ _)); refine blk_put (cs := #[.int .i64 0, .int .i64 0, .int .i64 0, .slice none 0 0]) ?_ 0 _ rfl; (with_reducible repeat (first | refine blk_drewN ?_ _ | refine blk_drew ?_ | refine blk_alloc ?_ _)); exact BK98009.out⟩, ⟨by repeat (with_reducible first | exact HB.out | refine below_set ?_ GE98009.out)⟩⟩
  case round =>
    clear H'
    try clear c1
    try clear p2
    try clear c9
    try clear c13
    try clear c14
    try clear hcz10_0
    try clear hcz10_1
    try clear hcz10_2
    try clear hcz10_3
    try clear hcz15_0
    try clear hcz15_1
    try clear hcz15_2
    try clear hcz15_3
    try clear hfz10_0
    try clear hfz10_1
    try clear hfz10_2
    try clear hfz10_3
    try clear hfz15_0
    try clear hfz15_1
    try clear hfz15_2
    try clear hfz15_3
    obtain ⟨x12_1, x98010003_1, u98010003, rfl, HA, HK1, HO_98010003, BK98001, BK98002, BK98009, HB⟩ := hrel
    cases gk with
    | zero => exact absurd HA.out (by simp [spec_crop.l0])
    | succ k1 =>
      have H := HA.out
      clear HA
      simp only [spec_crop.l0] at H
      by_cases c17 : x12_1 < a4
      · rw [if_pos c17] at H
        have c17b0 : decide (x12_1 < a4) = true := decide_eq_true c17
        clear c17
        have H' := Aside0.mk H
        clear H
        go_wp2
        go_loopg [13] k1 (fun kq v13 w' => ∃ (x13_2 : Int) (x98010003_2 : List Int) (u98010003 : Value), v13 = .int .i64 x13_2 ∧ Aside0 (spec_crop.l1 kq a1 a2 a3 a4 x12_1 x13_2 a0_0 a0_1 a0_2 l0_3 t98003 t98004 t98005 x98010003_2 = some (r1, r2, r3, r4)) ∧ Aside0 (kq ≤ k1) ∧ Aside0 (Kd.R (Kd.int .i64) 3 w' w.heap.size (fun _ => True) u98010003 x98010003_2) ∧ Aside0 (w'.heap[gb98001]? = some (.cells #[.int .i64 a0_0, .int .i64 a0_1, .int .i64 a0_2, (.slice A0_3 l0_3.length c0_3)] 28 (0, 0))) ∧ Aside0 (w'.heap[gb98002]? = some (.cells #[.int .i64 0, .int .i64 0, .int .i64 0, (.slice none 0 0)] 28 (0, 0))) ∧ Aside0 (w'.heap[gb98009]? = some (.cells #[.int .i64 t98003, .int .i64 t98004, .int .i64 t98005, u98010003] 28 (0, 0))) ∧ Aside0 (Below w.heap.size w w'))
        case atStart => exact ⟨(0), (x98010003_1), (u98010003), (by rfl), H', ⟨Nat.le_refl _⟩, ⟨by (with_reducible repeat (first | apply Kd.R_alloc | apply Kd.R_drewN | apply Kd.R_drew)); exact HO_98010003.out⟩, ⟨by (with_reducible repeat (first | refine blk_drewN ?_ _ | refine blk_drew ?_ | refine blk_alloc ?_ _)); exact BK98001.out⟩, ⟨by (with_reducible repeat (first | refine blk_drewN ?_ _ | refine blk_drew ?_ | refine blk_alloc ?_ _)); exact BK98002.out⟩, ⟨by (with_reducible repeat (first | refine blk_drewN ?_ _ | refine blk_drew ?_ | refine blk_alloc ?_ _)); exact BK98009.out⟩, ⟨by exact HB.out⟩⟩
        case round =>
          clear H'
          try clear c1
          try clear p2
          try clear c9
          try clear c13
          try clear c14
          try clear c17
          try clear c17b0
          try clear hcz10_0
          try clear hcz10_1
          try clear hcz10_2
          try clear hcz10_3
          try clear hcz15_0
          try clear hcz15_1
          try clear hcz15_2
          try clear hcz15_3
          try clear hfz10_0
          try clear hfz10_1
          try clear hfz10_2
          try clear hfz10_3
          try clear hfz15_0
          try clear hfz15_1
          try clear hfz15_2
          try clear hfz15_3
          try clear p2
          obtain ⟨x13_2, x98010003_2, u98010003, rfl, HA, HK2, HO_98010003, BK98001, BK98002, BK98009, HB⟩ := hrel
          cases gk with
          | zero => exact absurd HA.out (by simp [spec_crop.l1])
          | succ k2 =>
            have H := HA.out
            clear HA
            simp only [spec_crop.l1] at H
            by_cases c18 : x13_2 < a3
            · rw [if_pos c18] at H
              have c18b0 : decide (x13_2 < a3) = true := decide_eq_true c18
              clear c18
              replace H := Option.bind_eq_some_iff.mp H
              obtain ⟨t98010, A190, H⟩ := H
              replace H : ((spec_setPixel.f k2 t98003 t98004 t98005 x98010003_2 x13_2 x12_1 t98010).bind fun t98013 => (spec_crop.l1 k2 a1 a2 a3 a4 x12_1 (wrap64 (x13_2 + 1)) a0_0 a0_1 a0_2 l0_3 t98003 t98004 t98005 t98013)) = some (r1, r2, r3, r4) := H
              have A19 := Aside0.mk A190
              clear A190
              replace H := Option.bind_eq_some_iff.mp H
              obtain ⟨t98013, A200, H⟩ := H
              replace H : (spec_crop.l1 k2 a1 a2 a3 a4 x12_1 (wrap64 (x13_2 + 1)) a0_0 a0_1 a0_2 l0_3 t98003 t98004 t98005 t98013) = some (r1, r2, r3, r4) := H
              have A20 := Aside0.mk A200
              clear A200
              have H' := Aside0.mk H
              clear H
              try go_wp2
              have n0_ := Aside0.mk (Kd.R_drew HO_98010003.out)
              have n1_ := Aside0.mk (blk_drew BK98001.out)
              have n2_ := Aside0.mk (blk_drew BK98002.out)
              have n3_ := Aside0.mk (blk_drew BK98009.out)
              have n4_ := Aside0.mk (below_drew1 HB.out)
              clear HO_98010003 BK98001 BK98002 BK98009 HB
              revert n0_ n1_ n2_ n3_ n4_; intro HO_98010003 BK98001 BK98002 BK98009 HB
              refine start_ (n := 12) (S := fun w' => w'.cell? ⟨gb98009, 0, none⟩ = some (.int .i64 t98003) ∧ w'.cell? ⟨gb98009, 1, none⟩ = some (.int .i64 t98004) ∧ w'.cell? ⟨gb98009, 2, none⟩ = some (.int .i64 t98005) ∧ w'.cell? ⟨gb98009, 3, none⟩ = some u98010003 ∧ w'.cell? ⟨gb98001, 0, none⟩ = some (.int .i64 a0_0) ∧ w'.cell? ⟨gb98001, 1, none⟩ = some (.int .i64 a0_1) ∧ w'.cell? ⟨gb98001, 2, none⟩ = some (.int .i64 a0_2) ∧ w'.cell? ⟨gb98001, 3, none⟩ = some (.slice A0_3 l0_3.length c0_3)) (ds := []) #[false, false, false, false, false, false, false, false, false, false, false, false] (by kernel_rfl) rfl rfl ⟨(blk_cell BK98009.out 0).trans rfl, (blk_cell BK98009.out 1).trans rfl, (blk_cell BK98009.out 2).trans rfl, (blk_cell BK98009.out 3).trans rfl, (blk_cell BK98001.out 0).trans rfl, (blk_cell BK98001.out 1).trans rfl, (blk_cell BK98001.out 2).trans rfl, (blk_cell BK98001.out 3).trans rfl⟩ (fun hHeld => ?_); refine with_tabW spec_crop.tab8 spec_crop.bits8 (fun HT_ HW_ => ?_)
              generalize wr.drew = w21 at HO_98010003 BK98001 BK98002 BK98009 HB hHeld ⊢
              refine pure_ (i := 1) (N := some 30) (v := ?_) (a' := ?_) #[false, true, false, false, false, false, false, false, false, false, false, false] rfl rfl (any_of HT_.out (by kernel_rfl)) (fun _ _ _ h => h) (Or.inl ⟨by rfl, ?_⟩) ?_ ?_
              rotate_left
              · intro w'
                go_simp
                with_reducible rfl
              rotate_left
              · simp only [Act.put, List.setIfInBounds_toArray, List.set_cons_zero, List.set_cons_succ, i64_w, i32_w]
                rfl
              refine pure_ (i := 2) (N := some 31) (v := ?_) (a' := ?_) #[false, true, true, false, false, false, false, false, false, false, false, false] rfl rfl (any_of HT_.out (by kernel_rfl)) (fun _ _ _ h => h) (Or.inl ⟨by rfl, ?_⟩) ?_ ?_
              rotate_left
              · intro w'
                go_simp
                with_reducible rfl
              rotate_left
              · simp only [Act.put, List.setIfInBounds_toArray, List.set_cons_zero, List.set_cons_succ, i64_w, i32_w]
                rfl
              refine pure_ (i := 4) (N := some 33) (v := ?_) (a' := ?_) #[false, true, true, false, true, false, false, false, false, false, false, false] rfl rfl (any_of HT_.out (by kernel_rfl)) (fun _ _ _ h => h) (Or.inl ⟨by rfl, ?_⟩) ?_ ?_
              rotate_left
              · intro w'
                go_simp
                with_reducible rfl
              rotate_left
              · simp only [Act.put, List.setIfInBounds_toArray, List.set_cons_zero, List.set_cons_succ, i64_w, i32_w]
                rfl
              refine pure_ (i := 5) (N := some 34) (v := ?_) (a' := ?_) #[false, true, true, false, true, true, false, false, false, false, false, false] rfl rfl (any_of HT_.out (by kernel_rfl)) (fun _ _ _ h => h) (Or.inl ⟨by rfl, ?_⟩) ?_ ?_
              rotate_left
              · intro w'
                go_simp
                with_reducible rfl
              rotate_left
              · simp only [Act.put, List.setIfInBounds_toArray, List.set_cons_zero, List.set_cons_succ, i64_w, i32_w]
                rfl
              refine pure_ (i := 6) (N := some 35) (v := ?_) (a' := ?_) #[false, true, true, false, true, true, true, false, false, false, false, false] rfl rfl (any_of HT_.out (by kernel_rfl)) (fun _ _ _ h => h) (Or.inl ⟨by rfl, ?_⟩) ?_ ?_
              rotate_left
              · intro w'
                go_simp
                with_reducible rfl
              rotate_left
              · simp only [Act.put, List.setIfInBounds_toArray, List.set_cons_zero, List.set_cons_succ, i64_w, i32_w]
                rfl
              refine pure_ (i := 7) (N := some 36) (v := ?_) (a' := ?_) #[false, true, true, false, true, true, true, true, false, false, false, false] rfl rfl (any_of HT_.out (by kernel_rfl)) (fun _ _ _ h => h) (Or.inl ⟨by rfl, ?_⟩) ?_ ?_
              rotate_left
              · intro w'
                go_simp
                with_reducible rfl
              rotate_left
              · simp only [Act.put, List.setIfInBounds_toArray, List.set_cons_zero, List.set_cons_succ, i64_w, i32_w]
                rfl
              refine pure_ (i := 8) (N := some 37) (v := ?_) (a' := ?_) #[false, true, true, false, true, true, true, true, true, false, false, false] rfl rfl (any_of HT_.out (by kernel_rfl)) (fun _ _ _ h => h) (Or.inl ⟨by rfl, ?_⟩) ?_ ?_
              rotate_left
              · intro w'
                go_simp
                with_reducible rfl
              rotate_left
              · simp only [Act.put, List.setIfInBounds_toArray, List.set_cons_zero, List.set_cons_succ, i64_w, i32_w]
                rfl
              refine pure_ (i := 9) (N := some 38) (v := ?_) (a' := ?_) #[false, true, true, false, true, true, true, true, true, true, false, false] rfl rfl (any_of HT_.out (by kernel_rfl)) (fun _ _ _ h => h) (Or.inl ⟨by rfl, ?_⟩) ?_ ?_
              rotate_left
              · intro w'
                go_simp
                with_reducible rfl
              rotate_left
              · simp only [Act.put, List.setIfInBounds_toArray, List.set_cons_zero, List.set_cons_succ, i64_w, i32_w]
                rfl
              refine take_ (i := 0) (N := some 29) (v := ?_) (a' := ?_) #[true, true, true, false, true, true, true, true, true, true, false, false] rfl rfl (take_ofW HT_.out HW_.out (by kernel_rfl)) (fun _ _ _ h => h) (Or.inl ⟨by rfl, ?_⟩) hHeld ?_ ?_
              rotate_left
              · rintro w' ⟨s0, s1, s2, s3, s4, s5, s6, s7⟩
                go_simp
                with_reducible rfl
              rotate_left
              · simp only [Act.put, List.setIfInBounds_toArray, List.set_cons_zero, List.set_cons_succ, i64_w, i32_w]
                rfl
              refine take_ (i := 3) (N := some 32) (v := ?_) (a' := ?_) #[true, true, true, true, true, true, true, true, true, true, false, false] rfl rfl (take_ofW HT_.out HW_.out (by kernel_rfl)) (fun _ _ _ h => h) (Or.inl ⟨by rfl, ?_⟩) hHeld ?_ ?_
              rotate_left
              · rintro w' ⟨s0, s1, s2, s3, s4, s5, s6, s7⟩
                go_simp
                with_reducible rfl
              rotate_left
              · simp only [Act.put, List.setIfInBounds_toArray, List.set_cons_zero, List.set_cons_succ, i64_w, i32_w]
                rfl
              refine one_ (i := 10) (N := some 39) #[true, true, true, true, true, true, true, true, true, true, true, false] rfl rfl (one_of HT_.out (by kernel_rfl)) (by decide) (fun K hK => ?_)
              refine goes_ Try.func95 (by kernel_rfl) rfl #[.agg #[.int .i64 a0_0, .int .i64 a0_1, .int .i64 a0_2, .slice A0_3 l0_3.length c0_3], .int .i64 (wrap64 (a1 + x13_2)), .int .i64 (wrap64 (a2 + x12_1))] (by rfl) rfl rfl (by (try simp only [List.map_toArray, List.map_cons, List.map_nil]); rfl) ?_
              with_reducible refine (spec_pixelAt.calls a0_0 a0_1 a0_2 _ _ l0_3 (wrap64 (a1 + x13_2)) (wrap64 (a2 + x12_1)) t98010 _ ?side1 ?side2 A19.out).mono ?_
              (case side1 => repeat (exact (Kd.C_below HR0_3.out HB.out)))
              (case side2 => exact HC0_3.out)
              rintro e w22 ⟨v98011, rfl, ho0, hb⟩
              refine ⟨_, rfl, ?_⟩
              have n0_ := Aside0.mk (Kd.R_elder' HO_98010003.out (Kd.R_base ho0) hb)
              have n1_ := Aside0.mk (Kd.R_lower (Kd.R_new' ho0 (Kd.R_lt HO_98010003.out)) (below_size HB.out))
              have n2_ := Aside0.mk (blk_below BK98001.out hb)
              have n3_ := Aside0.mk (blk_below BK98002.out hb)
              have n4_ := Aside0.mk (blk_below BK98009.out hb)
              have n5_ := Aside0.mk (below_step HB.out hb)
              clear HO_98010003 BK98001 BK98002 BK98009 HB
              revert n0_ n1_ n2_ n3_ n4_ n5_; intro HO_98010003 HO98012 BK98001 BK98002 BK98009 HB
              (try clear hb)
              (try clear ho0)
              obtain ⟨Ao23, co23, eo23⟩ := Kd.R_slice HO_98010003.out
              (subst eo23)
              obtain ⟨Ao24, co24, eo24⟩ := Kd.R_slice HO98012.out
              (subst eo24)
              refine hK.out _ _ ⟨(blk_cell BK98009.out 0).trans rfl, (blk_cell BK98009.out 1).trans rfl, (blk_cell BK98009.out 2).trans rfl, (blk_cell BK98009.out 3).trans rfl, (blk_cell BK98001.out 0).trans rfl, (blk_cell BK98001.out 1).trans rfl, (blk_cell BK98001.out 2).trans rfl, (blk_cell BK98001.out 3).trans rfl⟩ (fun hHeld => ?_)
              clear hK K
              refine norm_ (a' := ?_) ?_ ?_
              rotate_left
              · show Act.put _ (some 39) _ = _
                simp only [Act.put, List.setIfInBounds_toArray, List.set_cons_zero, List.set_cons_succ, i64_w, i32_w]
                rfl
              refine one_ (i := 11) (N := some 40) #[true, true, true, true, true, true, true, true, true, true, true, true] rfl rfl (one_of HT_.out (by kernel_rfl)) (by decide) (fun K hK => ?_)
              refine goes_ Try.func94 (by kernel_rfl) rfl #[.agg #[.int .i64 t98003, .int .i64 t98004, .int .i64 t98005, .slice Ao23 x98010003_2.length co23], .int .i64 x13_2, .int .i64 x12_1, .slice Ao24 t98010.length co24] (by rfl) rfl rfl (by (try simp only [List.map_toArray, List.map_cons, List.map_nil]); rfl) ?_
              with_reducible refine (spec_setPixel.calls k2 t98003 t98004 t98005 (fun k_ => some k_ = (.slice Ao23 x98010003_2.length co23 : Value).ownBlock) (.slice Ao23 x98010003_2.length co23) x98010003_2 x13_2 x12_1 _ _ t98010 t98013 w _ ?side1 ?side2 ?side3 ?side4 A20.out).mono ?_
              (case side1 => repeat (with_reducible exact HB.out))
              (case side2 => exact Kd.R_tight rfl HO_98010003.out)
              (case side3 => exact Kd.C_kept_own HO98012.out (fun k_ hk_ hs_ => hk_.2 hs_))
              (case side4 => exact (Kd.R_reads' HO98012.out).2.1)
              rintro e w25 ⟨rfl, hy0, hb, hkp⟩
              refine ⟨_, rfl, ?_⟩
              have n0_ := Aside0.mk (Kd.R_reok rfl hy0 (fun k_ e_ => HO_98010003.out.1 k_ e_))
              have n1_ := Aside0.mk (blk_kept BK98001.out hkp (fun hs_ => (fun e_ => (Kd.R_ne HO_98010003.out BK98001.out (by decide)) e_) hs_))
              have n2_ := Aside0.mk (blk_kept BK98002.out hkp (fun hs_ => (fun e_ => (Kd.R_ne HO_98010003.out BK98002.out (by decide)) e_) hs_))
              have n3_ := Aside0.mk (blk_kept BK98009.out hkp (fun hs_ => (fun e_ => (Kd.R_ne HO_98010003.out BK98009.out (by decide)) e_) hs_))
              have n4_ := Aside0.mk (Kd.R_mono (ok' := fun k_ => some k_ ≠ (.slice Ao23 x98010003_2.length co23 : Value).ownBlock) (Kd.R_keptB HO98012.out hkp (fun k_ hk_ hs_ => hk_.2 hs_)) (fun k_ hk_ => hk_.1.2))
              have n5_ := Aside0.mk (hb)
              clear HO_98010003 BK98001 BK98002 BK98009 HO98012 HB
              revert n0_ n1_ n2_ n3_ n4_ n5_; intro HO_98010003 BK98001 BK98002 BK98009 HO98012 HB
              (try clear hb)
              (try clear hkp)
              (try clear hy0)
              refine hK.out _ _ ⟨(blk_cell BK98009.out 0).trans rfl, (blk_cell BK98009.out 1).trans rfl, (blk_cell BK98009.out 2).trans rfl, (blk_cell BK98009.out 3).trans rfl, (blk_cell BK98001.out 0).trans rfl, (blk_cell BK98001.out 1).trans rfl, (blk_cell BK98001.out 2).trans rfl, (blk_cell BK98001.out 3).trans rfl⟩ (fun hHeld => ?_)
              clear hK K
              refine norm_ (a' := ?_) ?_ ?_
              rotate_left
              · show Act.put _ (some 40) _ = _
                simp only [Act.put, List.setIfInBounds_toArray, List.set_cons_zero, List.set_cons_succ, i64_w, i32_w]
                rfl
              refine done_ (done_of HT_.out (by kernel_rfl)) ?_
              try go_wp2
              go_roundg k2
              case measure => have := HK1.out; have := HK2.out; omega
              case rel => exact ⟨(wrap64 (x13_2 + 1)), (t98013), (.slice Ao23 x98010003_2.length co23), (by rfl), H', ⟨by have := HK1.out; have := HK2.out; omega⟩, ⟨by (with_reducible repeat (first | apply Kd.R_alloc | apply Kd.R_drewN | apply Kd.R_drew)); exact Kd.R_mono HO_98010003.out (fun _ hk => trivial)⟩, ⟨by (with_reducible repeat (first | refine blk_drewN ?_ _ | refine blk_drew ?_ | refine blk_alloc ?_ _)); exact BK98001.out⟩, ⟨by (with_reducible repeat (first | refine blk_drewN ?_ _ | refine blk_drew ?_ | refine blk_alloc ?_ _)); exact BK98002.out⟩, ⟨by (with_reducible repeat (first | refine blk_drewN ?_ _ | refine blk_drew ?_ | refine blk_alloc ?_ _)); exact BK98009.out⟩, ⟨by exact HB.out⟩⟩
            · rw [if_neg c18] at H
              have c18b0 : decide (x13_2 < a3) = false := decide_eq_false c18
              clear c18
              have H' := Aside0.mk H
              clear H
              go_wp2
              go_roundg k2
              case measure => have := HK1.out; have := HK2.out; omega
              case rel => exact ⟨(wrap64 (x12_1 + 1)), (x98010003_2), (u98010003), (by rfl), H', ⟨by have := HK1.out; have := HK2.out; omega⟩, ⟨by (with_reducible repeat (first | apply Kd.R_alloc | apply Kd.R_drewN | apply Kd.R_drew)); exact HO_98010003.out⟩, ⟨by (with_reducible repeat (first | refine blk_drewN ?_ _ | refine blk_drew ?_ | refine blk_alloc ?_ _)); exact BK98001.out⟩, ⟨by (with_reducible repeat (first | refine blk_drewN ?_ _ | refine blk_drew ?_ | refine blk_alloc ?_ _)); exact BK98002.out⟩, ⟨by (with_reducible repeat (first | refine blk_drewN ?_ _ | refine blk_drew ?_ | refine blk_alloc ?_ _)); exact BK98009.out⟩, ⟨by exact HB.out⟩⟩
      · rw [if_neg c17] at H
        have c17b0 : decide (x12_1 < a4) = false := decide_eq_false c17
        clear c17
        simp only [Option.some.injEq, Prod.mk.injEq] at H
        obtain ⟨rfl, rfl, rfl, rfl⟩ := H
        have hnb26 := NB98009_98001.out
        have hnc26 := NB98001_98009.out
        have hnb27 := NB98009_98002.out
        have hnc27 := NB98002_98009.out
        have hcz28_0 : wr.cell? ⟨gb98009, 0, none⟩ = some (.int .i64 t98003) := (blk_cell BK98009.out 0).trans rfl
        have hcz28_1 : wr.cell? ⟨gb98009, 1, none⟩ = some (.int .i64 t98004) := (blk_cell BK98009.out 1).trans rfl
        have hcz28_2 : wr.cell? ⟨gb98009, 2, none⟩ = some (.int .i64 t98005) := (blk_cell BK98009.out 2).trans rfl
        have hcz28_3 : wr.cell? ⟨gb98009, 3, none⟩ = some u98010003 := (blk_cell BK98009.out 3).trans rfl
        have hfz28_0 := blk_frozen BK98009.out 0
        have hfz28_1 := blk_frozen BK98009.out 1
        have hfz28_2 := blk_frozen BK98009.out 2
        have hfz28_3 := blk_frozen BK98009.out 3
        have hnb29 := NB98002_98001.out
        have hnc29 := NB98001_98002.out
        have hcz30_0 : wr.cell? ⟨gb98002, 0, none⟩ = some (.int .i64 0) := (blk_cell BK98002.out 0).trans rfl
        have hcz30_1 : wr.cell? ⟨gb98002, 1, none⟩ = some (.int .i64 0) := (blk_cell BK98002.out 1).trans rfl
        have hcz30_2 : wr.cell? ⟨gb98002, 2, none⟩ = some (.int .i64 0) := (blk_cell BK98002.out 2).trans rfl
        have hcz30_3 : wr.cell? ⟨gb98002, 3, none⟩ = some (.slice none 0 0) := (blk_cell BK98002.out 3).trans rfl
        have hfz30_0 := blk_frozen BK98002.out 0
        have hfz30_1 := blk_frozen BK98002.out 1
        have hfz30_2 := blk_frozen BK98002.out 2
        have hfz30_3 := blk_frozen BK98002.out 3
        obtain ⟨Ao31, co31, eo31⟩ := Kd.R_slice HO_98010003.out
        subst eo31
        go_wp2
        refine bodyPost_ret (results_cell_row rfl _ _ gb98002 28 #[.int .i64 t98003, .int .i64 t98004, .int .i64 t98005, .slice Ao31 x98010003_1.length co31] (0, 0) _ rfl (by refine blk_put (cs := #[.int .i64 t98003, .int .i64 t98004, .int .i64 t98005, .slice none 0 0]) ?_ 3 _ rfl; (with_reducible repeat (first | refine blk_drewN ?_ _ | refine blk_drew ?_ | refine blk_alloc ?_ _)); refine blk_put (cs := #[.int .i64 t98003, .int .i64 t98004, .int .i64 0, .slice none 0 0]) ?_ 2 _ rfl; (with_reducible repeat (first | refine blk_drewN ?_ _ | refine blk_drew ?_ | refine blk_alloc ?_ _)); refine blk_put (cs := #[.int .i64 t98003, .int .i64 0, .int .i64 0, .slice none 0 0]) ?_ 1 _ rfl; (with_reducible repeat (first | refine blk_drewN ?_ _ | refine blk_drew ?_ | refine blk_alloc ?_ _)); refine blk_put (cs := #[.int .i64 0, .int .i64 0, .int .i64 0, .slice none 0 0]) ?_ 0 _ rfl; (with_reducible repeat (first | refine blk_drewN ?_ _ | refine blk_drew ?_ | refine blk_alloc ?_ _)); exact BK98002.out) Try.underlying28 rfl (by kernel_rfl)) rfl ?_
        exact ⟨_, by rfl, by (with_reducible repeat (first | apply Kd.R_alloc | apply Kd.R_drewN | apply Kd.R_drew)); exact Kd.R_mono (Kd.R_far (p := ⟨gb98002, 3, none⟩) (Kd.R_far (p := ⟨gb98002, 2, none⟩) (Kd.R_far (p := ⟨gb98002, 1, none⟩) (Kd.R_far (p := ⟨gb98002, 0, none⟩) (Kd.R_types HO_98010003.out BK98002.out (by decide)) (fun _ hk => hk.2) (.int .i64 t98003)) (fun _ hk => hk.2) (.int .i64 t98004)) (fun _ hk => hk.2) (.int .i64 t98005)) (fun _ hk => hk.2) (.slice Ao31 x98010003_1.length co31)) (fun _ hk => trivial), by repeat (with_reducible first | exact HB.out | refine below_set ?_ GE98002.out)⟩


def spec_CropImage.f (k : Nat) (a0_0 : Int) (a0_1 : Int) (a0_2 : Int) (l0_3 : List Int) (a1_0 : Int) (a1_1 : Int) (a1_2 : Int) (a1_3 : Int) : Option (Int × Int × Int × List Int × Bool) := (spec_validImage.f k a0_0 a0_1 a0_2 l0_3).bind fun t76004 => (if t76004 = true then ((spec_validBox.f a0_0 a0_1 a0_2 l0_3 a1_0 a1_1 a1_2 a1_3).bind fun t76005 => (if t76005 = true then ((spec_crop.f k a0_0 a0_1 a0_2 l0_3 a1_0 a1_1 a1_2 a1_3).bind fun bt76006 => (some (bt76006.1, bt76006.2.1, bt76006.2.2.1, bt76006.2.2.2, true))) else (some (0, 0, 0, ([] : List Int), false)))) else (some (0, 0, 0, ([] : List Int), false)))
theorem spec_CropImage.mono : ∀ a0 a1 a2 a3 a4 a5 a6 a7 k, LeO (spec_CropImage.f k a0 a1 a2 a3 a4 a5 a6 a7) (spec_CropImage.f (k + 1) a0 a1 a2 a3 a4 a5 a6 a7) := by
  intro a0 a1 a2 a3 a4 a5 a6 a7 k
  unfold spec_CropImage.f
  repeat' first | (with_reducible exact spec_crop.mono _ _ _ _ _ _ _ _ _) | (with_reducible exact spec_validImage.mono _ _ _ _ _) | (with_reducible exact LeO.refl _) | (with_reducible refine LeO.ite ?_ ?_) | (with_reducible refine LeO.bind ?_ (fun _ => ?_))
set_option maxHeartbeats 8000000 in
set_option maxRecDepth 100000 in
theorem spec_CropImage.calls (k : Nat) (a0_0 : Int) (a0_1 : Int) (a0_2 : Int) (A0_3 : Option Addr) (c0_3 : Nat) (l0_3 : List Int) (a1_0 : Int) (a1_1 : Int) (a1_2 : Int) (a1_3 : Int) (r1 : Int) (r2 : Int) (r3 : Int) (r4 : List Int) (r5 : Bool) (w : World) (hr0_3 : Kd.C (Kd.int .i64) w A0_3 l0_3.length l0_3) (hc0_3 : l0_3.length ≤ c0_3) (h : spec_CropImage.f k a0_0 a0_1 a0_2 l0_3 a1_0 a1_1 a1_2 a1_3 = some (r1, r2, r3, r4, r5)) :
    Calls Try.prog 75 #[.agg #[.int .i64 a0_0, .int .i64 a0_1, .int .i64 a0_2, .slice A0_3 l0_3.length c0_3], .agg #[.int .i64 a1_0, .int .i64 a1_1, .int .i64 a1_2, .int .i64 a1_3]] w fun e w' => ∃ v3_ : Value, e = .returned (.tuple #[.agg #[.int .i64 r1, .int .i64 r2, .int .i64 r3, v3_], .bool r5]) ∧ Kd.R (Kd.int .i64) 3 w' w.heap.size (fun _ => True) v3_ r4 ∧ Below w.heap.size w w' := by
  have hu28 := Try.underlying28
  have hu41 := Try.underlying41
  have HR0_3 := Aside0.mk hr0_3
  have HC0_3 := Aside0.mk hc0_3
  clear hr0_3 hc0_3
  have HB := Aside0.mk (Below.refl w.heap.size w)
  have H : ((spec_validImage.f k a0_0 a0_1 a0_2 l0_3).bind fun t76004 => (if t76004 = true then ((spec_validBox.f a0_0 a0_1 a0_2 l0_3 a1_0 a1_1 a1_2 a1_3).bind fun t76005 => (if t76005 = true then ((spec_crop.f k a0_0 a0_1 a0_2 l0_3 a1_0 a1_1 a1_2 a1_3).bind fun bt76006 => (some (bt76006.1, bt76006.2.1, bt76006.2.2.1, bt76006.2.2.2, true))) else (some (0, 0, 0, ([] : List Int), false)))) else (some (0, 0, 0, ([] : List Int), false)))) = some (r1, r2, r3, r4, r5) := h
  clear h
  replace H := Option.bind_eq_some_iff.mp H
  obtain ⟨t76004, A30, H⟩ := H
  replace H : (if t76004 = true then ((spec_validBox.f a0_0 a0_1 a0_2 l0_3 a1_0 a1_1 a1_2 a1_3).bind fun t76005 => (if t76005 = true then ((spec_crop.f k a0_0 a0_1 a0_2 l0_3 a1_0 a1_1 a1_2 a1_3).bind fun bt76006 => (some (bt76006.1, bt76006.2.1, bt76006.2.2.1, bt76006.2.2.2, true))) else (some (0, 0, 0, ([] : List Int), false)))) else (some (0, 0, 0, ([] : List Int), false))) = some (r1, r2, r3, r4, r5) := H
  have A3 := Aside0.mk A30
  clear A30
  by_cases c4 : t76004 = true
  · subst c4
    have H1 : ((spec_validBox.f a0_0 a0_1 a0_2 l0_3 a1_0 a1_1 a1_2 a1_3).bind fun t76005 => (if t76005 = true then ((spec_crop.f k a0_0 a0_1 a0_2 l0_3 a1_0 a1_1 a1_2 a1_3).bind fun bt76006 => (some (bt76006.1, bt76006.2.1, bt76006.2.2.1, bt76006.2.2.2, true))) else (some (0, 0, 0, ([] : List Int), false)))) = some (r1, r2, r3, r4, r5) := by rw [if_pos rfl] at H; exact H
    clear H
    have H := H1
    clear H1
    replace H := Option.bind_eq_some_iff.mp H
    obtain ⟨t76005, A50, H⟩ := H
    replace H : (if t76005 = true then ((spec_crop.f k a0_0 a0_1 a0_2 l0_3 a1_0 a1_1 a1_2 a1_3).bind fun bt76006 => (some (bt76006.1, bt76006.2.1, bt76006.2.2.1, bt76006.2.2.2, true))) else (some (0, 0, 0, ([] : List Int), false))) = some (r1, r2, r3, r4, r5) := H
    have A5 := Aside0.mk A50
    clear A50
    by_cases c6 : t76005 = true
    · subst c6
      have H1 : ((spec_crop.f k a0_0 a0_1 a0_2 l0_3 a1_0 a1_1 a1_2 a1_3).bind fun bt76006 => (some (bt76006.1, bt76006.2.1, bt76006.2.2.1, bt76006.2.2.2, true))) = some (r1, r2, r3, r4, r5) := by rw [if_pos rfl] at H; exact H
      clear H
      have H := H1
      clear H1
      replace H := Option.bind_eq_some_iff.mp H
      obtain ⟨⟨t76006, t76007, t76008, t76009⟩, A70, H⟩ := H
      replace H : (some (t76006, t76007, t76008, t76009, true)) = some (r1, r2, r3, r4, r5) := H
      have A7 := Aside0.mk A70
      clear A70
      simp only [Option.some.injEq, Prod.mk.injEq] at H
      obtain ⟨rfl, rfl, rfl, rfl, rfl⟩ := H
      go_enter Try.func75, Try.ntmps75
      go_wp2_with (first | ((with_reducible refine gate_dst (N := 2) rfl ?_); refine box_event ?hg (N := 2) ?hd (cs := #[.int .i64 a0_0, .int .i64 a0_1, .int .i64 a0_2, .slice A0_3 l0_3.length c0_3]) (t := 28) ?hr ?_; (case hd => rfl); (case hg => rfl); (case hr => (go_simp; done)); intro gb76001 hg w8 hbox hb; have n0_ := Aside0.mk (below_step HB.out hb); have n1_ := Aside0.mk (hbox); have n2_ := Aside0.mk ((by rw [hg]; exact (below_size HB.out) : w.heap.size ≤ gb76001)); have n3_ := Aside0.mk ((by rw [hg]; exact (below_size HB.out) : w.heap.size ≤ gb76001)); clear HB; have HB := n0_; have BK76001 := n1_; have GW76001 := n2_; have GE76001 := n3_; clear n0_ n1_ n2_ n3_; clear hb hbox hg) | ((with_reducible refine gate_dst (N := 3) rfl ?_); refine box_event ?hg (N := 3) ?hd (cs := #[.int .i64 a1_0, .int .i64 a1_1, .int .i64 a1_2, .int .i64 a1_3]) (t := 41) ?hr ?_; (case hd => rfl); (case hg => rfl); (case hr => (go_simp; done)); intro gb76002 hg w9 hbox hb; have n0_ := Aside0.mk (blk_below BK76001.out hb); have n1_ := Aside0.mk (below_step HB.out hb); have n2_ := Aside0.mk (hbox); have n3_ := Aside0.mk ((by rw [hg]; exact (below_size HB.out) : w.heap.size ≤ gb76002)); have n4_ := Aside0.mk ((by rw [hg]; exact (below_size HB.out) : w.heap.size ≤ gb76002)); have n5_ := Aside0.mk ((by rw [hg]; exact Nat.ne_of_lt (blk_lt BK76001.out) : gb76001 ≠ gb76002)); have n6_ := Aside0.mk ((by rw [hg]; exact Nat.ne_of_gt (blk_lt BK76001.out) : gb76002 ≠ gb76001)); clear BK76001; clear HB; have BK76001 := n0_; have HB := n1_; have BK76002 := n2_; have GW76002 := n3_; have GE76002 := n4_; have NB76001_76002 := n5_; have NB76002_76001 := n6_; clear n0_ n1_ n2_ n3_ n4_ n5_ n6_; clear hb hbox hg) | ((with_reducible refine gate_dst (N := 4) rfl ?_); refine box_event ?hg (N := 4) ?hd (cs := #[.int .i64 0, .int .i64 0, .int .i64 0, .slice none 0 0]) (t := 28) ?hr ?_; (case hd => rfl); (case hg => rfl); (case hr => (go_simp; done)); intro gb76003 hg w10 hbox hb; have n0_ := Aside0.mk (blk_below BK76001.out hb); have n1_ := Aside0.mk (blk_below BK76002.out hb); have n2_ := Aside0.mk (below_step HB.out hb); have n3_ := Aside0.mk (hbox); have n4_ := Aside0.mk ((by rw [hg]; exact (below_size HB.out) : w.heap.size ≤ gb76003)); have n5_ := Aside0.mk ((by rw [hg]; exact (below_size HB.out) : w.heap.size ≤ gb76003)); have n6_ := Aside0.mk ((by rw [hg]; exact Nat.ne_of_lt (blk_lt BK76001.out) : gb76001 ≠ gb76003)); have n7_ := Aside0.mk ((by rw [hg]; exact Nat.ne_of_gt (blk_lt BK76001.out) : gb76003 ≠ gb76001)); have n8_ := Aside0.mk ((by rw [hg]; exact Nat.ne_of_lt (blk_lt BK76002.out) : gb76002 ≠ gb76003)); have n9_ := Aside0.mk ((by rw [hg]; exact Nat.ne_of_gt (blk_lt BK76002.out) : gb76003 ≠ gb76002)); clear BK76001; clear BK76002; clear HB; have BK76001 := n0_; have BK76002 := n1_; have HB := n2_; have BK76003 := n3_; have GW76003 := n4_; have GE76003 := n5_; have NB76001_76003 := n6_; have NB76003_76001 := n7_; have NB76002_76003 := n8_; have NB76003_76002 := n9_; clear n0_ n1_ n2_ n3_ n4_ n5_ n6_ n7_ n8_ n9_; clear hb hbox hg; have hnb11 := NB76001_76002.out; have hnc11 := NB76002_76001.out; have hnb12 := NB76001_76003.out; have hnc12 := NB76003_76001.out; have hcz13_0 : w10.cell? ⟨gb76001, 0, none⟩ = some (.int .i64 a0_0) := (blk_cell BK76001.out 0).trans rfl; have hcz13_1 : w10.cell? ⟨gb76001, 1, none⟩ = some (.int .i64 a0_1) := (blk_cell BK76001.out 1).trans rfl; have hcz13_2 : w10.cell? ⟨gb76001, 2, none⟩ = some (.int .i64 a0_2) := (blk_cell BK76001.out 2).trans rfl; have hcz13_3 : w10.cell? ⟨gb76001, 3, none⟩ = some (.slice A0_3 l0_3.length c0_3) := (blk_cell BK76001.out 3).trans rfl; have hfz13_0 := blk_frozen BK76001.out 0; have hfz13_1 := blk_frozen BK76001.out 1; have hfz13_2 := blk_frozen BK76001.out 2; have hfz13_3 := blk_frozen BK76001.out 3) | ((with_reducible refine gate_callee (f := 39) rfl ?_); refine goesL_ (some 7) rfl rfl Try.func39 (by kernel_rfl) rfl #[.agg #[.int .i64 a0_0, .int .i64 a0_1, .int .i64 a0_2, .slice A0_3 l0_3.length c0_3]] rfl (by (try simp only [List.map_toArray, List.map_cons, List.map_nil]); rfl) ?_; (with_reducible refine (spec_validImage.calls k a0_0 a0_1 a0_2 _ _ l0_3 true _ ?side1 ?side2 A3.out).mono ?_); (case side1 => repeat (exact (Kd.C_below HR0_3.out HB.out))); (case side2 => exact HC0_3.out); rintro e w14 ⟨rfl, hb⟩; refine ⟨_, rfl, ?_⟩; have n0_ := Aside0.mk (blk_below BK76001.out hb); have n1_ := Aside0.mk (blk_below BK76002.out hb); have n2_ := Aside0.mk (blk_below BK76003.out hb); have n3_ := Aside0.mk (below_step HB.out hb); clear BK76001; clear BK76002; clear BK76003; clear HB; have BK76001 := n0_; have BK76002 := n1_; have BK76003 := n2_; have HB := n3_; clear n0_ n1_ n2_ n3_; (try clear hb); have hcz15_0 : w14.cell? ⟨gb76001, 0, none⟩ = some (.int .i64 a0_0) := (blk_cell BK76001.out 0).trans rfl; have hcz15_1 : w14.cell? ⟨gb76001, 1, none⟩ = some (.int .i64 a0_1) := (blk_cell BK76001.out 1).trans rfl; have hcz15_2 : w14.cell? ⟨gb76001, 2, none⟩ = some (.int .i64 a0_2) := (blk_cell BK76001.out 2).trans rfl; have hcz15_3 : w14.cell? ⟨gb76001, 3, none⟩ = some (.slice A0_3 l0_3.length c0_3) := (blk_cell BK76001.out 3).trans rfl; have hfz15_0 := blk_frozen BK76001.out 0; have hfz15_1 := blk_frozen BK76001.out 1; have hfz15_2 := blk_frozen BK76001.out 2; have hfz15_3 := blk_frozen BK76001.out 3; have hnb16 := NB76002_76003.out; have hnc16 := NB76003_76002.out; have hcz17_0 : w14.cell? ⟨gb76002, 0, none⟩ = some (.int .i64 a1_0) := (blk_cell BK76002.out 0).trans rfl; have hcz17_1 : w14.cell? ⟨gb76002, 1, none⟩ = some (.int .i64 a1_1) := (blk_cell BK76002.out 1).trans rfl; have hcz17_2 : w14.cell? ⟨gb76002, 2, none⟩ = some (.int .i64 a1_2) := (blk_cell BK76002.out 2).trans rfl; have hcz17_3 : w14.cell? ⟨gb76002, 3, none⟩ = some (.int .i64 a1_3) := (blk_cell BK76002.out 3).trans rfl; have hfz17_0 := blk_frozen BK76002.out 0; have hfz17_1 := blk_frozen BK76002.out 1; have hfz17_2 := blk_frozen BK76002.out 2; have hfz17_3 := blk_frozen BK76002.out 3) | (go_at_call 76; (with_reducible refine (spec_validBox.calls a0_0 a0_1 a0_2 _ _ l0_3 a1_0 a1_1 a1_2 a1_3 true _ ?side1 ?side2 A5.out).mono ?_); (case side1 => repeat (exact (Kd.C_below HR0_3.out HB.out))); (case side2 => exact HC0_3.out); rintro e w18 ⟨rfl, hb⟩; have n0_ := Aside0.mk (blk_below BK76001.out hb); have n1_ := Aside0.mk (blk_below BK76002.out hb); have n2_ := Aside0.mk (blk_below BK76003.out hb); have n3_ := Aside0.mk (below_step HB.out hb); clear BK76001; clear BK76002; clear BK76003; clear HB; have BK76001 := n0_; have BK76002 := n1_; have BK76003 := n2_; have HB := n3_; clear n0_ n1_ n2_ n3_; (try clear hb); have hcz19_0 : w18.cell? ⟨gb76001, 0, none⟩ = some (.int .i64 a0_0) := (blk_cell BK76001.out 0).trans rfl; have hcz19_1 : w18.cell? ⟨gb76001, 1, none⟩ = some (.int .i64 a0_1) := (blk_cell BK76001.out 1).trans rfl; have hcz19_2 : w18.cell? ⟨gb76001, 2, none⟩ = some (.int .i64 a0_2) := (blk_cell BK76001.out 2).trans rfl; have hcz19_3 : w18.cell? ⟨gb76001, 3, none⟩ = some (.slice A0_3 l0_3.length c0_3) := (blk_cell BK76001.out 3).trans rfl; have hfz19_0 := blk_frozen BK76001.out 0; have hfz19_1 := blk_frozen BK76001.out 1; have hfz19_2 := blk_frozen BK76001.out 2; have hfz19_3 := blk_frozen BK76001.out 3; have hcz20_0 : w18.cell? ⟨gb76002, 0, none⟩ = some (.int .i64 a1_0) := (blk_cell BK76002.out 0).trans rfl; have hcz20_1 : w18.cell? ⟨gb76002, 1, none⟩ = some (.int .i64 a1_1) := (blk_cell BK76002.out 1).trans rfl; have hcz20_2 : w18.cell? ⟨gb76002, 2, none⟩ = some (.int .i64 a1_2) := (blk_cell BK76002.out 2).trans rfl; have hcz20_3 : w18.cell? ⟨gb76002, 3, none⟩ = some (.int .i64 a1_3) := (blk_cell BK76002.out 3).trans rfl; have hfz20_0 := blk_frozen BK76002.out 0; have hfz20_1 := blk_frozen BK76002.out 1; have hfz20_2 := blk_frozen BK76002.out 2; have hfz20_3 := blk_frozen BK76002.out 3) | ((with_reducible refine gate_callee (f := 97) rfl ?_); refine goesL_ (some 25) rfl rfl Try.func97 (by kernel_rfl) rfl #[.agg #[.int .i64 a0_0, .int .i64 a0_1, .int .i64 a0_2, .slice A0_3 l0_3.length c0_3], .int .i64 a1_0, .int .i64 a1_1, .int .i64 a1_2, .int .i64 a1_3] rfl (by (try simp only [List.map_toArray, List.map_cons, List.map_nil]); rfl) ?_; (with_reducible refine (spec_crop.calls k a0_0 a0_1 a0_2 _ _ l0_3 a1_0 a1_1 a1_2 a1_3 t76006 t76007 t76008 t76009 _ ?side1 ?side2 A7.out).mono ?_); (case side1 => repeat (exact (Kd.C_below HR0_3.out HB.out))); (case side2 => exact HC0_3.out); rintro e w21 ⟨v76010, rfl, ho0, hb⟩; refine ⟨_, rfl, ?_⟩; have n0_ := Aside0.mk (Kd.R_lower ho0 (below_size HB.out)); have n1_ := Aside0.mk (blk_below BK76001.out hb); have n2_ := Aside0.mk (blk_below BK76002.out hb); have n3_ := Aside0.mk (blk_below BK76003.out hb); have n4_ := Aside0.mk (below_step HB.out hb); clear BK76001; clear BK76002; clear BK76003; clear HB; have HO76011 := n0_; have BK76001 := n1_; have BK76002 := n2_; have BK76003 := n3_; have HB := n4_; clear n0_ n1_ n2_ n3_ n4_; (try clear hb); (try clear ho0); have hcz22_0 : w21.cell? ⟨gb76003, 0, none⟩ = some (.int .i64 0) := (blk_cell BK76003.out 0).trans rfl; have hcz22_1 : w21.cell? ⟨gb76003, 1, none⟩ = some (.int .i64 0) := (blk_cell BK76003.out 1).trans rfl; have hcz22_2 : w21.cell? ⟨gb76003, 2, none⟩ = some (.int .i64 0) := (blk_cell BK76003.out 2).trans rfl; have hcz22_3 : w21.cell? ⟨gb76003, 3, none⟩ = some (.slice none 0 0) := (blk_cell BK76003.out 3).trans rfl; have hfz22_0 := blk_frozen BK76003.out 0; have hfz22_1 := blk_frozen BK76003.out 1; have hfz22_2 := blk_frozen BK76003.out 2; have hfz22_3 := blk_frozen BK76003.out 3; obtain ⟨Ao23, co23, eo23⟩ := Kd.R_slice HO76011.out; subst eo23))
      refine bodyPost_ret (results_ct rfl _ _ gb76003 28 #[.int .i64 t76006, .int .i64 t76007, .int .i64 t76008, .slice Ao23 t76009.length co23] (0, 0) _ rfl (by refine blk_put (cs := #[.int .i64 t76006, .int .i64 t76007, .int .i64 t76008, .slice none 0 0]) ?_ 3 _ rfl; (with_reducible repeat (first | refine blk_drewN ?_ _ | refine blk_drew ?_ | refine blk_alloc ?_ _)); refine blk_put (cs := #[.int .i64 t76006, .int .i64 t76007, .int .i64 0, .slice none 0 0]) ?_ 2 _ rfl; (with_reducible repeat (first | refine blk_drewN ?_ _ | refine blk_drew ?_ | refine blk_alloc ?_ _)); refine blk_put (cs := #[.int .i64 t76006, .int .i64 0, .int .i64 0, .slice none 0 0]) ?_ 1 _ rfl; (with_reducible repeat (first | refine blk_drewN ?_ _ | refine blk_drew ?_ | refine blk_alloc ?_ _)); refine blk_put (cs := #[.int .i64 0, .int .i64 0, .int .i64 0, .slice none 0 0]) ?_ 0 _ rfl; (with_reducible repeat (first | refine blk_drewN ?_ _ | refine blk_drew ?_ | refine blk_alloc ?_ _)); exact BK76003.out) Try.underlying28 rfl (by kernel_rfl)) rfl ?_
      exact ⟨_, by rfl, by (with_reducible repeat (first | apply Kd.R_alloc | apply Kd.R_drewN | apply Kd.R_drew)); exact Kd.R_mono (Kd.R_far (p := ⟨gb76003, 3, none⟩) (Kd.R_far (p := ⟨gb76003, 2, none⟩) (Kd.R_far (p := ⟨gb76003, 1, none⟩) (Kd.R_far (p := ⟨gb76003, 0, none⟩) (Kd.R_types HO76011.out BK76003.out (by decide)) (fun _ hk => hk.2) (.int .i64 t76006)) (fun _ hk => hk.2) (.int .i64 t76007)) (fun _ hk => hk.2) (.int .i64 t76008)) (fun _ hk => hk.2) (.slice Ao23 t76009.length co23)) (fun _ hk => trivial), by repeat (with_reducible first | exact HB.out | refine below_set ?_ GE76003.out)⟩
    · replace c6 := Bool.eq_false_iff.mpr c6
      subst c6
      have H1 : (some (0, 0, 0, ([] : List Int), false)) = some (r1, r2, r3, r4, r5) := by rw [if_neg (show ¬ (false = true) by decide)] at H; exact H
      clear H
      have H := H1
      clear H1
      simp only [Option.some.injEq, Prod.mk.injEq] at H
      obtain ⟨rfl, rfl, rfl, rfl, rfl⟩ := H
      go_enter Try.func75, Try.ntmps75
      go_wp2_with (first | ((with_reducible refine gate_dst (N := 2) rfl ?_); refine box_event ?hg (N := 2) ?hd (cs := #[.int .i64 a0_0, .int .i64 a0_1, .int .i64 a0_2, .slice A0_3 l0_3.length c0_3]) (t := 28) ?hr ?_; (case hd => rfl); (case hg => rfl); (case hr => (go_simp; done)); intro gb76001 hg w24 hbox hb; have n0_ := Aside0.mk (below_step HB.out hb); have n1_ := Aside0.mk (hbox); have n2_ := Aside0.mk ((by rw [hg]; exact (below_size HB.out) : w.heap.size ≤ gb76001)); have n3_ := Aside0.mk ((by rw [hg]; exact (below_size HB.out) : w.heap.size ≤ gb76001)); clear HB; have HB := n0_; have BK76001 := n1_; have GW76001 := n2_; have GE76001 := n3_; clear n0_ n1_ n2_ n3_; clear hb hbox hg) | ((with_reducible refine gate_dst (N := 3) rfl ?_); refine box_event ?hg (N := 3) ?hd (cs := #[.int .i64 a1_0, .int .i64 a1_1, .int .i64 a1_2, .int .i64 a1_3]) (t := 41) ?hr ?_; (case hd => rfl); (case hg => rfl); (case hr => (go_simp; done)); intro gb76002 hg w25 hbox hb; have n0_ := Aside0.mk (blk_below BK76001.out hb); have n1_ := Aside0.mk (below_step HB.out hb); have n2_ := Aside0.mk (hbox); have n3_ := Aside0.mk ((by rw [hg]; exact (below_size HB.out) : w.heap.size ≤ gb76002)); have n4_ := Aside0.mk ((by rw [hg]; exact (below_size HB.out) : w.heap.size ≤ gb76002)); have n5_ := Aside0.mk ((by rw [hg]; exact Nat.ne_of_lt (blk_lt BK76001.out) : gb76001 ≠ gb76002)); have n6_ := Aside0.mk ((by rw [hg]; exact Nat.ne_of_gt (blk_lt BK76001.out) : gb76002 ≠ gb76001)); clear BK76001; clear HB; have BK76001 := n0_; have HB := n1_; have BK76002 := n2_; have GW76002 := n3_; have GE76002 := n4_; have NB76001_76002 := n5_; have NB76002_76001 := n6_; clear n0_ n1_ n2_ n3_ n4_ n5_ n6_; clear hb hbox hg) | ((with_reducible refine gate_dst (N := 4) rfl ?_); refine box_event ?hg (N := 4) ?hd (cs := #[.int .i64 0, .int .i64 0, .int .i64 0, .slice none 0 0]) (t := 28) ?hr ?_; (case hd => rfl); (case hg => rfl); (case hr => (go_simp; done)); intro gb76003 hg w26 hbox hb; have n0_ := Aside0.mk (blk_below BK76001.out hb); have n1_ := Aside0.mk (blk_below BK76002.out hb); have n2_ := Aside0.mk (below_step HB.out hb); have n3_ := Aside0.mk (hbox); have n4_ := Aside0.mk ((by rw [hg]; exact (below_size HB.out) : w.heap.size ≤ gb76003)); have n5_ := Aside0.mk ((by rw [hg]; exact (below_size HB.out) : w.heap.size ≤ gb76003)); have n6_ := Aside0.mk ((by rw [hg]; exact Nat.ne_of_lt (blk_lt BK76001.out) : gb76001 ≠ gb76003)); have n7_ := Aside0.mk ((by rw [hg]; exact Nat.ne_of_gt (blk_lt BK76001.out) : gb76003 ≠ gb76001)); have n8_ := Aside0.mk ((by rw [hg]; exact Nat.ne_of_lt (blk_lt BK76002.out) : gb76002 ≠ gb76003)); have n9_ := Aside0.mk ((by rw [hg]; exact Nat.ne_of_gt (blk_lt BK76002.out) : gb76003 ≠ gb76002)); clear BK76001; clear BK76002; clear HB; have BK76001 := n0_; have BK76002 := n1_; have HB := n2_; have BK76003 := n3_; have GW76003 := n4_; have GE76003 := n5_; have NB76001_76003 := n6_; have NB76003_76001 := n7_; have NB76002_76003 := n8_; have NB76003_76002 := n9_; clear n0_ n1_ n2_ n3_ n4_ n5_ n6_ n7_ n8_ n9_; clear hb hbox hg; have hnb27 := NB76001_76002.out; have hnc27 := NB76002_76001.out; have hnb28 := NB76001_76003.out; have hnc28 := NB76003_76001.out; have hcz29_0 : w26.cell? ⟨gb76001, 0, none⟩ = some (.int .i64 a0_0) := (blk_cell BK76001.out 0).trans rfl; have hcz29_1 : w26.cell? ⟨gb76001, 1, none⟩ = some (.int .i64 a0_1) := (blk_cell BK76001.out 1).trans rfl; have hcz29_2 : w26.cell? ⟨gb76001, 2, none⟩ = some (.int .i64 a0_2) := (blk_cell BK76001.out 2).trans rfl; have hcz29_3 : w26.cell? ⟨gb76001, 3, none⟩ = some (.slice A0_3 l0_3.length c0_3) := (blk_cell BK76001.out 3).trans rfl; have hfz29_0 := blk_frozen BK76001.out 0; have hfz29_1 := blk_frozen BK76001.out 1; have hfz29_2 := blk_frozen BK76001.out 2; have hfz29_3 := blk_frozen BK76001.out 3) | ((with_reducible refine gate_callee (f := 39) rfl ?_); refine goesL_ (some 7) rfl rfl Try.func39 (by kernel_rfl) rfl #[.agg #[.int .i64 a0_0, .int .i64 a0_1, .int .i64 a0_2, .slice A0_3 l0_3.length c0_3]] rfl (by (try simp only [List.map_toArray, List.map_cons, List.map_nil]); rfl) ?_; (with_reducible refine (spec_validImage.calls k a0_0 a0_1 a0_2 _ _ l0_3 true _ ?side1 ?side2 A3.out).mono ?_); (case side1 => repeat (exact (Kd.C_below HR0_3.out HB.out))); (case side2 => exact HC0_3.out); rintro e w30 ⟨rfl, hb⟩; refine ⟨_, rfl, ?_⟩; have n0_ := Aside0.mk (blk_below BK76001.out hb); have n1_ := Aside0.mk (blk_below BK76002.out hb); have n2_ := Aside0.mk (blk_below BK76003.out hb); have n3_ := Aside0.mk (below_step HB.out hb); clear BK76001; clear BK76002; clear BK76003; clear HB; have BK76001 := n0_; have BK76002 := n1_; have BK76003 := n2_; have HB := n3_; clear n0_ n1_ n2_ n3_; (try clear hb); have hcz31_0 : w30.cell? ⟨gb76001, 0, none⟩ = some (.int .i64 a0_0) := (blk_cell BK76001.out 0).trans rfl; have hcz31_1 : w30.cell? ⟨gb76001, 1, none⟩ = some (.int .i64 a0_1) := (blk_cell BK76001.out 1).trans rfl; have hcz31_2 : w30.cell? ⟨gb76001, 2, none⟩ = some (.int .i64 a0_2) := (blk_cell BK76001.out 2).trans rfl; have hcz31_3 : w30.cell? ⟨gb76001, 3, none⟩ = some (.slice A0_3 l0_3.length c0_3) := (blk_cell BK76001.out 3).trans rfl; have hfz31_0 := blk_frozen BK76001.out 0; have hfz31_1 := blk_frozen BK76001.out 1; have hfz31_2 := blk_frozen BK76001.out 2; have hfz31_3 := blk_frozen BK76001.out 3; have hnb32 := NB76002_76003.out; have hnc32 := NB76003_76002.out; have hcz33_0 : w30.cell? ⟨gb76002, 0, none⟩ = some (.int .i64 a1_0) := (blk_cell BK76002.out 0).trans rfl; have hcz33_1 : w30.cell? ⟨gb76002, 1, none⟩ = some (.int .i64 a1_1) := (blk_cell BK76002.out 1).trans rfl; have hcz33_2 : w30.cell? ⟨gb76002, 2, none⟩ = some (.int .i64 a1_2) := (blk_cell BK76002.out 2).trans rfl; have hcz33_3 : w30.cell? ⟨gb76002, 3, none⟩ = some (.int .i64 a1_3) := (blk_cell BK76002.out 3).trans rfl; have hfz33_0 := blk_frozen BK76002.out 0; have hfz33_1 := blk_frozen BK76002.out 1; have hfz33_2 := blk_frozen BK76002.out 2; have hfz33_3 := blk_frozen BK76002.out 3) | (go_at_call 76; (with_reducible refine (spec_validBox.calls a0_0 a0_1 a0_2 _ _ l0_3 a1_0 a1_1 a1_2 a1_3 false _ ?side1 ?side2 A5.out).mono ?_); (case side1 => repeat (exact (Kd.C_below HR0_3.out HB.out))); (case side2 => exact HC0_3.out); rintro e w34 ⟨rfl, hb⟩; have n0_ := Aside0.mk (blk_below BK76001.out hb); have n1_ := Aside0.mk (blk_below BK76002.out hb); have n2_ := Aside0.mk (blk_below BK76003.out hb); have n3_ := Aside0.mk (below_step HB.out hb); clear BK76001; clear BK76002; clear BK76003; clear HB; have BK76001 := n0_; have BK76002 := n1_; have BK76003 := n2_; have HB := n3_; clear n0_ n1_ n2_ n3_; (try clear hb); have hcz35_0 : w34.cell? ⟨gb76003, 0, none⟩ = some (.int .i64 0) := (blk_cell BK76003.out 0).trans rfl; have hcz35_1 : w34.cell? ⟨gb76003, 1, none⟩ = some (.int .i64 0) := (blk_cell BK76003.out 1).trans rfl; have hcz35_2 : w34.cell? ⟨gb76003, 2, none⟩ = some (.int .i64 0) := (blk_cell BK76003.out 2).trans rfl; have hcz35_3 : w34.cell? ⟨gb76003, 3, none⟩ = some (.slice none 0 0) := (blk_cell BK76003.out 3).trans rfl; have hfz35_0 := blk_frozen BK76003.out 0; have hfz35_1 := blk_frozen BK76003.out 1; have hfz35_2 := blk_frozen BK76003.out 2; have hfz35_3 := blk_frozen BK76003.out 3))
      refine bodyPost_ret (results_ct rfl _ _ gb76003 28 #[.int .i64 0, .int .i64 0, .int .i64 0, .slice none 0 0] (0, 0) _ rfl (by refine blk_put (cs := #[.int .i64 0, .int .i64 0, .int .i64 0, .slice none 0 0]) ?_ 3 _ rfl; (with_reducible repeat (first | refine blk_drewN ?_ _ | refine blk_drew ?_ | refine blk_alloc ?_ _)); refine blk_put (cs := #[.int .i64 0, .int .i64 0, .int .i64 0, .slice none 0 0]) ?_ 2 _ rfl; (with_reducible repeat (first | refine blk_drewN ?_ _ | refine blk_drew ?_ | refine blk_alloc ?_ _)); refine blk_put (cs := #[.int .i64 0, .int .i64 0, .int .i64 0, .slice none 0 0]) ?_ 1 _ rfl; (with_reducible repeat (first | refine blk_drewN ?_ _ | refine blk_drew ?_ | refine blk_alloc ?_ _)); refine blk_put (cs := #[.int .i64 0, .int .i64 0, .int .i64 0, .slice none 0 0]) ?_ 0 _ rfl; (with_reducible repeat (first | refine blk_drewN ?_ _ | refine blk_drew ?_ | refine blk_alloc ?_ _)); exact BK76003.out) Try.underlying28 rfl (by kernel_rfl)) rfl ?_
      exact ⟨_, by rfl, by exact Kd.R_nil _ _ _ _ _, by repeat (with_reducible first | exact HB.out | refine below_set ?_ GE76003.out)⟩
  · replace c4 := Bool.eq_false_iff.mpr c4
    subst c4
    have H1 : (some (0, 0, 0, ([] : List Int), false)) = some (r1, r2, r3, r4, r5) := by rw [if_neg (show ¬ (false = true) by decide)] at H; exact H
    clear H
    have H := H1
    clear H1
    simp only [Option.some.injEq, Prod.mk.injEq] at H
    obtain ⟨rfl, rfl, rfl, rfl, rfl⟩ := H
    go_enter Try.func75, Try.ntmps75
    go_wp2_with (first | ((with_reducible refine gate_dst (N := 2) rfl ?_); refine box_event ?hg (N := 2) ?hd (cs := #[.int .i64 a0_0, .int .i64 a0_1, .int .i64 a0_2, .slice A0_3 l0_3.length c0_3]) (t := 28) ?hr ?_; (case hd => rfl); (case hg => rfl); (case hr => (go_simp; done)); intro gb76001 hg w36 hbox hb; have n0_ := Aside0.mk (below_step HB.out hb); have n1_ := Aside0.mk (hbox); have n2_ := Aside0.mk ((by rw [hg]; exact (below_size HB.out) : w.heap.size ≤ gb76001)); have n3_ := Aside0.mk ((by rw [hg]; exact (below_size HB.out) : w.heap.size ≤ gb76001)); clear HB; have HB := n0_; have BK76001 := n1_; have GW76001 := n2_; have GE76001 := n3_; clear n0_ n1_ n2_ n3_; clear hb hbox hg) | ((with_reducible refine gate_dst (N := 3) rfl ?_); refine box_event ?hg (N := 3) ?hd (cs := #[.int .i64 a1_0, .int .i64 a1_1, .int .i64 a1_2, .int .i64 a1_3]) (t := 41) ?hr ?_; (case hd => rfl); (case hg => rfl); (case hr => (go_simp; done)); intro gb76002 hg w37 hbox hb; have n0_ := Aside0.mk (blk_below BK76001.out hb); have n1_ := Aside0.mk (below_step HB.out hb); have n2_ := Aside0.mk (hbox); have n3_ := Aside0.mk ((by rw [hg]; exact (below_size HB.out) : w.heap.size ≤ gb76002)); have n4_ := Aside0.mk ((by rw [hg]; exact (below_size HB.out) : w.heap.size ≤ gb76002)); have n5_ := Aside0.mk ((by rw [hg]; exact Nat.ne_of_lt (blk_lt BK76001.out) : gb76001 ≠ gb76002)); have n6_ := Aside0.mk ((by rw [hg]; exact Nat.ne_of_gt (blk_lt BK76001.out) : gb76002 ≠ gb76001)); clear BK76001; clear HB; have BK76001 := n0_; have HB := n1_; have BK76002 := n2_; have GW76002 := n3_; have GE76002 := n4_; have NB76001_76002 := n5_; have NB76002_76001 := n6_; clear n0_ n1_ n2_ n3_ n4_ n5_ n6_; clear hb hbox hg) | ((with_reducible refine gate_dst (N := 4) rfl ?_); refine box_event ?hg (N := 4) ?hd (cs := #[.int .i64 0, .int .i64 0, .int .i64 0, .slice none 0 0]) (t := 28) ?hr ?_; (case hd => rfl); (case hg => rfl); (case hr => (go_simp; done)); intro gb76003 hg w38 hbox hb; have n0_ := Aside0.mk (blk_below BK76001.out hb); have n1_ := Aside0.mk (blk_below BK76002.out hb); have n2_ := Aside0.mk (below_step HB.out hb); have n3_ := Aside0.mk (hbox); have n4_ := Aside0.mk ((by rw [hg]; exact (below_size HB.out) : w.heap.size ≤ gb76003)); have n5_ := Aside0.mk ((by rw [hg]; exact (below_size HB.out) : w.heap.size ≤ gb76003)); have n6_ := Aside0.mk ((by rw [hg]; exact Nat.ne_of_lt (blk_lt BK76001.out) : gb76001 ≠ gb76003)); have n7_ := Aside0.mk ((by rw [hg]; exact Nat.ne_of_gt (blk_lt BK76001.out) : gb76003 ≠ gb76001)); have n8_ := Aside0.mk ((by rw [hg]; exact Nat.ne_of_lt (blk_lt BK76002.out) : gb76002 ≠ gb76003)); have n9_ := Aside0.mk ((by rw [hg]; exact Nat.ne_of_gt (blk_lt BK76002.out) : gb76003 ≠ gb76002)); clear BK76001; clear BK76002; clear HB; have BK76001 := n0_; have BK76002 := n1_; have HB := n2_; have BK76003 := n3_; have GW76003 := n4_; have GE76003 := n5_; have NB76001_76003 := n6_; have NB76003_76001 := n7_; have NB76002_76003 := n8_; have NB76003_76002 := n9_; clear n0_ n1_ n2_ n3_ n4_ n5_ n6_ n7_ n8_ n9_; clear hb hbox hg; have hnb39 := NB76001_76002.out; have hnc39 := NB76002_76001.out; have hnb40 := NB76001_76003.out; have hnc40 := NB76003_76001.out; have hcz41_0 : w38.cell? ⟨gb76001, 0, none⟩ = some (.int .i64 a0_0) := (blk_cell BK76001.out 0).trans rfl; have hcz41_1 : w38.cell? ⟨gb76001, 1, none⟩ = some (.int .i64 a0_1) := (blk_cell BK76001.out 1).trans rfl; have hcz41_2 : w38.cell? ⟨gb76001, 2, none⟩ = some (.int .i64 a0_2) := (blk_cell BK76001.out 2).trans rfl; have hcz41_3 : w38.cell? ⟨gb76001, 3, none⟩ = some (.slice A0_3 l0_3.length c0_3) := (blk_cell BK76001.out 3).trans rfl; have hfz41_0 := blk_frozen BK76001.out 0; have hfz41_1 := blk_frozen BK76001.out 1; have hfz41_2 := blk_frozen BK76001.out 2; have hfz41_3 := blk_frozen BK76001.out 3) | ((with_reducible refine gate_callee (f := 39) rfl ?_); refine goesL_ (some 7) rfl rfl Try.func39 (by kernel_rfl) rfl #[.agg #[.int .i64 a0_0, .int .i64 a0_1, .int .i64 a0_2, .slice A0_3 l0_3.length c0_3]] rfl (by (try simp only [List.map_toArray, List.map_cons, List.map_nil]); rfl) ?_; (with_reducible refine (spec_validImage.calls k a0_0 a0_1 a0_2 _ _ l0_3 false _ ?side1 ?side2 A3.out).mono ?_); (case side1 => repeat (exact (Kd.C_below HR0_3.out HB.out))); (case side2 => exact HC0_3.out); rintro e w42 ⟨rfl, hb⟩; refine ⟨_, rfl, ?_⟩; have n0_ := Aside0.mk (blk_below BK76001.out hb); have n1_ := Aside0.mk (blk_below BK76002.out hb); have n2_ := Aside0.mk (blk_below BK76003.out hb); have n3_ := Aside0.mk (below_step HB.out hb); clear BK76001; clear BK76002; clear BK76003; clear HB; have BK76001 := n0_; have BK76002 := n1_; have BK76003 := n2_; have HB := n3_; clear n0_ n1_ n2_ n3_; (try clear hb); have hnb43 := NB76003_76002.out; have hnc43 := NB76002_76003.out; have hcz44_0 : w42.cell? ⟨gb76003, 0, none⟩ = some (.int .i64 0) := (blk_cell BK76003.out 0).trans rfl; have hcz44_1 : w42.cell? ⟨gb76003, 1, none⟩ = some (.int .i64 0) := (blk_cell BK76003.out 1).trans rfl; have hcz44_2 : w42.cell? ⟨gb76003, 2, none⟩ = some (.int .i64 0) := (blk_cell BK76003.out 2).trans rfl; have hcz44_3 : w42.cell? ⟨gb76003, 3, none⟩ = some (.slice none 0 0) := (blk_cell BK76003.out 3).trans rfl; have hfz44_0 := blk_frozen BK76003.out 0; have hfz44_1 := blk_frozen BK76003.out 1; have hfz44_2 := blk_frozen BK76003.out 2; have hfz44_3 := blk_frozen BK76003.out 3))
    refine bodyPost_ret (results_ct rfl _ _ gb76003 28 #[.int .i64 0, .int .i64 0, .int .i64 0, .slice none 0 0] (0, 0) _ rfl (by refine blk_put (cs := #[.int .i64 0, .int .i64 0, .int .i64 0, .slice none 0 0]) ?_ 3 _ rfl; (with_reducible repeat (first | refine blk_drewN ?_ _ | refine blk_drew ?_ | refine blk_alloc ?_ _)); refine blk_put (cs := #[.int .i64 0, .int .i64 0, .int .i64 0, .slice none 0 0]) ?_ 2 _ rfl; (with_reducible repeat (first | refine blk_drewN ?_ _ | refine blk_drew ?_ | refine blk_alloc ?_ _)); refine blk_put (cs := #[.int .i64 0, .int .i64 0, .int .i64 0, .slice none 0 0]) ?_ 1 _ rfl; (with_reducible repeat (first | refine blk_drewN ?_ _ | refine blk_drew ?_ | refine blk_alloc ?_ _)); refine blk_put (cs := #[.int .i64 0, .int .i64 0, .int .i64 0, .slice none 0 0]) ?_ 0 _ rfl; (with_reducible repeat (first | refine blk_drewN ?_ _ | refine blk_drew ?_ | refine blk_alloc ?_ _)); exact BK76003.out) Try.underlying28 rfl (by kernel_rfl)) rfl ?_
    exact ⟨_, by rfl, by exact Kd.R_nil _ _ _ _ _, by repeat (with_reducible first | exact HB.out | refine below_set ?_ GE76003.out)⟩


def spec_onImage.f (a0_0 : Int) (a0_1 : Int) (a0_2 : Int) (l0_3 : List Int) (a1 : Int) (a2 : Int) : Option (Bool) := (spec_inRange.f a1 0 (wrap64 (a0_0 - 1))).bind fun t99002 => (if t99002 = true then ((spec_inRange.f a2 0 (wrap64 (a0_1 - 1))).bind fun t99003 => (some t99003)) else (some false))
set_option maxHeartbeats 8000000 in
set_option maxRecDepth 100000 in
theorem spec_onImage.calls (a0_0 : Int) (a0_1 : Int) (a0_2 : Int) (A0_3 : Option Addr) (c0_3 : Nat) (l0_3 : List Int) (a1 : Int) (a2 : Int) (r : Bool) (w : World) (hr0_3 : Kd.C (Kd.int .i64) w A0_3 l0_3.length l0_3) (hc0_3 : l0_3.length ≤ c0_3) (h : spec_onImage.f a0_0 a0_1 a0_2 l0_3 a1 a2 = some r) :
    Calls Try.prog 98 #[.agg #[.int .i64 a0_0, .int .i64 a0_1, .int .i64 a0_2, .slice A0_3 l0_3.length c0_3], .int .i64 a1, .int .i64 a2] w fun e w' => e = .returned (.bool r) ∧ Below w.heap.size w w' := by
  have hu28 := Try.underlying28
  have HR0_3 := Aside0.mk hr0_3
  have HC0_3 := Aside0.mk hc0_3
  clear hr0_3 hc0_3
  have HB := Aside0.mk (Below.refl w.heap.size w)
  have H : ((spec_inRange.f a1 0 (wrap64 (a0_0 - 1))).bind fun t99002 => (if t99002 = true then ((spec_inRange.f a2 0 (wrap64 (a0_1 - 1))).bind fun t99003 => (some t99003)) else (some false))) = some r := h
  clear h
  replace H := Option.bind_eq_some_iff.mp H
  obtain ⟨t99002, A40, H⟩ := H
  replace H : (if t99002 = true then ((spec_inRange.f a2 0 (wrap64 (a0_1 - 1))).bind fun t99003 => (some t99003)) else (some false)) = some r := H
  have A4 := Aside0.mk A40
  clear A40
  by_cases c5 : t99002 = true
  · subst c5
    have H1 : ((spec_inRange.f a2 0 (wrap64 (a0_1 - 1))).bind fun t99003 => (some t99003)) = some r := by rw [if_pos rfl] at H; exact H
    clear H
    have H := H1
    clear H1
    replace H := Option.bind_eq_some_iff.mp H
    obtain ⟨t99003, A60, H⟩ := H
    replace H : (some t99003) = some r := H
    have A6 := Aside0.mk A60
    clear A60
    obtain rfl := Option.some.inj H
    go_enter Try.func98, Try.ntmps98
    go_wp2_with (first | ((with_reducible refine gate_dst (N := 3) rfl ?_); refine box_event ?hg (N := 3) ?hd (cs := #[.int .i64 a0_0, .int .i64 a0_1, .int .i64 a0_2, .slice A0_3 l0_3.length c0_3]) (t := 28) ?hr ?_; (case hd => rfl); (case hg => rfl); (case hr => first | (go_simp; done) | (go_simp; rfl)); intro gb99001 hg w7 hbox hb; have n0_ := Aside0.mk (below_step (by repeat (first | (with_reducible first | exact HB.out | apply below_alloc | apply pw_below_drewN | apply below_drew1) | exact HB.out)) hb); have n1_ := Aside0.mk (hbox); have n2_ := Aside0.mk ((by rw [hg]; exact (below_size (by repeat (first | (with_reducible first | exact HB.out | apply below_alloc | apply pw_below_drewN | apply below_drew1) | exact HB.out))) : w.heap.size ≤ gb99001)); have n3_ := Aside0.mk ((by rw [hg]; exact (below_size (by repeat (first | (with_reducible first | exact HB.out | apply below_alloc | apply pw_below_drewN | apply below_drew1) | exact HB.out))) : w.heap.size ≤ gb99001)); clear HB; have HB := n0_; have BK99001 := n1_; have GW99001 := n2_; have GE99001 := n3_; clear n0_ n1_ n2_ n3_; clear hb hbox hg; have hcz8_0 : w7.cell? ⟨gb99001, 0, none⟩ = some (.int .i64 a0_0) := (blk_cell BK99001.out 0).trans rfl; have hcz8_1 : w7.cell? ⟨gb99001, 1, none⟩ = some (.int .i64 a0_1) := (blk_cell BK99001.out 1).trans rfl; have hcz8_2 : w7.cell? ⟨gb99001, 2, none⟩ = some (.int .i64 a0_2) := (blk_cell BK99001.out 2).trans rfl; have hcz8_3 : w7.cell? ⟨gb99001, 3, none⟩ = some (.slice A0_3 l0_3.length c0_3) := (blk_cell BK99001.out 3).trans rfl; have hfz8_0 := blk_frozen BK99001.out 0; have hfz8_1 := blk_frozen BK99001.out 1; have hfz8_2 := blk_frozen BK99001.out 2; have hfz8_3 := blk_frozen BK99001.out 3) | ((with_reducible refine gate_callee (f := 93) rfl ?_); refine goesL_ (some 11) rfl rfl Try.func93 (by kernel_rfl) rfl #[.int .i64 a1, .int .i64 0, .int .i64 (wrap64 (a0_0 - 1))] rfl (by (try simp only [List.map_toArray, List.map_cons, List.map_nil]); first | done | rfl | (simp only [List.length_drop, List.length_take]; rfl)) ?_; (with_reducible refine (spec_inRange.calls a1 0 (wrap64 (a0_0 - 1)) true _ A4.out).mono ?_); rintro e w' ⟨rfl, ⟨nd, rfl⟩⟩; refine ⟨_, rfl, ?_⟩) | (go_at_call 93; (with_reducible refine (spec_inRange.calls a2 0 (wrap64 (a0_1 - 1)) t99003 _ A6.out).mono ?_); rintro e w' ⟨rfl, ⟨nd, rfl⟩⟩))
    go_ret
    exact ⟨by first | rfl | (simp [errW_none, errW_some] <;> rfl) | (simp [*, errW_none, errW_some] <;> rfl), by repeat (first | (with_reducible first | exact HB.out | apply below_alloc | apply pw_below_drewN | apply below_drew1 | refine below_set ?_ GE99001.out) | exact HB.out)⟩
  · replace c5 := Bool.eq_false_iff.mpr c5
    subst c5
    have H1 : (some false) = some r := by rw [if_neg (show ¬ (false = true) by decide)] at H; exact H
    clear H
    have H := H1
    clear H1
    obtain rfl := Option.some.inj H
    go_enter Try.func98, Try.ntmps98
    go_wp2_with (first | ((with_reducible refine gate_dst (N := 3) rfl ?_); refine box_event ?hg (N := 3) ?hd (cs := #[.int .i64 a0_0, .int .i64 a0_1, .int .i64 a0_2, .slice A0_3 l0_3.length c0_3]) (t := 28) ?hr ?_; (case hd => rfl); (case hg => rfl); (case hr => first | (go_simp; done) | (go_simp; rfl)); intro gb99001 hg w9 hbox hb; have n0_ := Aside0.mk (below_step (by repeat (first | (with_reducible first | exact HB.out | apply below_alloc | apply pw_below_drewN | apply below_drew1) | exact HB.out)) hb); have n1_ := Aside0.mk (hbox); have n2_ := Aside0.mk ((by rw [hg]; exact (below_size (by repeat (first | (with_reducible first | exact HB.out | apply below_alloc | apply pw_below_drewN | apply below_drew1) | exact HB.out))) : w.heap.size ≤ gb99001)); have n3_ := Aside0.mk ((by rw [hg]; exact (below_size (by repeat (first | (with_reducible first | exact HB.out | apply below_alloc | apply pw_below_drewN | apply below_drew1) | exact HB.out))) : w.heap.size ≤ gb99001)); clear HB; have HB := n0_; have BK99001 := n1_; have GW99001 := n2_; have GE99001 := n3_; clear n0_ n1_ n2_ n3_; clear hb hbox hg; have hcz10_0 : w9.cell? ⟨gb99001, 0, none⟩ = some (.int .i64 a0_0) := (blk_cell BK99001.out 0).trans rfl; have hcz10_1 : w9.cell? ⟨gb99001, 1, none⟩ = some (.int .i64 a0_1) := (blk_cell BK99001.out 1).trans rfl; have hcz10_2 : w9.cell? ⟨gb99001, 2, none⟩ = some (.int .i64 a0_2) := (blk_cell BK99001.out 2).trans rfl; have hcz10_3 : w9.cell? ⟨gb99001, 3, none⟩ = some (.slice A0_3 l0_3.length c0_3) := (blk_cell BK99001.out 3).trans rfl; have hfz10_0 := blk_frozen BK99001.out 0; have hfz10_1 := blk_frozen BK99001.out 1; have hfz10_2 := blk_frozen BK99001.out 2; have hfz10_3 := blk_frozen BK99001.out 3) | ((with_reducible refine gate_callee (f := 93) rfl ?_); refine goesL_ (some 11) rfl rfl Try.func93 (by kernel_rfl) rfl #[.int .i64 a1, .int .i64 0, .int .i64 (wrap64 (a0_0 - 1))] rfl (by (try simp only [List.map_toArray, List.map_cons, List.map_nil]); first | done | rfl | (simp only [List.length_drop, List.length_take]; rfl)) ?_; (with_reducible refine (spec_inRange.calls a1 0 (wrap64 (a0_0 - 1)) false _ A4.out).mono ?_); rintro e w' ⟨rfl, ⟨nd, rfl⟩⟩; refine ⟨_, rfl, ?_⟩))
    go_ret
    exact ⟨by first | rfl | (simp [errW_none, errW_some] <;> rfl) | (simp [*, errW_none, errW_some] <;> rfl), by repeat (first | (with_reducible first | exact HB.out | apply below_alloc | apply pw_below_drewN | apply below_drew1 | refine below_set ?_ GE99001.out) | exact HB.out)⟩


mutual
def spec_paste.l0 : Nat → Int → Int → Int → Int → Int → Int → List Int → Int → Int → Int → List Int → Option (List Int)
  | 0, _, _, _, _, _, _, _, _, _, _, _ => none
  | k + 1, x1, x2, x8, x78002000, x78002001, x78002002, x78002003, x78003000, x78003001, x78003002, x78003003 => if x8 < x78003001 then (spec_paste.l1 k x1 x2 x8 0 x78002000 x78002001 x78002002 x78002003 x78003000 x78003001 x78003002 x78003003) else (some x78002003)
def spec_paste.l1 : Nat → Int → Int → Int → Int → Int → Int → Int → List Int → Int → Int → Int → List Int → Option (List Int)
  | 0, _, _, _, _, _, _, _, _, _, _, _, _ => none
  | k + 1, x1, x2, x8, x9, x78002000, x78002001, x78002002, x78002003, x78003000, x78003001, x78003002, x78003003 => if x9 < x78003000 then ((spec_onImage.f x78002000 x78002001 x78002002 x78002003 (wrap64 (x1 + x9)) (wrap64 (x2 + x8))).bind fun t78003 => (if t78003 = true then ((spec_pixelAt.f x78003000 x78003001 x78003002 x78003003 x9 x8).bind fun t78004 => ((spec_setPixel.f k x78002000 x78002001 x78002002 x78002003 (wrap64 (x1 + x9)) (wrap64 (x2 + x8)) t78004).bind fun t78007 => (spec_paste.l1 k x1 x2 x8 (wrap64 (x9 + 1)) x78002000 x78002001 x78002002 t78007 x78003000 x78003001 x78003002 x78003003))) else (spec_paste.l1 k x1 x2 x8 (wrap64 (x9 + 1)) x78002000 x78002001 x78002002 x78002003 x78003000 x78003001 x78003002 x78003003))) else (spec_paste.l0 k x1 x2 (wrap64 (x8 + 1)) x78002000 x78002001 x78002002 x78002003 x78003000 x78003001 x78003002 x78003003)
end
def spec_paste.f (k : Nat) (a0_0 : Int) (a0_1 : Int) (a0_2 : Int) (l0_3 : List Int) (a1 : Int) (a2 : Int) (a3_0 : Int) (a3_1 : Int) (a3_2 : Int) (l3_3 : List Int) : Option (List Int) := spec_paste.l0 k a1 a2 0 a0_0 a0_1 a0_2 l0_3 a3_0 a3_1 a3_2 l3_3
theorem spec_paste.mono_l : ∀ k, (∀ y0 y1 y2 y3 y4 y5 y6 y7 y8 y9 y10, LeO (spec_paste.l0 k y0 y1 y2 y3 y4 y5 y6 y7 y8 y9 y10) (spec_paste.l0 (k + 1) y0 y1 y2 y3 y4 y5 y6 y7 y8 y9 y10)) ∧ (∀ y0 y1 y2 y3 y4 y5 y6 y7 y8 y9 y10 y11, LeO (spec_paste.l1 k y0 y1 y2 y3 y4 y5 y6 y7 y8 y9 y10 y11) (spec_paste.l1 (k + 1) y0 y1 y2 y3 y4 y5 y6 y7 y8 y9 y10 y11))
  | 0 => ⟨fun _ _ _ _ _ _ _ _ _ _ _ r h => by simp [spec_paste.l0] at h, fun _ _ _ _ _ _ _ _ _ _ _ _ r h => by simp [spec_paste.l1] at h⟩
  | k + 1 => by
    obtain ⟨ih0, ih1⟩ := spec_paste.mono_l k
    refine ⟨?_, ?_⟩
    · intro y0 y1 y2 y3 y4 y5 y6 y7 y8 y9 y10
      unfold spec_paste.l0
      repeat' first | (with_reducible exact ih1 _ _ _ _ _ _ _ _ _ _ _ _) | (with_reducible exact LeO.refl _) | (with_reducible refine LeO.ite ?_ ?_)
    · intro y0 y1 y2 y3 y4 y5 y6 y7 y8 y9 y10 y11
      unfold spec_paste.l1
      repeat' first | (with_reducible exact ih0 _ _ _ _ _ _ _ _ _ _ _) | (with_reducible exact ih1 _ _ _ _ _ _ _ _ _ _ _ _) | (with_reducible exact spec_setPixel.mono _ _ _ _ _ _ _ _) | (with_reducible exact LeO.refl _) | (with_reducible refine LeO.ite ?_ ?_) | (with_reducible refine LeO.bind ?_ (fun _ => ?_))
theorem spec_paste.mono : ∀ a0 a1 a2 a3 a4 a5 a6 a7 a8 a9 k, LeO (spec_paste.f k a0 a1 a2 a3 a4 a5 a6 a7 a8 a9) (spec_paste.f (k + 1) a0 a1 a2 a3 a4 a5 a6 a7 a8 a9) := by
  intro a0 a1 a2 a3 a4 a5 a6 a7 a8 a9 k
  obtain ⟨ih0, ih1⟩ := spec_paste.mono_l k
  unfold spec_paste.f
  repeat' (with_reducible exact ih0 _ _ _ _ _ _ _ _ _ _ _)
def spec_paste.T8 : Bool × List (List Nat × List Nat) := (true, [([], []), ([], []), ([], []), ([1, 2], [1, 2]), ([], []), ([], []), ([4, 5], [4, 5]), ([], []), ([], []), ([], []), ([7, 8, 9], [7, 8, 9]), ([0, 3, 6, 10, 10], [0, 3, 6, 10])])
def spec_paste.B8 : List Nat := [0, 0, 0, 6, 0, 0, 48, 0, 0, 0, 896, 2047]
theorem spec_paste.tab8 : rtab .any (opsOf Try.f77 8) = spec_paste.T8 := by kernel_rfl
theorem spec_paste.bits8 : waitsOk spec_paste.T8.2 spec_paste.B8 = true := by kernel_rfl
set_option maxHeartbeats 8000000 in
set_option maxRecDepth 100000 in
theorem spec_paste.calls (k : Nat) (a0_0 : Int) (a0_1 : Int) (a0_2 : Int) (P0_3_ : Nat → Prop) (u9000_ : Value) (l0_3 : List Int) (a1 : Int) (a2 : Int) (a3_0 : Int) (a3_1 : Int) (a3_2 : Int) (A3_3 : Option Addr) (c3_3 : Nat) (l3_3 : List Int) (r : List Int) (w0 w : World) (hB : Below w0.heap.size w0 w) (ho0_3 : Kd.R (Kd.int .i64) 3 w w0.heap.size P0_3_ u9000_ l0_3) (hr3_3 : ∀ W_, Kept w W_ (fun k_ => P0_3_ k_) → Kd.C (Kd.int .i64) W_ A3_3 l3_3.length l3_3) (hc3_3 : l3_3.length ≤ c3_3) (h : spec_paste.f k a0_0 a0_1 a0_2 l0_3 a1 a2 a3_0 a3_1 a3_2 l3_3 = some r) :
    Calls Try.prog 77 #[.agg #[.int .i64 a0_0, .int .i64 a0_1, .int .i64 a0_2, u9000_], .int .i64 a1, .int .i64 a2, .agg #[.int .i64 a3_0, .int .i64 a3_1, .int .i64 a3_2, .slice A3_3 l3_3.length c3_3]] w fun e w' => e = .returned (.tuple #[]) ∧ Kd.R (Kd.int .i64) 3 w' w0.heap.size (fun k_ => (P0_3_ k_ ∨ w.heap.size ≤ k_)) u9000_ r ∧ Below w0.heap.size w0 w' ∧ Kept w w' (fun k_ => P0_3_ k_) := by
  have hu28 := Try.underlying28
  have HO0_3 := Aside0.mk (show Kd.R (Kd.int .i64) 3 w w0.heap.size (fun k_ => (P0_3_ k_ ∨ w.heap.size ≤ k_)) u9000_ l0_3 from Kd.R_mono ho0_3 (fun k_ hk => (.inl hk)))
  have HR3_3 := Aside0.mk hr3_3
  have HC3_3 := Aside0.mk hc3_3
  clear hr3_3 hc3_3
  have HK := Aside0.mk (Kept.refl w (fun k_ => P0_3_ k_))
  have HW0 := Aside0.mk hB.size
  have HB := Aside0.mk hB
  clear hB
  have H : (spec_paste.l0 k a1 a2 0 a0_0 a0_1 a0_2 l0_3 a3_0 a3_1 a3_2 l3_3) = some r := h
  clear h
  have H' := Aside0.mk H
  clear H
  obtain ⟨Ao5, co5, eo5⟩ := Kd.R_slice HO0_3.out
  subst eo5
  go_enter Try.func77, Try.ntmps77
  go_wp2_with (first | ((with_reducible refine gate_dst (N := 4) rfl ?_); refine box_event ?hg (N := 4) ?hd (cs := #[.int .i64 a0_0, .int .i64 a0_1, .int .i64 a0_2, .slice Ao5 l0_3.length co5]) (t := 28) ?hr ?_; (case hd => rfl); (case hg => rfl); (case hr => (go_simp; done)); intro gb78001 hg w6 hbox hb; have n0_ := Aside0.mk (Kd.R_below HO0_3.out hb); have n1_ := Aside0.mk (Kept.below (S := (fun k_ => P0_3_ k_)) HK.out hb); have n2_ := Aside0.mk (below_step HB.out hb); have n3_ := Aside0.mk (hbox); have n4_ := Aside0.mk (by rw [hg]; exact HK.out.1 : w.heap.size ≤ gb78001); have n5_ := Aside0.mk ((by rw [hg]; exact (below_size HB.out) : w0.heap.size ≤ gb78001)); clear HO0_3; clear HK; clear HB; have HO0_3 := n0_; have HK := n1_; have HB := n2_; have BK78001 := n3_; have GW78001 := n4_; have GE78001 := n5_; clear n0_ n1_ n2_ n3_ n4_ n5_; clear hb hbox hg) | ((with_reducible refine gate_dst (N := 7) rfl ?_); refine box_event ?hg (N := 7) ?hd (cs := #[.int .i64 a3_0, .int .i64 a3_1, .int .i64 a3_2, .slice A3_3 l3_3.length c3_3]) (t := 28) ?hr ?_; (case hd => rfl); (case hg => rfl); (case hr => (go_simp; done)); intro gb78002 hg w7 hbox hb; have n0_ := Aside0.mk (Kd.R_below HO0_3.out hb); have n1_ := Aside0.mk (blk_below BK78001.out hb); have n2_ := Aside0.mk (Kept.below (S := (fun k_ => P0_3_ k_)) HK.out hb); have n3_ := Aside0.mk (below_step HB.out hb); have n4_ := Aside0.mk (hbox); have n5_ := Aside0.mk (by rw [hg]; exact HK.out.1 : w.heap.size ≤ gb78002); have n6_ := Aside0.mk ((by rw [hg]; exact (below_size HB.out) : w0.heap.size ≤ gb78002)); have n7_ := Aside0.mk ((by rw [hg]; exact Nat.ne_of_lt (blk_lt BK78001.out) : gb78001 ≠ gb78002)); have n8_ := Aside0.mk ((by rw [hg]; exact Nat.ne_of_gt (blk_lt BK78001.out) : gb78002 ≠ gb78001)); clear HO0_3; clear BK78001; clear HK; clear HB; have HO0_3 := n0_; have BK78001 := n1_; have HK := n2_; have HB := n3_; have BK78002 := n4_; have GW78002 := n5_; have GE78002 := n6_; have NB78001_78002 := n7_; have NB78002_78001 := n8_; clear n0_ n1_ n2_ n3_ n4_ n5_ n6_ n7_ n8_; clear hb hbox hg))
  go_loopg [8] k (fun kq v8 w' => ∃ (x8_1 : Int) (x78002003_1 : List Int), v8 = .int .i64 x8_1 ∧ Aside0 (spec_paste.l0 kq a1 a2 x8_1 a0_0 a0_1 a0_2 x78002003_1 a3_0 a3_1 a3_2 l3_3 = some r) ∧ Aside0 (kq ≤ k) ∧ Aside0 (Kd.R (Kd.int .i64) 3 w' w0.heap.size (fun k_ => (P0_3_ k_ ∨ w.heap.size ≤ k_)) (.slice Ao5 l0_3.length co5) x78002003_1) ∧ Aside0 (w'.heap[gb78001]? = some (.cells #[.int .i64 a0_0, .int .i64 a0_1, .int .i64 a0_2, (.slice Ao5 l0_3.length co5)] 28 (0, 0))) ∧ Aside0 (w'.heap[gb78002]? = some (.cells #[.int .i64 a3_0, .int .i64 a3_1, .int .i64 a3_2, (.slice A3_3 l3_3.length c3_3)] 28 (0, 0))) ∧ Aside0 (Kept w w' (fun k_ => P0_3_ k_)) ∧ Aside0 (Below w0.heap.size w0 w'))
  case atStart => exact ⟨(0), (l0_3), (by rfl), H', ⟨Nat.le_refl _⟩, ⟨by (with_reducible repeat (first | apply Kd.R_alloc | apply Kd.R_drewN | apply Kd.R_drew)); exact HO0_3.out⟩, ⟨by (with_reducible repeat (first | refine blk_drewN ?_ _ | refine blk_drew ?_ | refine blk_alloc ?_ _)); exact BK78001.out⟩, ⟨by (with_reducible repeat (first | refine blk_drewN ?_ _ | refine blk_drew ?_ | refine blk_alloc ?_ _)); exact BK78002.out⟩, ⟨by exact HK.out⟩, ⟨by exact HB.out⟩⟩
  case round =>
    clear H'
    try clear p2
    try clear c3
    try clear c7
    obtain ⟨x8_1, x78002003_1, rfl, HA, HK1, HO_78002003, BK78001, BK78002, HK, HB⟩ := hrel
    have hl78002003_1 := (Kd.R_reads' HO_78002003.out).1
    rw [hl78002003_1] at HO_78002003
    (try simp only [hl78002003_1])
    (try simp only [hl78002003_1] at BK78001)
    cases gk with
    | zero => exact absurd HA.out (by simp [spec_paste.l0])
    | succ k1 =>
      have H := HA.out
      clear HA
      simp only [spec_paste.l0] at H
      by_cases c8 : x8_1 < a3_1
      · rw [if_pos c8] at H
        have c8b0 : decide (x8_1 < a3_1) = true := decide_eq_true c8
        clear c8
        have H' := Aside0.mk H
        clear H
        have hnb9 := NB78002_78001.out
        have hnc9 := NB78001_78002.out
        have hcz10_0 : wr.cell? ⟨gb78002, 0, none⟩ = some (.int .i64 a3_0) := (blk_cell BK78002.out 0).trans rfl
        have hcz10_1 : wr.cell? ⟨gb78002, 1, none⟩ = some (.int .i64 a3_1) := (blk_cell BK78002.out 1).trans rfl
        have hcz10_2 : wr.cell? ⟨gb78002, 2, none⟩ = some (.int .i64 a3_2) := (blk_cell BK78002.out 2).trans rfl
        have hcz10_3 : wr.cell? ⟨gb78002, 3, none⟩ = some (.slice A3_3 l3_3.length c3_3) := (blk_cell BK78002.out 3).trans rfl
        have hfz10_0 := blk_frozen BK78002.out 0
        have hfz10_1 := blk_frozen BK78002.out 1
        have hfz10_2 := blk_frozen BK78002.out 2
        have hfz10_3 := blk_frozen BK78002.out 3
        go_wp2
        go_loopg [9] k1 (fun kq v9 w' => ∃ (x9_2 : Int) (x78002003_2 : List Int), v9 = .int .i64 x9_2 ∧ Aside0 (spec_paste.l1 kq a1 a2 x8_1 x9_2 a0_0 a0_1 a0_2 x78002003_2 a3_0 a3_1 a3_2 l3_3 = some r) ∧ Aside0 (kq ≤ k1) ∧ Aside0 (Kd.R (Kd.int .i64) 3 w' w0.heap.size (fun k_ => (P0_3_ k_ ∨ w.heap.size ≤ k_)) (.slice Ao5 x78002003_1.length co5) x78002003_2) ∧ Aside0 (w'.heap[gb78001]? = some (.cells #[.int .i64 a0_0, .int .i64 a0_1, .int .i64 a0_2, (.slice Ao5 x78002003_1.length co5)] 28 (0, 0))) ∧ Aside0 (w'.heap[gb78002]? = some (.cells #[.int .i64 a3_0, .int .i64 a3_1, .int .i64 a3_2, (.slice A3_3 l3_3.length c3_3)] 28 (0, 0))) ∧ Aside0 (Kept w w' (fun k_ => P0_3_ k_)) ∧ Aside0 (Below w0.heap.size w0 w'))
        case atStart => exact ⟨(0), (x78002003_1), (by rfl), H', ⟨Nat.le_refl _⟩, ⟨by (with_reducible repeat (first | apply Kd.R_alloc | apply Kd.R_drewN | apply Kd.R_drew)); exact HO_78002003.out⟩, ⟨by (with_reducible repeat (first | refine blk_drewN ?_ _ | refine blk_drew ?_ | refine blk_alloc ?_ _)); exact BK78001.out⟩, ⟨by (with_reducible repeat (first | refine blk_drewN ?_ _ | refine blk_drew ?_ | refine blk_alloc ?_ _)); exact BK78002.out⟩, ⟨by exact HK.out⟩, ⟨by exact HB.out⟩⟩
        case round =>
          clear H'
          try clear p2
          try clear c3
          try clear c7
          try clear c8
          try clear c8b0
          try clear c9
          try clear hcz10_0
          try clear hcz10_1
          try clear hcz10_2
          try clear hcz10_3
          try clear hfz10_0
          try clear hfz10_1
          try clear hfz10_2
          try clear hfz10_3
          try clear p2
          obtain ⟨x9_2, x78002003_2, rfl, HA, HK2, HO_78002003, BK78001, BK78002, HK, HB⟩ := hrel
          have hl78002003_2 := (Kd.R_reads' HO_78002003.out).1
          rw [hl78002003_2] at HO_78002003
          (try simp only [hl78002003_2])
          (try simp only [hl78002003_2] at BK78001)
          cases gk with
          | zero => exact absurd HA.out (by simp [spec_paste.l1])
          | succ k2 =>
            have H := HA.out
            clear HA
            simp only [spec_paste.l1] at H
            by_cases c11 : x9_2 < a3_0
            · rw [if_pos c11] at H
              have c11b0 : decide (x9_2 < a3_0) = true := decide_eq_true c11
              clear c11
              replace H := Option.bind_eq_some_iff.mp H
              obtain ⟨t78003, A120, H⟩ := H
              replace H : (if t78003 = true then ((spec_pixelAt.f a3_0 a3_1 a3_2 l3_3 x9_2 x8_1).bind fun t78004 => ((spec_setPixel.f k2 a0_0 a0_1 a0_2 x78002003_2 (wrap64 (a1 + x9_2)) (wrap64 (a2 + x8_1)) t78004).bind fun t78007 => (spec_paste.l1 k2 a1 a2 x8_1 (wrap64 (x9_2 + 1)) a0_0 a0_1 a0_2 t78007 a3_0 a3_1 a3_2 l3_3))) else (spec_paste.l1 k2 a1 a2 x8_1 (wrap64 (x9_2 + 1)) a0_0 a0_1 a0_2 x78002003_2 a3_0 a3_1 a3_2 l3_3)) = some r := H
              have A12 := Aside0.mk A120
              clear A120
              by_cases c13 : t78003 = true
              · subst c13
                have H1 : ((spec_pixelAt.f a3_0 a3_1 a3_2 l3_3 x9_2 x8_1).bind fun t78004 => ((spec_setPixel.f k2 a0_0 a0_1 a0_2 x78002003_2 (wrap64 (a1 + x9_2)) (wrap64 (a2 + x8_1)) t78004).bind fun t78007 => (spec_paste.l1 k2 a1 a2 x8_1 (wrap64 (x9_2 + 1)) a0_0 a0_1 a0_2 t78007 a3_0 a3_1 a3_2 l3_3))) = some r := by rw [if_pos rfl] at H; exact H
                clear H
                have H := H1
                clear H1
                replace H := Option.bind_eq_some_iff.mp H
                obtain ⟨t78004, A140, H⟩ := H
                replace H : ((spec_setPixel.f k2 a0_0 a0_1 a0_2 x78002003_2 (wrap64 (a1 + x9_2)) (wrap64 (a2 + x8_1)) t78004).bind fun t78007 => (spec_paste.l1 k2 a1 a2 x8_1 (wrap64 (x9_2 + 1)) a0_0 a0_1 a0_2 t78007 a3_0 a3_1 a3_2 l3_3)) = some r := H
                have A14 := Aside0.mk A140
                clear A140
                replace H := Option.bind_eq_some_iff.mp H
                obtain ⟨t78007, A150, H⟩ := H
                replace H : (spec_paste.l1 k2 a1 a2 x8_1 (wrap64 (x9_2 + 1)) a0_0 a0_1 a0_2 t78007 a3_0 a3_1 a3_2 l3_3) = some r := H
                have A15 := Aside0.mk A150
                clear A150
                have H' := Aside0.mk H
                clear H
                have hnb16 := NB78002_78001.out
                have hnc16 := NB78001_78002.out
                have hcz17_0 : wr.cell? ⟨gb78002, 0, none⟩ = some (.int .i64 a3_0) := (blk_cell BK78002.out 0).trans rfl
                have hcz17_1 : wr.cell? ⟨gb78002, 1, none⟩ = some (.int .i64 a3_1) := (blk_cell BK78002.out 1).trans rfl
                have hcz17_2 : wr.cell? ⟨gb78002, 2, none⟩ = some (.int .i64 a3_2) := (blk_cell BK78002.out 2).trans rfl
                have hcz17_3 : wr.cell? ⟨gb78002, 3, none⟩ = some (.slice A3_3 l3_3.length c3_3) := (blk_cell BK78002.out 3).trans rfl
                have hfz17_0 := blk_frozen BK78002.out 0
                have hfz17_1 := blk_frozen BK78002.out 1
                have hfz17_2 := blk_frozen BK78002.out 2
                have hfz17_3 := blk_frozen BK78002.out 3
                have hcz18_0 : wr.cell? ⟨gb78001, 0, none⟩ = some (.int .i64 a0_0) := (blk_cell BK78001.out 0).trans rfl
                have hcz18_1 : wr.cell? ⟨gb78001, 1, none⟩ = some (.int .i64 a0_1) := (blk_cell BK78001.out 1).trans rfl
                have hcz18_2 : wr.cell? ⟨gb78001, 2, none⟩ = some (.int .i64 a0_2) := (blk_cell BK78001.out 2).trans rfl
                have hcz18_3 : wr.cell? ⟨gb78001, 3, none⟩ = some (.slice Ao5 x78002003_2.length co5) := (blk_cell BK78001.out 3).trans rfl
                have hfz18_0 := blk_frozen BK78001.out 0
                have hfz18_1 := blk_frozen BK78001.out 1
                have hfz18_2 := blk_frozen BK78001.out 2
                have hfz18_3 := blk_frozen BK78001.out 3
                try go_wp2_with (first | ((with_reducible refine gate_callee (f := 98) rfl ?_); refine goesL_ (some 29) rfl rfl Try.func98 (by kernel_rfl) rfl #[.agg #[.int .i64 a0_0, .int .i64 a0_1, .int .i64 a0_2, .slice Ao5 x78002003_2.length co5], .int .i64 (wrap64 (a1 + x9_2)), .int .i64 (wrap64 (a2 + x8_1))] rfl (by (try simp only [List.map_toArray, List.map_cons, List.map_nil]); rfl) ?_; (with_reducible refine (spec_onImage.calls a0_0 a0_1 a0_2 _ _ x78002003_2 (wrap64 (a1 + x9_2)) (wrap64 (a2 + x8_1)) true _ ?side1 ?side2 A12.out).mono ?_); (case side1 => repeat (exact (Kd.R_reads' HO_78002003.out).2.2)); (case side2 => exact (Kd.R_reads' HO_78002003.out).2.1); rintro e w19 ⟨rfl, hb⟩; refine ⟨_, rfl, ?_⟩; have n0_ := Aside0.mk (Kd.R_below HO_78002003.out hb); have n1_ := Aside0.mk (blk_below BK78001.out hb); have n2_ := Aside0.mk (blk_below BK78002.out hb); have n3_ := Aside0.mk (Kept.below (S := (fun k_ => P0_3_ k_)) HK.out hb); have n4_ := Aside0.mk (below_step HB.out hb); clear HO_78002003; clear BK78001; clear BK78002; clear HK; clear HB; have HO_78002003 := n0_; have BK78001 := n1_; have BK78002 := n2_; have HK := n3_; have HB := n4_; clear n0_ n1_ n2_ n3_ n4_; (try clear hb)))
                have n0_ := Aside0.mk (Kd.R_drew HO_78002003.out)
                have n1_ := Aside0.mk (blk_drew BK78001.out)
                have n2_ := Aside0.mk (blk_drew BK78002.out)
                have n3_ := Aside0.mk (Kept.drew HK.out)
                have n4_ := Aside0.mk (below_drew1 HB.out)
                clear HO_78002003 BK78001 BK78002 HK HB
                revert n0_ n1_ n2_ n3_ n4_; intro HO_78002003 BK78001 BK78002 HK HB
                refine start_ (n := 12) (S := fun w' => w'.cell? ⟨gb78001, 0, none⟩ = some (.int .i64 a0_0) ∧ w'.cell? ⟨gb78001, 1, none⟩ = some (.int .i64 a0_1) ∧ w'.cell? ⟨gb78001, 2, none⟩ = some (.int .i64 a0_2) ∧ w'.cell? ⟨gb78001, 3, none⟩ = some (.slice Ao5 x78002003_2.length co5) ∧ w'.cell? ⟨gb78002, 0, none⟩ = some (.int .i64 a3_0) ∧ w'.cell? ⟨gb78002, 1, none⟩ = some (.int .i64 a3_1) ∧ w'.cell? ⟨gb78002, 2, none⟩ = some (.int .i64 a3_2) ∧ w'.cell? ⟨gb78002, 3, none⟩ = some (.slice A3_3 l3_3.length c3_3)) (ds := []) #[false, false, false, false, false, false, false, false, false, false, false, false] (by kernel_rfl) rfl rfl ⟨(blk_cell BK78001.out 0).trans rfl, (blk_cell BK78001.out 1).trans rfl, (blk_cell BK78001.out 2).trans rfl, (blk_cell BK78001.out 3).trans rfl, (blk_cell BK78002.out 0).trans rfl, (blk_cell BK78002.out 1).trans rfl, (blk_cell BK78002.out 2).trans rfl, (blk_cell BK78002.out 3).trans rfl⟩ (fun hHeld => ?_); refine with_tabW spec_paste.tab8 spec_paste.bits8 (fun HT_ HW_ => ?_)
                generalize w19.drew = w20 at HO_78002003 BK78001 BK78002 HK HB hHeld ⊢
                refine pure_ (i := 1) (N := some 31) (v := ?_) (a' := ?_) #[false, true, false, false, false, false, false, false, false, false, false, false] rfl rfl (any_of HT_.out (by kernel_rfl)) (fun _ _ _ h => h) (Or.inl ⟨by rfl, ?_⟩) ?_ ?_
                rotate_left
                · intro w'
                  go_simp
                  with_reducible rfl
                rotate_left
                · simp only [Act.put, List.setIfInBounds_toArray, List.set_cons_zero, List.set_cons_succ, i64_w, i32_w]
                  rfl
                refine pure_ (i := 2) (N := some 32) (v := ?_) (a' := ?_) #[false, true, true, false, false, false, false, false, false, false, false, false] rfl rfl (any_of HT_.out (by kernel_rfl)) (fun _ _ _ h => h) (Or.inl ⟨by rfl, ?_⟩) ?_ ?_
                rotate_left
                · intro w'
                  go_simp
                  with_reducible rfl
                rotate_left
                · simp only [Act.put, List.setIfInBounds_toArray, List.set_cons_zero, List.set_cons_succ, i64_w, i32_w]
                  rfl
                refine pure_ (i := 3) (N := some 33) (v := ?_) (a' := ?_) #[false, true, true, true, false, false, false, false, false, false, false, false] rfl rfl (any_of HT_.out (by kernel_rfl)) (fun _ _ _ h => h) (Or.inl ⟨by rfl, ?_⟩) ?_ ?_
                rotate_left
                · intro w'
                  go_simp
                  with_reducible rfl
                rotate_left
                · simp only [Act.put, List.setIfInBounds_toArray, List.set_cons_zero, List.set_cons_succ, i64_w, i32_w]
                  rfl
                refine pure_ (i := 4) (N := some 34) (v := ?_) (a' := ?_) #[false, true, true, true, true, false, false, false, false, false, false, false] rfl rfl (any_of HT_.out (by kernel_rfl)) (fun _ _ _ h => h) (Or.inl ⟨by rfl, ?_⟩) ?_ ?_
                rotate_left
                · intro w'
                  go_simp
                  with_reducible rfl
                rotate_left
                · simp only [Act.put, List.setIfInBounds_toArray, List.set_cons_zero, List.set_cons_succ, i64_w, i32_w]
                  rfl
                refine pure_ (i := 5) (N := some 35) (v := ?_) (a' := ?_) #[false, true, true, true, true, true, false, false, false, false, false, false] rfl rfl (any_of HT_.out (by kernel_rfl)) (fun _ _ _ h => h) (Or.inl ⟨by rfl, ?_⟩) ?_ ?_
                rotate_left
                · intro w'
                  go_simp
                  with_reducible rfl
                rotate_left
                · simp only [Act.put, List.setIfInBounds_toArray, List.set_cons_zero, List.set_cons_succ, i64_w, i32_w]
                  rfl
                refine pure_ (i := 6) (N := some 36) (v := ?_) (a' := ?_) #[false, true, true, true, true, true, true, false, false, false, false, false] rfl rfl (any_of HT_.out (by kernel_rfl)) (fun _ _ _ h => h) (Or.inl ⟨by rfl, ?_⟩) ?_ ?_
                rotate_left
                · intro w'
                  go_simp
                  with_reducible rfl
                rotate_left
                · simp only [Act.put, List.setIfInBounds_toArray, List.set_cons_zero, List.set_cons_succ, i64_w, i32_w]
                  rfl
                refine pure_ (i := 8) (N := some 38) (v := ?_) (a' := ?_) #[false, true, true, true, true, true, true, false, true, false, false, false] rfl rfl (any_of HT_.out (by kernel_rfl)) (fun _ _ _ h => h) (Or.inl ⟨by rfl, ?_⟩) ?_ ?_
                rotate_left
                · intro w'
                  go_simp
                  with_reducible rfl
                rotate_left
                · simp only [Act.put, List.setIfInBounds_toArray, List.set_cons_zero, List.set_cons_succ, i64_w, i32_w]
                  rfl
                refine pure_ (i := 9) (N := some 39) (v := ?_) (a' := ?_) #[false, true, true, true, true, true, true, false, true, true, false, false] rfl rfl (any_of HT_.out (by kernel_rfl)) (fun _ _ _ h => h) (Or.inl ⟨by rfl, ?_⟩) ?_ ?_
                rotate_left
                · intro w'
                  go_simp
                  with_reducible rfl
                rotate_left
                · simp only [Act.put, List.setIfInBounds_toArray, List.set_cons_zero, List.set_cons_succ, i64_w, i32_w]
                  rfl
                refine take_ (i := 0) (N := some 30) (v := ?_) (a' := ?_) #[true, true, true, true, true, true, true, false, true, true, false, false] rfl rfl (take_ofW HT_.out HW_.out (by kernel_rfl)) (fun _ _ _ h => h) (Or.inl ⟨by rfl, ?_⟩) hHeld ?_ ?_
                rotate_left
                · rintro w' ⟨s0, s1, s2, s3, s4, s5, s6, s7⟩
                  go_simp
                  with_reducible rfl
                rotate_left
                · simp only [Act.put, List.setIfInBounds_toArray, List.set_cons_zero, List.set_cons_succ, i64_w, i32_w]
                  rfl
                refine take_ (i := 7) (N := some 37) (v := ?_) (a' := ?_) #[true, true, true, true, true, true, true, true, true, true, false, false] rfl rfl (take_ofW HT_.out HW_.out (by kernel_rfl)) (fun _ _ _ h => h) (Or.inl ⟨by rfl, ?_⟩) hHeld ?_ ?_
                rotate_left
                · rintro w' ⟨s0, s1, s2, s3, s4, s5, s6, s7⟩
                  go_simp
                  with_reducible rfl
                rotate_left
                · simp only [Act.put, List.setIfInBounds_toArray, List.set_cons_zero, List.set_cons_succ, i64_w, i32_w]
                  rfl
                refine one_ (i := 10) (N := some 40) #[true, true, true, true, true, true, true, true, true, true, true, false] rfl rfl (one_of HT_.out (by kernel_rfl)) (by decide) (fun K hK => ?_)
                refine goes_ Try.func95 (by kernel_rfl) rfl #[.agg #[.int .i64 a3_0, .int .i64 a3_1, .int .i64 a3_2, .slice A3_3 l3_3.length c3_3], .int .i64 x9_2, .int .i64 x8_1] (by rfl) rfl rfl (by (try simp only [List.map_toArray, List.map_cons, List.map_nil]); rfl) ?_
                with_reducible refine (spec_pixelAt.calls a3_0 a3_1 a3_2 _ _ l3_3 x9_2 x8_1 t78004 _ ?side1 ?side2 A14.out).mono ?_
                (case side1 => exact Kd.C_kept_now HR3_3.out HK.out)
                (case side2 => exact HC3_3.out)
                rintro e w21 ⟨v78005, rfl, ho0, hb⟩
                refine ⟨_, rfl, ?_⟩
                have n0_ := Aside0.mk (Kd.R_elder' HO_78002003.out (Kd.R_base ho0) hb)
                have n1_ := Aside0.mk (Kd.R_lower (Kd.R_new' (Kd.R_newM (M := fun k_ => (P0_3_ k_ ∨ w.heap.size ≤ k_)) ho0 HK.out.1 (fun k_ h_ => .inr h_)) (Kd.R_lt HO_78002003.out)) (below_size HB.out))
                have n2_ := Aside0.mk (blk_below BK78001.out hb)
                have n3_ := Aside0.mk (blk_below BK78002.out hb)
                have n4_ := Aside0.mk (Kept.below (S := (fun k_ => P0_3_ k_)) HK.out hb)
                have n5_ := Aside0.mk (below_step HB.out hb)
                clear HO_78002003 BK78001 BK78002 HK HB
                revert n0_ n1_ n2_ n3_ n4_ n5_; intro HO_78002003 HO78006 BK78001 BK78002 HK HB
                (try clear hb)
                (try clear ho0)
                obtain ⟨Ao22, co22, eo22⟩ := Kd.R_slice HO78006.out
                (subst eo22)
                refine hK.out _ _ ⟨(blk_cell BK78001.out 0).trans rfl, (blk_cell BK78001.out 1).trans rfl, (blk_cell BK78001.out 2).trans rfl, (blk_cell BK78001.out 3).trans rfl, (blk_cell BK78002.out 0).trans rfl, (blk_cell BK78002.out 1).trans rfl, (blk_cell BK78002.out 2).trans rfl, (blk_cell BK78002.out 3).trans rfl⟩ (fun hHeld => ?_)
                clear hK K
                refine norm_ (a' := ?_) ?_ ?_
                rotate_left
                · show Act.put _ (some 40) _ = _
                  simp only [Act.put, List.setIfInBounds_toArray, List.set_cons_zero, List.set_cons_succ, i64_w, i32_w]
                  rfl
                refine one_ (i := 11) (N := some 41) #[true, true, true, true, true, true, true, true, true, true, true, true] rfl rfl (one_of HT_.out (by kernel_rfl)) (by decide) (fun K hK => ?_)
                refine goes_ Try.func94 (by kernel_rfl) rfl #[.agg #[.int .i64 a0_0, .int .i64 a0_1, .int .i64 a0_2, .slice Ao5 x78002003_2.length co5], .int .i64 (wrap64 (a1 + x9_2)), .int .i64 (wrap64 (a2 + x8_1)), .slice Ao22 t78004.length co22] (by rfl) rfl rfl (by (try simp only [List.map_toArray, List.map_cons, List.map_nil]); rfl) ?_
                with_reducible refine (spec_setPixel.calls k2 a0_0 a0_1 a0_2 (fun k_ => some k_ = (.slice Ao5 x78002003_2.length co5 : Value).ownBlock) (.slice Ao5 x78002003_2.length co5) x78002003_2 (wrap64 (a1 + x9_2)) (wrap64 (a2 + x8_1)) _ _ t78004 t78007 w0 _ ?side1 ?side2 ?side3 ?side4 A15.out).mono ?_
                (case side1 => repeat (with_reducible exact HB.out))
                (case side2 => exact Kd.R_tight rfl HO_78002003.out)
                (case side3 => exact Kd.C_kept_own HO78006.out (fun k_ hk_ hs_ => hk_.2 hs_))
                (case side4 => exact (Kd.R_reads' HO78006.out).2.1)
                rintro e w23 ⟨rfl, hy0, hb, hkp⟩
                refine ⟨_, rfl, ?_⟩
                have n0_ := Aside0.mk (Kd.R_reok rfl hy0 (fun k_ e_ => HO_78002003.out.1 k_ e_))
                have n1_ := Aside0.mk (blk_kept BK78001.out hkp (fun hs_ => (fun e_ => (Kd.R_ne HO_78002003.out BK78001.out (by decide)) e_) hs_))
                have n2_ := Aside0.mk (blk_kept BK78002.out hkp (fun hs_ => (fun e_ => (Kd.R_ne HO_78002003.out BK78002.out (by decide)) e_) hs_))
                have n3_ := Aside0.mk (Kd.R_mono (ok' := fun k_ => (P0_3_ k_ ∨ w.heap.size ≤ k_) ∧ some k_ ≠ (.slice Ao5 x78002003_2.length co5 : Value).ownBlock) (Kd.R_keptB HO78006.out hkp (fun k_ hk_ hs_ => hk_.2 hs_)) (fun k_ hk_ => ⟨hk_.1.1.1, hk_.1.2⟩))
                have n4_ := Aside0.mk (Kept.then_ (S := (fun k_ => P0_3_ k_)) HK.out hkp (fun k_ hs_ => (fun e_ => (HO_78002003.out.1 k_ e_.symm).1) hs_))
                have n5_ := Aside0.mk (hb)
                clear HO_78002003 BK78001 BK78002 HO78006 HK HB
                revert n0_ n1_ n2_ n3_ n4_ n5_; intro HO_78002003 BK78001 BK78002 HO78006 HK HB
                (try clear hb)
                (try clear hkp)
                (try clear hy0)
                refine hK.out _ _ ⟨(blk_cell BK78001.out 0).trans rfl, (blk_cell BK78001.out 1).trans rfl, (blk_cell BK78001.out 2).trans rfl, (blk_cell BK78001.out 3).trans rfl, (blk_cell BK78002.out 0).trans rfl, (blk_cell BK78002.out 1).trans rfl, (blk_cell BK78002.out 2).trans rfl, (blk_cell BK78002.out 3).trans rfl⟩ (fun hHeld => ?_)
                clear hK K
                refine norm_ (a' := ?_) ?_ ?_
                rotate_left
                · show Act.put _ (some 41) _ = _
                  simp only [Act.put, List.setIfInBounds_toArray, List.set_cons_zero, List.set_cons_succ, i64_w, i32_w]
                  rfl
                refine done_ (done_of HT_.out (by kernel_rfl)) ?_
                try go_wp2
                (try simp only [← hl78002003_2])
                go_roundg k2
                case measure => have := HK1.out; have := HK2.out; omega
                case rel => exact ⟨(wrap64 (x9_2 + 1)), (t78007), (by rfl), H', ⟨by have := HK1.out; have := HK2.out; omega⟩, ⟨by (try simp only [hl78002003_2]); (with_reducible repeat (first | apply Kd.R_alloc | apply Kd.R_drewN | apply Kd.R_drew)); exact Kd.R_mono HO_78002003.out (fun _ hk => hk.1)⟩, ⟨by (try simp only [hl78002003_2]); (with_reducible repeat (first | refine blk_drewN ?_ _ | refine blk_drew ?_ | refine blk_alloc ?_ _)); exact BK78001.out⟩, ⟨by (with_reducible repeat (first | refine blk_drewN ?_ _ | refine blk_drew ?_ | refine blk_alloc ?_ _)); exact BK78002.out⟩, ⟨by exact HK.out⟩, ⟨by exact HB.out⟩⟩
              · replace c13 := Bool.eq_false_iff.mpr c13
                subst c13
                have H1 : (spec_paste.l1 k2 a1 a2 x8_1 (wrap64 (x9_2 + 1)) a0_0 a0_1 a0_2 x78002003_2 a3_0 a3_1 a3_2 l3_3) = some r := by rw [if_neg (show ¬ (false = true) by decide)] at H; exact H
                clear H
                have H := H1
                clear H1
                have H' := Aside0.mk H
                clear H
                have hnb24 := NB78002_78001.out
                have hnc24 := NB78001_78002.out
                have hcz25_0 : wr.cell? ⟨gb78002, 0, none⟩ = some (.int .i64 a3_0) := (blk_cell BK78002.out 0).trans rfl
                have hcz25_1 : wr.cell? ⟨gb78002, 1, none⟩ = some (.int .i64 a3_1) := (blk_cell BK78002.out 1).trans rfl
                have hcz25_2 : wr.cell? ⟨gb78002, 2, none⟩ = some (.int .i64 a3_2) := (blk_cell BK78002.out 2).trans rfl
                have hcz25_3 : wr.cell? ⟨gb78002, 3, none⟩ = some (.slice A3_3 l3_3.length c3_3) := (blk_cell BK78002.out 3).trans rfl
                have hfz25_0 := blk_frozen BK78002.out 0
                have hfz25_1 := blk_frozen BK78002.out 1
                have hfz25_2 := blk_frozen BK78002.out 2
                have hfz25_3 := blk_frozen BK78002.out 3
                have hcz26_0 : wr.cell? ⟨gb78001, 0, none⟩ = some (.int .i64 a0_0) := (blk_cell BK78001.out 0).trans rfl
                have hcz26_1 : wr.cell? ⟨gb78001, 1, none⟩ = some (.int .i64 a0_1) := (blk_cell BK78001.out 1).trans rfl
                have hcz26_2 : wr.cell? ⟨gb78001, 2, none⟩ = some (.int .i64 a0_2) := (blk_cell BK78001.out 2).trans rfl
                have hcz26_3 : wr.cell? ⟨gb78001, 3, none⟩ = some (.slice Ao5 x78002003_2.length co5) := (blk_cell BK78001.out 3).trans rfl
                have hfz26_0 := blk_frozen BK78001.out 0
                have hfz26_1 := blk_frozen BK78001.out 1
                have hfz26_2 := blk_frozen BK78001.out 2
                have hfz26_3 := blk_frozen BK78001.out 3
                go_wp2_with (first | ((with_reducible refine gate_callee (f := 98) rfl ?_); refine goesL_ (some 29) rfl rfl Try.func98 (by kernel_rfl) rfl #[.agg #[.int .i64 a0_0, .int .i64 a0_1, .int .i64 a0_2, .slice Ao5 x78002003_2.length co5], .int .i64 (wrap64 (a1 + x9_2)), .int .i64 (wrap64 (a2 + x8_1))] rfl (by (try simp only [List.map_toArray, List.map_cons, List.map_nil]); rfl) ?_; (with_reducible refine (spec_onImage.calls a0_0 a0_1 a0_2 _ _ x78002003_2 (wrap64 (a1 + x9_2)) (wrap64 (a2 + x8_1)) false _ ?side1 ?side2 A12.out).mono ?_); (case side1 => repeat (exact (Kd.R_reads' HO_78002003.out).2.2)); (case side2 => exact (Kd.R_reads' HO_78002003.out).2.1); rintro e w27 ⟨rfl, hb⟩; refine ⟨_, rfl, ?_⟩; have n0_ := Aside0.mk (Kd.R_below HO_78002003.out hb); have n1_ := Aside0.mk (blk_below BK78001.out hb); have n2_ := Aside0.mk (blk_below BK78002.out hb); have n3_ := Aside0.mk (Kept.below (S := (fun k_ => P0_3_ k_)) HK.out hb); have n4_ := Aside0.mk (below_step HB.out hb); clear HO_78002003; clear BK78001; clear BK78002; clear HK; clear HB; have HO_78002003 := n0_; have BK78001 := n1_; have BK78002 := n2_; have HK := n3_; have HB := n4_; clear n0_ n1_ n2_ n3_ n4_; (try clear hb)))
                (try simp only [← hl78002003_2])
                go_roundg k2
                case measure => have := HK1.out; have := HK2.out; omega
                case rel => exact ⟨(wrap64 (x9_2 + 1)), (x78002003_2), (by rfl), H', ⟨by have := HK1.out; have := HK2.out; omega⟩, ⟨by (try simp only [hl78002003_2]); (with_reducible repeat (first | apply Kd.R_alloc | apply Kd.R_drewN | apply Kd.R_drew)); exact HO_78002003.out⟩, ⟨by (try simp only [hl78002003_2]); (with_reducible repeat (first | refine blk_drewN ?_ _ | refine blk_drew ?_ | refine blk_alloc ?_ _)); exact BK78001.out⟩, ⟨by (with_reducible repeat (first | refine blk_drewN ?_ _ | refine blk_drew ?_ | refine blk_alloc ?_ _)); exact BK78002.out⟩, ⟨by exact HK.out⟩, ⟨by exact HB.out⟩⟩
            · rw [if_neg c11] at H
              have c11b0 : decide (x9_2 < a3_0) = false := decide_eq_false c11
              clear c11
              have H' := Aside0.mk H
              clear H
              have hnb28 := NB78002_78001.out
              have hnc28 := NB78001_78002.out
              have hcz29_0 : wr.cell? ⟨gb78002, 0, none⟩ = some (.int .i64 a3_0) := (blk_cell BK78002.out 0).trans rfl
              have hcz29_1 : wr.cell? ⟨gb78002, 1, none⟩ = some (.int .i64 a3_1) := (blk_cell BK78002.out 1).trans rfl
              have hcz29_2 : wr.cell? ⟨gb78002, 2, none⟩ = some (.int .i64 a3_2) := (blk_cell BK78002.out 2).trans rfl
              have hcz29_3 : wr.cell? ⟨gb78002, 3, none⟩ = some (.slice A3_3 l3_3.length c3_3) := (blk_cell BK78002.out 3).trans rfl
              have hfz29_0 := blk_frozen BK78002.out 0
              have hfz29_1 := blk_frozen BK78002.out 1
              have hfz29_2 := blk_frozen BK78002.out 2
              have hfz29_3 := blk_frozen BK78002.out 3
              go_wp2
              (try simp only [← hl78002003_1, ← hl78002003_2])
              go_roundg k2
              case measure => have := HK1.out; have := HK2.out; omega
              case rel => exact ⟨(wrap64 (x8_1 + 1)), (x78002003_2), (by rfl), H', ⟨by have := HK1.out; have := HK2.out; omega⟩, ⟨by (try simp only [hl78002003_1]); (try simp only [hl78002003_2]); (with_reducible repeat (first | apply Kd.R_alloc | apply Kd.R_drewN | apply Kd.R_drew)); exact HO_78002003.out⟩, ⟨by (try simp only [hl78002003_1]); (try simp only [hl78002003_2]); (with_reducible repeat (first | refine blk_drewN ?_ _ | refine blk_drew ?_ | refine blk_alloc ?_ _)); exact BK78001.out⟩, ⟨by (with_reducible repeat (first | refine blk_drewN ?_ _ | refine blk_drew ?_ | refine blk_alloc ?_ _)); exact BK78002.out⟩, ⟨by exact HK.out⟩, ⟨by exact HB.out⟩⟩
      · rw [if_neg c8] at H
        have c8b0 : decide (x8_1 < a3_1) = false := decide_eq_false c8
        clear c8
        obtain rfl := Option.some.inj H
        have hnb30 := NB78002_78001.out
        have hnc30 := NB78001_78002.out
        have hcz31_0 : wr.cell? ⟨gb78002, 0, none⟩ = some (.int .i64 a3_0) := (blk_cell BK78002.out 0).trans rfl
        have hcz31_1 : wr.cell? ⟨gb78002, 1, none⟩ = some (.int .i64 a3_1) := (blk_cell BK78002.out 1).trans rfl
        have hcz31_2 : wr.cell? ⟨gb78002, 2, none⟩ = some (.int .i64 a3_2) := (blk_cell BK78002.out 2).trans rfl
        have hcz31_3 : wr.cell? ⟨gb78002, 3, none⟩ = some (.slice A3_3 l3_3.length c3_3) := (blk_cell BK78002.out 3).trans rfl
        have hfz31_0 := blk_frozen BK78002.out 0
        have hfz31_1 := blk_frozen BK78002.out 1
        have hfz31_2 := blk_frozen BK78002.out 2
        have hfz31_3 := blk_frozen BK78002.out 3
        go_wp2
        go_end0
        exact ⟨by rfl, HO_78002003.out, by exact HB.out, by exact HK.out⟩


mutual
def spec_FillImage.j0 : Nat → Int → Int → List Int → Bool → Option (Int × Int × Int × List Int)
  | 0, _, _, _, _ => none
  | k + 1, x0, x1, x2, x19 => if x19 = true then (some (0, 0, 0, ([] : List Int))) else ((spec_newImage.f x0 x1 (x2.length : Int)).bind fun bt79004 => (spec_FillImage.l0 k x2 0 bt79004.1 bt79004.2.1 bt79004.2.2.1 bt79004.2.2.2))
def spec_FillImage.l0 : Nat → List Int → Int → Int → Int → Int → List Int → Option (Int × Int × Int × List Int)
  | 0, _, _, _, _, _, _ => none
  | k + 1, x2, x8, x79011000, x79011001, x79011002, x79011003 => if x8 < (x79011003.length : Int) then (if (x2.length : Int) = 0 then none else (if 0 ≤ (Int.tmod x8 (x2.length : Int)) then (if (Int.tmod x8 (x2.length : Int)) < (x2.length : Int) then (if 0 ≤ x8 then (spec_FillImage.l0 k x2 (wrap64 (x8 + 1)) x79011000 x79011001 x79011002 (x79011003.set (x8 : Int).toNat (rd x2 (Int.tmod x8 (x2.length : Int))))) else none) else none) else none)) else (some (x79011000, x79011001, x79011002, x79011003))
end
def spec_FillImage.f (k : Nat) (a0 : Int) (a1 : Int) (l2 : List Int) : Option (Int × Int × Int × List Int) := (spec_validShape.f a0 a1 (l2.length : Int)).bind fun t79002 => (if t79002 = true then ((spec_allIn.f k l2 0 255).bind fun t79003 => (spec_FillImage.j0 k a0 a1 l2 (!t79003))) else (spec_FillImage.j0 k a0 a1 l2 true))
theorem spec_FillImage.mono_l : ∀ k, (∀ y0 y1 y2 y3, LeO (spec_FillImage.j0 k y0 y1 y2 y3) (spec_FillImage.j0 (k + 1) y0 y1 y2 y3)) ∧ (∀ y0 y1 y2 y3 y4 y5, LeO (spec_FillImage.l0 k y0 y1 y2 y3 y4 y5) (spec_FillImage.l0 (k + 1) y0 y1 y2 y3 y4 y5))
  | 0 => ⟨fun _ _ _ _ r h => by simp [spec_FillImage.j0] at h, fun _ _ _ _ _ _ r h => by simp [spec_FillImage.l0] at h⟩
  | k + 1 => by
    obtain ⟨ih0, ih1⟩ := spec_FillImage.mono_l k
    refine ⟨?_, ?_⟩
    · intro y0 y1 y2 y3
      unfold spec_FillImage.j0
      repeat' first | (with_reducible exact ih1 _ _ _ _ _ _) | (with_reducible exact LeO.refl _) | (with_reducible refine LeO.ite ?_ ?_) | (with_reducible refine LeO.bind ?_ (fun _ => ?_))
    · intro y0 y1 y2 y3 y4 y5
      unfold spec_FillImage.l0
      repeat' first | (with_reducible exact ih1 _ _ _ _ _ _) | (with_reducible exact LeO.refl _) | (with_reducible refine LeO.ite ?_ ?_)
theorem spec_FillImage.mono : ∀ a0 a1 a2 k, LeO (spec_FillImage.f k a0 a1 a2) (spec_FillImage.f (k + 1) a0 a1 a2) := by
  intro a0 a1 a2 k
  obtain ⟨ih0, ih1⟩ := spec_FillImage.mono_l k
  unfold spec_FillImage.f
  repeat' first | (with_reducible exact ih0 _ _ _ _) | (with_reducible exact spec_allIn.mono _ _ _ _) | (with_reducible exact LeO.refl _) | (with_reducible refine LeO.ite ?_ ?_) | (with_reducible refine LeO.bind ?_ (fun _ => ?_))
def spec_FillImage.T7 : Bool × List (List Nat × List Nat) := (true, [([], []), ([0], [0]), ([], []), ([], []), ([], []), ([], []), ([5], [5]), ([4, 6], [4, 6]), ([3, 7], [3, 7]), ([8], [8]), ([1, 2, 0, 1, 2, 3, 4, 5, 6, 7, 8, 9], [1, 2]), ([10, 9, 0, 1, 2, 3, 4, 5, 6, 7, 8, 9], [9, 10])])
def spec_FillImage.B7 : List Nat := [0, 1, 0, 0, 0, 0, 32, 112, 248, 504, 1023, 2047]
theorem spec_FillImage.tab7 : rtab .any (opsOf Try.f78 7) = spec_FillImage.T7 := by kernel_rfl
theorem spec_FillImage.bits7 : waitsOk spec_FillImage.T7.2 spec_FillImage.B7 = true := by kernel_rfl
set_option maxHeartbeats 8000000 in
set_option maxRecDepth 100000 in
theorem spec_FillImage.calls (k : Nat) (a0 : Int) (a1 : Int) (A2 : Option Addr) (c2 : Nat) (l2 : List Int) (r1 : Int) (r2 : Int) (r3 : Int) (r4 : List Int) (w : World) (hr2 : Kd.C (Kd.int .i64) w A2 l2.length l2) (hc2 : l2.length ≤ c2) (h : spec_FillImage.f k a0 a1 l2 = some (r1, r2, r3, r4)) :
    Calls Try.prog 78 #[.int .i64 a0, .int .i64 a1, .slice A2 l2.length c2] w fun e w' => ∃ v3_ : Value, e = .returned (.agg #[.int .i64 r1, .int .i64 r2, .int .i64 r3, v3_]) ∧ Kd.R (Kd.int .i64) 3 w' w.heap.size (fun _ => True) v3_ r4 ∧ Below w.heap.size w w' := by
  have hu28 := Try.underlying28
  have HR2 := Aside0.mk hr2
  have HC2 := Aside0.mk hc2
  clear hr2 hc2
  have HB := Aside0.mk (Below.refl w.heap.size w)
  have H : ((spec_validShape.f a0 a1 (l2.length : Int)).bind fun t79002 => (if t79002 = true then ((spec_allIn.f k l2 0 255).bind fun t79003 => (spec_FillImage.j0 k a0 a1 l2 (!t79003))) else (spec_FillImage.j0 k a0 a1 l2 true))) = some (r1, r2, r3, r4) := h
  clear h
  have HC4 := Aside0.mk H
  clear H
  go_enter Try.func78, Try.ntmps78
  go_upto_region 1 with (first | ((with_reducible refine gate_dst (N := 6) rfl ?_); refine box_event ?hg (N := 6) ?hd (cs := #[.int .i64 0, .int .i64 0, .int .i64 0, .slice none 0 0]) (t := 28) ?hr ?_; (case hd => rfl); (case hg => rfl); (case hr => (go_simp; done)); intro gb79001 hg w5 hbox hb; have n0_ := Aside0.mk (below_step HB.out hb); have n1_ := Aside0.mk (hbox); have n2_ := Aside0.mk ((by rw [hg]; exact (below_size HB.out) : w.heap.size ≤ gb79001)); have n3_ := Aside0.mk ((by rw [hg]; exact (below_size HB.out) : w.heap.size ≤ gb79001)); clear HB; have HB := n0_; have BK79001 := n1_; have GW79001 := n2_; have GE79001 := n3_; clear n0_ n1_ n2_ n3_; clear hb hbox hg))
  (try simp only [Act.put, List.setIfInBounds_toArray, List.set_cons_zero, List.set_cons_succ])
  go_cut [19] (fun v19 wc => ∃ (kq : Nat) (x19_3 : Bool), v19 = .bool x19_3 ∧ Aside0 (spec_FillImage.j0 kq a0 a1 l2 x19_3 = some (r1, r2, r3, r4)) ∧ Aside0 (kq ≤ k) ∧ Aside0 (wc.heap[gb79001]? = some (.cells #[.int .i64 0, .int .i64 0, .int .i64 0, (.slice none 0 0)] 28 (0, 0))) ∧ Aside0 (Below w.heap.size w wc))
  case first =>
    have H := HC4.out
    clear HC4
    replace H := Option.bind_eq_some_iff.mp H
    obtain ⟨t79002, A60, H⟩ := H
    replace H : (if t79002 = true then ((spec_allIn.f k l2 0 255).bind fun t79003 => (spec_FillImage.j0 k a0 a1 l2 (!t79003))) else (spec_FillImage.j0 k a0 a1 l2 true)) = some (r1, r2, r3, r4) := H
    have A6 := Aside0.mk A60
    clear A60
    by_cases c7 : t79002 = true
    · subst c7
      have H1 : ((spec_allIn.f k l2 0 255).bind fun t79003 => (spec_FillImage.j0 k a0 a1 l2 (!t79003))) = some (r1, r2, r3, r4) := by rw [if_pos rfl] at H; exact H
      clear H
      have H := H1
      clear H1
      replace H := Option.bind_eq_some_iff.mp H
      obtain ⟨t79003, A80, H⟩ := H
      replace H : (spec_FillImage.j0 k a0 a1 l2 (!t79003)) = some (r1, r2, r3, r4) := H
      have A8 := Aside0.mk A80
      clear A80
      have H' := Aside0.mk H
      clear H
      go_wp2_with (first | ((with_reducible refine gate_callee (f := 69) rfl ?_); refine goesL_ (some 13) rfl rfl Try.func69 (by kernel_rfl) rfl #[.int .i64 a0, .int .i64 a1, .int .i64 (l2.length : Int)] rfl (by (try simp only [List.map_toArray, List.map_cons, List.map_nil]); rfl) ?_; (with_reducible refine (spec_validShape.calls a0 a1 (l2.length : Int) true _ A6.out).mono ?_); rintro e w' ⟨rfl, ⟨nd, rfl⟩⟩; refine ⟨_, rfl, ?_⟩) | (go_at_call 70; (with_reducible refine (spec_allIn.calls k _ _ l2 0 255 t79003 _ ?side1 ?side2 A8.out).mono ?_); (case side1 => repeat (exact (Kd.C_below HR2.out (by repeat (with_reducible first | exact HB.out | apply pw_below_drewN))))); (case side2 => exact HC2.out); rintro e w' ⟨rfl, ⟨nd, rfl⟩⟩))
      go_meet
      case rel => exact ⟨_, (!t79003), (by rfl), H', ⟨by omega⟩, ⟨by (with_reducible repeat (refine blk_drewN ?_ _)); exact BK79001.out⟩, ⟨by repeat (with_reducible first | exact HB.out | apply pw_below_drewN)⟩⟩
    · replace c7 := Bool.eq_false_iff.mpr c7
      subst c7
      have H1 : (spec_FillImage.j0 k a0 a1 l2 true) = some (r1, r2, r3, r4) := by rw [if_neg (show ¬ (false = true) by decide)] at H; exact H
      clear H
      have H := H1
      clear H1
      have H' := Aside0.mk H
      clear H
      go_wp2_with (first | ((with_reducible refine gate_callee (f := 69) rfl ?_); refine goesL_ (some 13) rfl rfl Try.func69 (by kernel_rfl) rfl #[.int .i64 a0, .int .i64 a1, .int .i64 (l2.length : Int)] rfl (by (try simp only [List.map_toArray, List.map_cons, List.map_nil]); rfl) ?_; (with_reducible refine (spec_validShape.calls a0 a1 (l2.length : Int) false _ A6.out).mono ?_); rintro e w' ⟨rfl, ⟨nd, rfl⟩⟩; refine ⟨_, rfl, ?_⟩))
      go_meet
      case rel => exact ⟨_, (true), (by rfl), H', ⟨by omega⟩, ⟨by (with_reducible repeat (refine blk_drewN ?_ _)); exact BK79001.out⟩, ⟨by repeat (with_reducible first | exact HB.out | apply pw_below_drewN)⟩⟩
  case rest =>
    clear HC4
    try clear c2
    try clear p2
    try clear c6
    try clear c7
    obtain ⟨kq, x19_3, rfl, HA, HJ3, BK79001, HB⟩ := hcut
    cases kq with
    | zero => exact absurd HA.out (by simp [spec_FillImage.j0])
    | succ kj3 =>
      have H := HA.out
      clear HA
      simp only [spec_FillImage.j0] at H
      by_cases c9 : x19_3 = true
      · subst c9
        have H1 : (some (0, 0, 0, ([] : List Int))) = some (r1, r2, r3, r4) := by rw [if_pos rfl] at H; exact H
        clear H
        have H := H1
        clear H1
        simp only [Option.some.injEq, Prod.mk.injEq] at H
        obtain ⟨rfl, rfl, rfl, rfl⟩ := H
        have hcz10_0 : wc.cell? ⟨gb79001, 0, none⟩ = some (.int .i64 0) := (blk_cell BK79001.out 0).trans rfl
        have hcz10_1 : wc.cell? ⟨gb79001, 1, none⟩ = some (.int .i64 0) := (blk_cell BK79001.out 1).trans rfl
        have hcz10_2 : wc.cell? ⟨gb79001, 2, none⟩ = some (.int .i64 0) := (blk_cell BK79001.out 2).trans rfl
        have hcz10_3 : wc.cell? ⟨gb79001, 3, none⟩ = some (.slice none 0 0) := (blk_cell BK79001.out 3).trans rfl
        have hfz10_0 := blk_frozen BK79001.out 0
        have hfz10_1 := blk_frozen BK79001.out 1
        have hfz10_2 := blk_frozen BK79001.out 2
        have hfz10_3 := blk_frozen BK79001.out 3
        go_wp2
        refine bodyPost_ret (results_cell_row rfl _ _ gb79001 28 #[.int .i64 0, .int .i64 0, .int .i64 0, .slice none 0 0] (0, 0) _ rfl (by refine blk_put (cs := #[.int .i64 0, .int .i64 0, .int .i64 0, .slice none 0 0]) ?_ 3 _ rfl; (with_reducible repeat (first | refine blk_drewN ?_ _ | refine blk_drew ?_ | refine blk_alloc ?_ _)); refine blk_put (cs := #[.int .i64 0, .int .i64 0, .int .i64 0, .slice none 0 0]) ?_ 2 _ rfl; (with_reducible repeat (first | refine blk_drewN ?_ _ | refine blk_drew ?_ | refine blk_alloc ?_ _)); refine blk_put (cs := #[.int .i64 0, .int .i64 0, .int .i64 0, .slice none 0 0]) ?_ 1 _ rfl; (with_reducible repeat (first | refine blk_drewN ?_ _ | refine blk_drew ?_ | refine blk_alloc ?_ _)); refine blk_put (cs := #[.int .i64 0, .int .i64 0, .int .i64 0, .slice none 0 0]) ?_ 0 _ rfl; (with_reducible repeat (first | refine blk_drewN ?_ _ | refine blk_drew ?_ | refine blk_alloc ?_ _)); exact BK79001.out) Try.underlying28 rfl (by kernel_rfl)) rfl ?_
        exact ⟨_, by rfl, by exact Kd.R_nil _ _ _ _ _, by repeat (with_reducible first | exact HB.out | refine below_set ?_ GE79001.out)⟩
      · replace c9 := Bool.eq_false_iff.mpr c9
        subst c9
        have H1 : ((spec_newImage.f a0 a1 (l2.length : Int)).bind fun bt79004 => (spec_FillImage.l0 kj3 l2 0 bt79004.1 bt79004.2.1 bt79004.2.2.1 bt79004.2.2.2)) = some (r1, r2, r3, r4) := by rw [if_neg (show ¬ (false = true) by decide)] at H; exact H
        clear H
        have H := H1
        clear H1
        replace H := Option.bind_eq_some_iff.mp H
        obtain ⟨⟨t79004, t79005, t79006, t79007⟩, A110, H⟩ := H
        replace H : (spec_FillImage.l0 kj3 l2 0 t79004 t79005 t79006 t79007) = some (r1, r2, r3, r4) := H
        have A11 := Aside0.mk A110
        clear A110
        have H' := Aside0.mk H
        clear H
        go_wp2_with (first | ((with_reducible refine gate_callee (f := 96) rfl ?_); refine goesL_ (some 25) rfl rfl Try.func96 (by kernel_rfl) rfl #[.int .i64 a0, .int .i64 a1, .int .i64 (l2.length : Int)] rfl (by (try simp only [List.map_toArray, List.map_cons, List.map_nil]); rfl) ?_; (with_reducible refine (spec_newImage.calls a0 a1 (l2.length : Int) t79004 t79005 t79006 t79007 _ A11.out).mono ?_); rintro e w12 ⟨v79008, rfl, ho0, hb⟩; refine ⟨_, rfl, ?_⟩; have n0_ := Aside0.mk (Kd.R_lower ho0 (below_size HB.out)); have n1_ := Aside0.mk (blk_below BK79001.out hb); have n2_ := Aside0.mk (below_step HB.out hb); clear BK79001; clear HB; have HO79009 := n0_; have BK79001 := n1_; have HB := n2_; clear n0_ n1_ n2_; (try clear hb); (try clear ho0)) | ((with_reducible refine gate_dst (N := 7) rfl ?_); refine box_event ?hg (N := 7) ?hd (cs := #[.int .i64 0, .int .i64 0, .int .i64 0, .slice none 0 0]) (t := 28) ?hr ?_; (case hd => rfl); (case hg => rfl); (case hr => (go_simp; done)); intro gb79010 hg w13 hbox hb; have n0_ := Aside0.mk (Kd.R_below HO79009.out hb); have n1_ := Aside0.mk (blk_below BK79001.out hb); have n2_ := Aside0.mk (below_step HB.out hb); have n3_ := Aside0.mk (hbox); have n4_ := Aside0.mk ((by rw [hg]; exact (below_size HB.out) : w.heap.size ≤ gb79010)); have n5_ := Aside0.mk ((by rw [hg]; exact (below_size HB.out) : w.heap.size ≤ gb79010)); have n6_ := Aside0.mk ((by rw [hg]; exact Nat.ne_of_lt (blk_lt BK79001.out) : gb79001 ≠ gb79010)); have n7_ := Aside0.mk ((by rw [hg]; exact Nat.ne_of_gt (blk_lt BK79001.out) : gb79010 ≠ gb79001)); clear HO79009; clear BK79001; clear HB; have HO79009 := n0_; have BK79001 := n1_; have HB := n2_; have BK79010 := n3_; have GW79010 := n4_; have GE79010 := n5_; have NB79001_79010 := n6_; have NB79010_79001 := n7_; clear n0_ n1_ n2_ n3_ n4_ n5_ n6_ n7_; clear hb hbox hg; have hnb14 := NB79010_79001.out; have hnc14 := NB79001_79010.out; have hcz15_0 : w13.cell? ⟨gb79010, 0, none⟩ = some (.int .i64 0) := (blk_cell BK79010.out 0).trans rfl; have hcz15_1 : w13.cell? ⟨gb79010, 1, none⟩ = some (.int .i64 0) := (blk_cell BK79010.out 1).trans rfl; have hcz15_2 : w13.cell? ⟨gb79010, 2, none⟩ = some (.int .i64 0) := (blk_cell BK79010.out 2).trans rfl; have hcz15_3 : w13.cell? ⟨gb79010, 3, none⟩ = some (.slice none 0 0) := (blk_cell BK79010.out 3).trans rfl; have hfz15_0 := blk_frozen BK79010.out 0; have hfz15_1 := blk_frozen BK79010.out 1; have hfz15_2 := blk_frozen BK79010.out 2; have hfz15_3 := blk_frozen BK79010.out 3; obtain ⟨Ao16, co16, eo16⟩ := Kd.R_slice HO79009.out; subst eo16))
        go_loopg [8] kj3 (fun kq v8 w' => ∃ (x8_2 : Int) (x79011003_2 : List Int) (u79011003 : Value), v8 = .int .i64 x8_2 ∧ Aside0 (spec_FillImage.l0 kq l2 x8_2 t79004 t79005 t79006 x79011003_2 = some (r1, r2, r3, r4)) ∧ Aside0 (kq ≤ kj3) ∧ Aside0 (Kd.R (Kd.int .i64) 3 w' w.heap.size (fun _ => True) u79011003 x79011003_2) ∧ Aside0 (w'.heap[gb79001]? = some (.cells #[.int .i64 0, .int .i64 0, .int .i64 0, (.slice none 0 0)] 28 (0, 0))) ∧ Aside0 (w'.heap[gb79010]? = some (.cells #[.int .i64 t79004, .int .i64 t79005, .int .i64 t79006, u79011003] 28 (0, 0))) ∧ Aside0 (Below w.heap.size w w'))
        case atStart => exact ⟨(0), (t79007), (.slice Ao16 t79007.length co16), (by rfl), H', ⟨Nat.le_refl _⟩, ⟨by (with_reducible repeat (first | apply Kd.R_alloc | apply Kd.R_drewN | apply Kd.R_drew)); exact Kd.R_mono (Kd.R_far (p := ⟨gb79010, 3, none⟩) (Kd.R_far (p := ⟨gb79010, 2, none⟩) (Kd.R_far (p := ⟨gb79010, 1, none⟩) (Kd.R_far (p := ⟨gb79010, 0, none⟩) (Kd.R_types HO79009.out BK79010.out (by decide)) (fun _ hk => hk.2) (.int .i64 t79004)) (fun _ hk => hk.2) (.int .i64 t79005)) (fun _ hk => hk.2) (.int .i64 t79006)) (fun _ hk => hk.2) (.slice Ao16 t79007.length co16)) (fun _ hk => trivial)⟩, ⟨by (with_reducible repeat (first | refine blk_drewN ?_ _ | refine blk_drew ?_ | refine blk_alloc ?_ _)); refine blk_far ?_ NB79001_79010.out _; (with_reducible repeat (first | refine blk_drewN ?_ _ | refine blk_drew ?_ | refine blk_alloc ?_ _)); refine blk_far ?_ NB79001_79010.out _; (with_reducible repeat (first | refine blk_drewN ?_ _ | refine blk_drew ?_ | refine blk_alloc ?_ _)); refine blk_far ?_ NB79001_79010.out _; (with_reducible repeat (first | refine blk_drewN ?_ _ | refine blk_drew ?_ | refine blk_alloc ?_ _)); refine blk_far ?_ NB79001_79010.out _; (with_reducible repeat (first | refine blk_drewN ?_ _ | refine blk_drew ?_ | refine blk_alloc ?_ _)); exact BK79001.out⟩, ⟨by (with_reducible repeat (first | refine blk_drewN ?_ _ | refine blk_drew ?_ | refine blk_alloc ?_ _)); refine blk_put (cs := #[.int .i64 t79004, .int .i64 t79005, .int .i64 t79006, .slice none 0 0]) ?_ 3 _ rfl; (with_reducible repeat (first | refine blk_drewN ?_ _ | refine blk_drew ?_ | refine blk_alloc ?_ _)); refine blk_put (cs := #[.int .i64 t79004, .int .i64 t79005, .int .i64 0, .slice none 0 0]) ?_ 2 _ rfl; (with_reducible repeat (first | refine blk_drewN ?_ _ | refine blk_drew ?_ | refine blk_alloc ?_ _)); refine blk_put (cs := #[.int .i64 t79004, .int .i64 0, .int .i64 0, .slice none 0 0]) ?_ 1 _ rfl; (with_reducible repeat (first | refine blk_drewN ?_ _ | refine blk_drew ?_ | refine blk_alloc ?_ _)); refine blk_put (cs := #[.int .i64 0, .int .i64 0, .int .i64 0, .slice none 0 0]) ?_ 0 _ rfl; (with_reducible repeat (first | refine blk_drewN ?_ _ | refine blk_drew ?_ | refine blk_alloc ?_ _)); exact BK79010.out⟩, ⟨by repeat (with_reducible first | exact HB.out | refine below_set ?_ GE79010.out)⟩⟩
        case round =>
          clear H'
          try clear c1
          try clear c2
          try clear p2
          try clear c6
          try clear c7
          try clear c9
          try clear c14
          try clear hcz10_0
          try clear hcz10_1
          try clear hcz10_2
          try clear hcz10_3
          try clear hcz15_0
          try clear hcz15_1
          try clear hcz15_2
          try clear hcz15_3
          try clear hfz10_0
          try clear hfz10_1
          try clear hfz10_2
          try clear hfz10_3
          try clear hfz15_0
          try clear hfz15_1
          try clear hfz15_2
          try clear hfz15_3
          try clear p2
          obtain ⟨x8_2, x79011003_2, u79011003, rfl, HA, HK2, HO_79011003, BK79001, BK79010, HB⟩ := hrel
          cases gk with
          | zero => exact absurd HA.out (by simp [spec_FillImage.l0])
          | succ k2 =>
            have H := HA.out
            clear HA
            simp only [spec_FillImage.l0] at H
            by_cases c17 : x8_2 < (x79011003_2.length : Int)
            · rw [if_pos c17] at H
              have c17b0 : decide (x8_2 < (x79011003_2.length : Int)) = true := decide_eq_true c17
              clear c17
              by_cases c18 : (l2.length : Int) = 0
              · rw [if_pos c18] at H
                exact absurd H (by simp)
              · rw [if_neg c18] at H
                have c18b0 : ((l2.length : Int) == 0) = false := beq_eq_false_iff_ne.mpr c18
                have c18b1 : ((l2.length : Int) != 0) = true := bne_iff_ne.mpr c18
                have c18b2 : ¬ (l2 = []) := fun h_ => c18 (by rw [h_]; rfl)
                obtain ⟨ji19, hji19⟩ : ∃ j_ : Int, (Int.tmod x8_2 (l2.length : Int)) = j_ := ⟨_, rfl⟩
                replace H : (if 0 ≤ ji19 then (if ji19 < (l2.length : Int) then (if 0 ≤ x8_2 then (spec_FillImage.l0 k2 l2 (wrap64 (x8_2 + 1)) t79004 t79005 t79006 (x79011003_2.set (x8_2 : Int).toNat (rd l2 ji19))) else none) else none) else none) = some (r1, r2, r3, r4) := by (rw [hji19] at H; exact H)
                by_cases c20 : 0 ≤ (ji19)
                · rw [if_pos c20] at H
                  have c20b0 : decide (0 ≤ ji19) = true := decide_eq_true c20
                  clear c20
                  by_cases c21 : ji19 < (l2.length : Int)
                  · rw [if_pos c21] at H
                    have c21b0 : decide (ji19 < (l2.length : Int)) = true := decide_eq_true c21
                    clear c21
                    by_cases c22 : 0 ≤ x8_2
                    · rw [if_pos c22] at H
                      have c22b0 : decide (0 ≤ x8_2) = true := decide_eq_true c22
                      clear c22
                      obtain ⟨y79012, hy79012⟩ : ∃ y_ : List Int, y_ = (x79011003_2.set (x8_2 : Int).toNat (rd l2 ji19)) := ⟨_, rfl⟩
                      replace H : (spec_FillImage.l0 k2 l2 (wrap64 (x8_2 + 1)) t79004 t79005 t79006 y79012) = some (r1, r2, r3, r4) := by (rw [hy79012]; with_reducible exact H)
                      have Ny79012 := Aside0.mk hy79012
                      clear hy79012
                      have H' := Aside0.mk H
                      clear H
                      have hnb24 := NB79010_79001.out
                      have hnc24 := NB79001_79010.out
                      have hcz25_0 : wr.cell? ⟨gb79010, 0, none⟩ = some (.int .i64 t79004) := (blk_cell BK79010.out 0).trans rfl
                      have hcz25_1 : wr.cell? ⟨gb79010, 1, none⟩ = some (.int .i64 t79005) := (blk_cell BK79010.out 1).trans rfl
                      have hcz25_2 : wr.cell? ⟨gb79010, 2, none⟩ = some (.int .i64 t79006) := (blk_cell BK79010.out 2).trans rfl
                      have hcz25_3 : wr.cell? ⟨gb79010, 3, none⟩ = some u79011003 := (blk_cell BK79010.out 3).trans rfl
                      have hfz25_0 := blk_frozen BK79010.out 0
                      have hfz25_1 := blk_frozen BK79010.out 1
                      have hfz25_2 := blk_frozen BK79010.out 2
                      have hfz25_3 := blk_frozen BK79010.out 3
                      obtain ⟨Ao26, co26, eo26⟩ := Kd.R_slice HO_79011003.out
                      subst eo26
                      try go_wp2
                      have n0_ := Aside0.mk (Kd.R_drew HO_79011003.out)
                      have n1_ := Aside0.mk (blk_drew BK79001.out)
                      have n2_ := Aside0.mk (blk_drew BK79010.out)
                      have n3_ := Aside0.mk (below_drew1 HB.out)
                      clear HO_79011003 BK79001 BK79010 HB
                      revert n0_ n1_ n2_ n3_; intro HO_79011003 BK79001 BK79010 HB
                      have p79011 : 0 ≤ (ji19 : Int) := of_decide_eq_true (by (with_reducible assumption))
                      have q79011 : ji19 < (l2.length : Int) := of_decide_eq_true (by (with_reducible assumption))
                      obtain ⟨ad79011, e79011, hx79011_0⟩ := Kd.at_int HR2.out ji19 p79011 q79011
                      have hw79011_0 := hx79011_0
                      cases e79011
                      replace hx79011_0 := (HB.out.cell (World.block_lt_of_cell? w _ hx79011_0)).trans hx79011_0
                      replace p79011 := eq_true p79011
                      replace q79011 := eq_true q79011
                      have p23 : 0 ≤ (x8_2 : Int) := of_decide_eq_true (by (with_reducible assumption))
                      have q23 : (x8_2 : Int) < ((x79011003_2.length : Int) : Int) := of_decide_eq_true (by (with_reducible assumption))
                      obtain ⟨go23, co23, eo23, gb23, gl23, cl23, HG23⟩ := Kd.R_form HO_79011003.out (by omega)
                      (cases eo23)
                      have GB23 := Aside0.mk gb23
                      have GG23 := Aside0.mk HG23
                      clear gb23 gl23 HG23
                      obtain ⟨hx23_0, hf23_0⟩ := Kd.R_celln 0 HO_79011003.out (x8_2 : Int) p23 q23
                      replace p23 := eq_true p23
                      replace q23 := eq_true q23
                      have HP28 := Kd.R_putn HO_79011003.out (x8_2 : Int) (rd l2 ji19)
                      rw [← Ny79012.out] at HP28
                      have HQ28 := Aside0.mk HP28
                      clear HP28
                      refine start_ (n := 12) (S := fun w' => w'.cell? ⟨gb79010, 0, none⟩ = some (.int .i64 t79004) ∧ w'.cell? ⟨gb79010, 1, none⟩ = some (.int .i64 t79005) ∧ w'.cell? ⟨gb79010, 2, none⟩ = some (.int .i64 t79006) ∧ w'.cell? ⟨gb79010, 3, none⟩ = some (.slice (some ⟨go23, 0, none⟩) x79011003_2.length co26) ∧ w'.cell? (ad79011.add (ji19).toNat) = some (.int .i64 (rd l2 ji19))) (ds := [11]) #[false, false, false, false, false, false, false, false, false, false, false, false] (by kernel_rfl) rfl rfl ⟨(blk_cell BK79010.out 0).trans rfl, (blk_cell BK79010.out 1).trans rfl, (blk_cell BK79010.out 2).trans rfl, (blk_cell BK79010.out 3).trans rfl, ((HB.out.cell (World.block_lt_of_cell? w _ hw79011_0)).trans hw79011_0)⟩ (fun hHeld => ?_); refine with_tabW spec_FillImage.tab7 spec_FillImage.bits7 (fun HT_ HW_ => ?_)
                      generalize wr.drew = w27 at HO_79011003 BK79001 BK79010 HB GG23 HQ28 hf23_0 hx23_0 hx79011_0 hHeld ⊢
                      refine pure_ (i := 0) (N := some 33) (v := ?_) (a' := ?_) #[true, false, false, false, false, false, false, false, false, false, false, false] rfl rfl (any_of HT_.out (by kernel_rfl)) (fun _ _ _ h => h) (Or.inl ⟨by rfl, ?_⟩) ?_ ?_
                      rotate_left
                      · intro w'
                        go_simp
                        with_reducible rfl
                      rotate_left
                      · simp only [Act.put, List.setIfInBounds_toArray, List.set_cons_zero, List.set_cons_succ, i64_w, i32_w]
                        rfl
                      refine pure_ (i := 2) (N := some 35) (v := ?_) (a' := ?_) #[true, false, true, false, false, false, false, false, false, false, false, false] rfl rfl (any_of HT_.out (by kernel_rfl)) (fun _ _ _ h => h) (Or.inl ⟨by rfl, ?_⟩) ?_ ?_
                      rotate_left
                      · intro w'
                        go_simp
                        with_reducible rfl
                      rotate_left
                      · simp only [Act.put, List.setIfInBounds_toArray, List.set_cons_zero, List.set_cons_succ, i64_w, i32_w]
                        rfl
                      refine pure_ (i := 3) (N := some 36) (v := ?_) (a' := ?_) #[true, false, true, true, false, false, false, false, false, false, false, false] rfl rfl (any_of HT_.out (by kernel_rfl)) (fun _ _ _ h => h) (Or.inl ⟨by rfl, ?_⟩) ?_ ?_
                      rotate_left
                      · intro w'
                        go_simp
                        with_reducible rfl
                      rotate_left
                      · simp only [Act.put, List.setIfInBounds_toArray, List.set_cons_zero, List.set_cons_succ, i64_w, i32_w]
                        rfl
                      refine pure_ (i := 4) (N := some 37) (v := ?_) (a' := ?_) #[true, false, true, true, true, false, false, false, false, false, false, false] rfl rfl (any_of HT_.out (by kernel_rfl)) (fun _ _ _ h => h) (Or.inl ⟨by rfl, ?_⟩) ?_ ?_
                      rotate_left
                      · intro w'
                        go_simp
                        with_reducible rfl
                      rotate_left
                      · simp only [Act.put, List.setIfInBounds_toArray, List.set_cons_zero, List.set_cons_succ, i64_w, i32_w]
                        rfl
                      refine pure_ (i := 5) (N := some 38) (v := ?_) (a' := ?_) #[true, false, true, true, true, true, false, false, false, false, false, false] rfl rfl (any_of HT_.out (by kernel_rfl)) (fun _ _ _ h => h) (Or.inl ⟨by rfl, ?_⟩) ?_ ?_
                      rotate_left
                      · intro w'
                        go_simp
                        with_reducible rfl
                      rotate_left
                      · simp only [Act.put, List.setIfInBounds_toArray, List.set_cons_zero, List.set_cons_succ, i64_w, i32_w]
                        rfl
                      refine pure_ (i := 6) (N := some 39) (v := ?_) (a' := ?_) #[true, false, true, true, true, true, true, false, false, false, false, false] rfl rfl (any_of HT_.out (by kernel_rfl)) (fun _ _ _ h => h) (Or.inl ⟨by rfl, ?_⟩) ?_ ?_
                      rotate_left
                      · intro w'
                        go_simp
                        with_reducible rfl
                      rotate_left
                      · simp only [Act.put, List.setIfInBounds_toArray, List.set_cons_zero, List.set_cons_succ, i64_w, i32_w]
                        rfl
                      refine pure_ (i := 7) (N := some 40) (v := ?_) (a' := ?_) #[true, false, true, true, true, true, true, true, false, false, false, false] rfl rfl (any_of HT_.out (by kernel_rfl)) (fun _ _ _ h => h) (Or.inl ⟨by rfl, ?_⟩) ?_ ?_
                      rotate_left
                      · intro w'
                        go_simp
                        with_reducible rfl
                      rotate_left
                      · simp only [Act.put, List.setIfInBounds_toArray, List.set_cons_zero, List.set_cons_succ, i64_w, i32_w]
                        rfl
                      refine pure_ (i := 8) (N := some 41) (v := ?_) (a' := ?_) #[true, false, true, true, true, true, true, true, true, false, false, false] rfl rfl (any_of HT_.out (by kernel_rfl)) (fun _ _ _ h => h) (Or.inl ⟨by rfl, ?_⟩) ?_ ?_
                      rotate_left
                      · intro w'
                        go_simp
                        with_reducible rfl
                      rotate_left
                      · simp only [Act.put, List.setIfInBounds_toArray, List.set_cons_zero, List.set_cons_succ, i64_w, i32_w]
                        rfl
                      refine take_ (i := 1) (N := some 34) (v := ?_) (a' := ?_) #[true, true, true, true, true, true, true, true, true, false, false, false] rfl rfl (take_ofW HT_.out HW_.out (by kernel_rfl)) (fun _ _ _ h => h) (Or.inl ⟨by rfl, ?_⟩) hHeld ?_ ?_
                      rotate_left
                      · rintro w' ⟨s0, s1, s2, s3, s4⟩
                        go_simp
                        with_reducible rfl
                      rotate_left
                      · simp only [Act.put, List.setIfInBounds_toArray, List.set_cons_zero, List.set_cons_succ, i64_w, i32_w]
                        rfl
                      refine take_ (i := 9) (N := some 42) (v := ?_) (a' := ?_) #[true, true, true, true, true, true, true, true, true, true, false, false] rfl rfl (take_ofW HT_.out HW_.out (by kernel_rfl)) (fun _ _ _ h => h) (Or.inl ⟨by rfl, ?_⟩) hHeld ?_ ?_
                      rotate_left
                      · rintro w' ⟨s0, s1, s2, s3, s4⟩
                        go_simp
                        with_reducible rfl
                      rotate_left
                      · simp only [Act.put, List.setIfInBounds_toArray, List.set_cons_zero, List.set_cons_succ, i64_w, i32_w]
                        rfl
                      refine pure_ (i := 10) (N := some 43) (v := ?_) (a' := ?_) #[true, true, true, true, true, true, true, true, true, true, true, false] rfl rfl (any_of HT_.out (by kernel_rfl)) (fun _ _ _ h => h) (Or.inl ⟨by rfl, ?_⟩) ?_ ?_
                      rotate_left
                      · intro w'
                        go_simp
                        with_reducible rfl
                      rotate_left
                      · simp only [Act.put, List.setIfInBounds_toArray, List.set_cons_zero, List.set_cons_succ, i64_w, i32_w]
                        rfl
                      refine last_ (i := 11) (N := none) #[true, true, true, true, true, true, true, true, true, true, true, true] rfl rfl (one_of HT_.out (by kernel_rfl)) (by decide) (fun K hK => ?_)
                      refine skip_ (w1 := ?_) (by rfl) rfl ?_ ?_
                      rotate_left
                      · go_simp
                        rfl
                      refine hK.out _ _ ?_
                      clear hK K
                      refine done_ (done_of HT_.out (by kernel_rfl)) ?_
                      try go_wp2
                      go_roundg k2
                      case measure => have := HJ3.out; have := HK2.out; omega
                      case rel => exact ⟨(wrap64 (x8_2 + 1)), (y79012), (.slice (some ⟨go23, 0, none⟩) x79011003_2.length co26), (by rfl), H', ⟨by have := HJ3.out; have := HK2.out; omega⟩, ⟨by (with_reducible repeat (first | apply Kd.R_alloc | apply Kd.R_drewN | apply Kd.R_drew)); exact HQ28.out⟩, ⟨by (with_reducible repeat (first | refine blk_drewN ?_ _ | refine blk_drew ?_ | refine blk_alloc ?_ _)); refine blk_far ?_ (by have h_ := Kd.R_ne HO_79011003.out BK79001.out (by decide); intro e_; exact h_ (by rw [e_]; rfl)) _; (with_reducible repeat (first | refine blk_drewN ?_ _ | refine blk_drew ?_ | refine blk_alloc ?_ _)); exact BK79001.out⟩, ⟨by (with_reducible repeat (first | refine blk_drewN ?_ _ | refine blk_drew ?_ | refine blk_alloc ?_ _)); refine blk_far ?_ (by have h_ := Kd.R_ne HO_79011003.out BK79010.out (by decide); intro e_; exact h_ (by rw [e_]; rfl)) _; (with_reducible repeat (first | refine blk_drewN ?_ _ | refine blk_drew ?_ | refine blk_alloc ?_ _)); exact BK79010.out⟩, ⟨by repeat (with_reducible first | exact HB.out | refine below_set ?_ GB23.out)⟩⟩
                    · rw [if_neg c22] at H
                      exact absurd H (by simp)
                  · rw [if_neg c21] at H
                    exact absurd H (by simp)
                · rw [if_neg c20] at H
                  exact absurd H (by simp)
            · rw [if_neg c17] at H
              have c17b0 : decide (x8_2 < (x79011003_2.length : Int)) = false := decide_eq_false c17
              clear c17
              simp only [Option.some.injEq, Prod.mk.injEq] at H
              obtain ⟨rfl, rfl, rfl, rfl⟩ := H
              have hnb29 := NB79010_79001.out
              have hnc29 := NB79001_79010.out
              have hcz30_0 : wr.cell? ⟨gb79010, 0, none⟩ = some (.int .i64 t79004) := (blk_cell BK79010.out 0).trans rfl
              have hcz30_1 : wr.cell? ⟨gb79010, 1, none⟩ = some (.int .i64 t79005) := (blk_cell BK79010.out 1).trans rfl
              have hcz30_2 : wr.cell? ⟨gb79010, 2, none⟩ = some (.int .i64 t79006) := (blk_cell BK79010.out 2).trans rfl
              have hcz30_3 : wr.cell? ⟨gb79010, 3, none⟩ = some u79011003 := (blk_cell BK79010.out 3).trans rfl
              have hfz30_0 := blk_frozen BK79010.out 0
              have hfz30_1 := blk_frozen BK79010.out 1
              have hfz30_2 := blk_frozen BK79010.out 2
              have hfz30_3 := blk_frozen BK79010.out 3
              obtain ⟨Ao31, co31, eo31⟩ := Kd.R_slice HO_79011003.out
              subst eo31
              have hcz32_0 : wr.cell? ⟨gb79001, 0, none⟩ = some (.int .i64 0) := (blk_cell BK79001.out 0).trans rfl
              have hcz32_1 : wr.cell? ⟨gb79001, 1, none⟩ = some (.int .i64 0) := (blk_cell BK79001.out 1).trans rfl
              have hcz32_2 : wr.cell? ⟨gb79001, 2, none⟩ = some (.int .i64 0) := (blk_cell BK79001.out 2).trans rfl
              have hcz32_3 : wr.cell? ⟨gb79001, 3, none⟩ = some (.slice none 0 0) := (blk_cell BK79001.out 3).trans rfl
              have hfz32_0 := blk_frozen BK79001.out 0
              have hfz32_1 := blk_frozen BK79001.out 1
              have hfz32_2 := blk_frozen BK79001.out 2
              have hfz32_3 := blk_frozen BK79001.out 3
              go_wp2
              refine bodyPost_ret (results_cell_row rfl _ _ gb79001 28 #[.int .i64 t79004, .int .i64 t79005, .int .i64 t79006, .slice Ao31 x79011003_2.length co31] (0, 0) _ rfl (by refine blk_put (cs := #[.int .i64 t79004, .int .i64 t79005, .int .i64 t79006, .slice none 0 0]) ?_ 3 _ rfl; (with_reducible repeat (first | refine blk_drewN ?_ _ | refine blk_drew ?_ | refine blk_alloc ?_ _)); refine blk_put (cs := #[.int .i64 t79004, .int .i64 t79005, .int .i64 0, .slice none 0 0]) ?_ 2 _ rfl; (with_reducible repeat (first | refine blk_drewN ?_ _ | refine blk_drew ?_ | refine blk_alloc ?_ _)); refine blk_put (cs := #[.int .i64 t79004, .int .i64 0, .int .i64 0, .slice none 0 0]) ?_ 1 _ rfl; (with_reducible repeat (first | refine blk_drewN ?_ _ | refine blk_drew ?_ | refine blk_alloc ?_ _)); refine blk_put (cs := #[.int .i64 0, .int .i64 0, .int .i64 0, .slice none 0 0]) ?_ 0 _ rfl; (with_reducible repeat (first | refine blk_drewN ?_ _ | refine blk_drew ?_ | refine blk_alloc ?_ _)); exact BK79001.out) Try.underlying28 rfl (by kernel_rfl)) rfl ?_
              exact ⟨_, by rfl, by (with_reducible repeat (first | apply Kd.R_alloc | apply Kd.R_drewN | apply Kd.R_drew)); exact Kd.R_mono (Kd.R_far (p := ⟨gb79001, 3, none⟩) (Kd.R_far (p := ⟨gb79001, 2, none⟩) (Kd.R_far (p := ⟨gb79001, 1, none⟩) (Kd.R_far (p := ⟨gb79001, 0, none⟩) (Kd.R_types HO_79011003.out BK79001.out (by decide)) (fun _ hk => hk.2) (.int .i64 t79004)) (fun _ hk => hk.2) (.int .i64 t79005)) (fun _ hk => hk.2) (.int .i64 t79006)) (fun _ hk => hk.2) (.slice Ao31 x79011003_2.length co31)) (fun _ hk => trivial), by repeat (with_reducible first | exact HB.out | refine below_set ?_ GE79001.out)⟩

end Go.Proofs.Ytgccpcnakkioiaa.Q
