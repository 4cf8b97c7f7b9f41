/- A part of the proof that the statement FnPatchImageSaid holds, under no condition of its own: Patches carry all changes: the law FnPatchImage over lists of numbers alone. -/
import Derived.Test.YtbgohbinonkhfaaCFnPatchImage1
import Derived.Test.YtbgohbinonkhfaaCFnPatchImage2
import Derived.OrdersHeld
import Derived.Deep.RegionHeld
import Derived.RegionTactic
namespace Go.Proofs.Ytbgohbinonkhfaa.Q
open Go.RowKit Go.Proofs.YtbgohbinonkhfaaW.PrintWords Go.Proofs.YtbgohbinonkhfaaW.PrintLast Go.Proofs.YtbgohbinonkhfaaW.PrintMore
attribute [local go_sem] max2_int min2_int max_two min_two max_three min_three max_four min_four
set_option linter.unusedVariables false
set_option linter.unusedSimpArgs false
open Go.Proofs.YtbgohbinonkhfaaW.PrintWords.Aside0 (mk)
set_option maxHeartbeats 12000000
set_option maxRecDepth 100000
def spec_validBox.f (a0_0 : Int) (a0_1 : Int) (a0_2 : Int) (l0_3 : List Int) (a1_0 : Int) (a1_1 : Int) (a1_2 : Int) (a1_3 : Int) : Option Bool := (spec_inRange.f a1_0 0 (wrap64 (a0_0 - 1))).bind fun tz3 => (if tz3 = true then ((spec_inRange.f a1_1 0 (wrap64 (a0_1 - 1))).bind fun tz2 => (if tz2 = true then ((spec_inRange.f a1_2 1 (wrap64 (a0_0 - a1_0))).bind fun tz1 => (if tz1 = true then ((spec_inRange.f a1_3 1 (wrap64 (a0_1 - a1_1))).bind fun tz0 => (some tz0)) else (some false))) else (some false))) else (some false))
theorem spec_validBox.calls (a0_0 : Int) (a0_1 : Int) (a0_2 : Int) (A0_3 : Option Addr) (c0_3 : Nat) (l0_3 : List Int) (a1_0 : Int) (a1_1 : Int) (a1_2 : Int) (a1_3 : Int) (r : Bool) (w : World) (hr0_3 : Kd.C (Kd.int .i64) w A0_3 l0_3.length l0_3) (hc0_3 : l0_3.length ≤ c0_3) (h : spec_validBox.f a0_0 a0_1 a0_2 l0_3 a1_0 a1_1 a1_2 a1_3 = some r) :
  Calls Try.prog 87 #[.agg #[.int .i64 a0_0, .int .i64 a0_1, .int .i64 a0_2, .slice A0_3 l0_3.length c0_3], .agg #[.int .i64 a1_0, .int .i64 a1_1, .int .i64 a1_2, .int .i64 a1_3]] w fun e w' => e = .returned (.bool r) ∧ Below w.heap.size w w' := by
 clear hr0_3 hc0_3
 have HB := mk (Below.refl w.heap.size w)
 have H : ((spec_inRange.f a1_0 0 (wrap64 (a0_0 - 1))).bind fun tz3 => (if tz3 = true then ((spec_inRange.f a1_1 0 (wrap64 (a0_1 - 1))).bind fun tz2 => (if tz2 = true then ((spec_inRange.f a1_2 1 (wrap64 (a0_0 - a1_0))).bind fun tz1 => (if tz1 = true then ((spec_inRange.f a1_3 1 (wrap64 (a0_1 - a1_1))).bind fun tz0 => (some tz0)) else (some false))) else (some false))) else (some false))) = some r := h
 clear h
 replace H := Option.bind_eq_some_iff.mp H
 obtain ⟨tz3, A30, H⟩ := H
 replace H : (if tz3 = true then ((spec_inRange.f a1_1 0 (wrap64 (a0_1 - 1))).bind fun tz2 => (if tz2 = true then ((spec_inRange.f a1_2 1 (wrap64 (a0_0 - a1_0))).bind fun tz1 => (if tz1 = true then ((spec_inRange.f a1_3 1 (wrap64 (a0_1 - a1_1))).bind fun tz0 => (some tz0)) else (some false))) else (some false))) else (some false)) = some r := H
 have A3 := mk A30
 clear A30
 by_cases c4 : tz3 = true
 ·subst c4
  have H1 : ((spec_inRange.f a1_1 0 (wrap64 (a0_1 - 1))).bind fun tz2 => (if tz2 = true then ((spec_inRange.f a1_2 1 (wrap64 (a0_0 - a1_0))).bind fun tz1 => (if tz1 = true then ((spec_inRange.f a1_3 1 (wrap64 (a0_1 - a1_1))).bind fun tz0 => (some tz0)) else (some false))) else (some false))) = some r := by rw [if_pos rfl] at H; exact H
  clear H
  have H := H1
  clear H1
  replace H := Option.bind_eq_some_iff.mp H
  obtain ⟨tz2, A50, H⟩ := H
  replace H : (if tz2 = true then ((spec_inRange.f a1_2 1 (wrap64 (a0_0 - a1_0))).bind fun tz1 => (if tz1 = true then ((spec_inRange.f a1_3 1 (wrap64 (a0_1 - a1_1))).bind fun tz0 => (some tz0)) else (some false))) else (some false)) = some r := H
  have A5 := mk A50
  clear A50
  by_cases c6 : tz2 = true
  ·subst c6
   have H1 : ((spec_inRange.f a1_2 1 (wrap64 (a0_0 - a1_0))).bind fun tz1 => (if tz1 = true then ((spec_inRange.f a1_3 1 (wrap64 (a0_1 - a1_1))).bind fun tz0 => (some tz0)) else (some false))) = some r := by rw [if_pos rfl] at H; exact H
   clear H
   have H := H1
   clear H1
   replace H := Option.bind_eq_some_iff.mp H
   obtain ⟨tz1, A70, H⟩ := H
   replace H : (if tz1 = true then ((spec_inRange.f a1_3 1 (wrap64 (a0_1 - a1_1))).bind fun tz0 => (some tz0)) else (some false)) = some r := H
   have A7 := mk A70
   clear A70
   by_cases c8 : tz1 = true
   ·subst c8
    have H1 : ((spec_inRange.f a1_3 1 (wrap64 (a0_1 - a1_1))).bind fun tz0 => (some tz0)) = some r := by rw [if_pos rfl] at H; exact H
    clear H
    have H := H1
    clear H1
    replace H := Option.bind_eq_some_iff.mp H
    obtain ⟨tz0, A90, H⟩ := H
    replace H : (some tz0) = some r := H
    have A9 := mk A90
    clear A90
    obtain rfl := Option.some.inj H
    go_enter Try.func87, Try.ntmps87
    go_wp2_with (first | ((with_reducible refine gate_dst (N := 2) rfl ?_); refine box_event (by rfl) (N := 2) (by rfl) (cs := #[.int .i64 a0_0, .int .i64 a0_1, .int .i64 a0_2, .slice A0_3 l0_3.length c0_3]) (t := 28) (by go_simp; done) ?_; intro gbz1 hg w10 hbox hb; replace HB := mk (below_step HB.out hb); have BKz0 := mk (hbox); clear hb hbox hg) | ((with_reducible refine gate_dst (N := 3) rfl ?_); refine box_event (by rfl) (N := 3) (by rfl) (cs := #[.int .i64 a1_0, .int .i64 a1_1, .int .i64 a1_2, .int .i64 a1_3]) (t := 60) (by go_simp; done) ?_; intro gbz0 hg w11 hbox hb; replace BKz0 := mk (blk_below BKz0.out hb); replace HB := mk (below_step HB.out hb); have BKz1 := mk (hbox); clear hb hbox hg; obtain ⟨hcz13_0, hcz13_1, hcz13_2, hcz13_3, -⟩ := c4 BKz1.out; have hcz14_0 : w11.cell? ⟨gbz1, 0, none⟩ = some (.int .i64 a0_0) := (blk_cell BKz0.out 0).trans rfl; have hcz14_1 : w11.cell? ⟨gbz1, 1, none⟩ = some (.int .i64 a0_1) := (blk_cell BKz0.out 1).trans rfl) | ((with_reducible refine gate_callee (f := 62) rfl ?_); refine goesL_ (some 10) rfl rfl Try.func62 (by kernel_rfl) rfl #[.int .i64 a1_0, .int .i64 0, .int .i64 (wrap64 (a0_0 - 1))] rfl (by (try simp only [bitvec_to_nat]); rfl) ?_; (with_reducible refine (spec_inRange.calls a1_0 0 (wrap64 (a0_0 - 1)) true _ A3.out).mono ?_); rintro e w' ⟨rfl, ⟨nd, rfl⟩⟩; refine ⟨_, rfl, ?_⟩) | (go_at_call 62; (with_reducible refine (spec_inRange.calls a1_1 0 (wrap64 (a0_1 - 1)) true _ A5.out).mono ?_); rintro e w' ⟨rfl, ⟨nd, rfl⟩⟩) | (go_at_call 62; (with_reducible refine (spec_inRange.calls a1_2 1 (wrap64 (a0_0 - a1_0)) true _ A7.out).mono ?_); rintro e w' ⟨rfl, ⟨nd, rfl⟩⟩) | (go_at_call 62; (with_reducible refine (spec_inRange.calls a1_3 1 (wrap64 (a0_1 - a1_1)) tz0 _ A9.out).mono ?_); rintro e w' ⟨rfl, ⟨nd, rfl⟩⟩))
    go_ret
    exact ⟨by rfl, by repeat (with_reducible first | exact HB.out | apply pw_below_drewN)⟩
   replace c8 := Bool.eq_false_iff.mpr c8
   subst c8
   have H1 : (some false) = some r := by rw [if_neg (show ¬ (false = true) by decide)] at H; exact H
   clear H
   have H := H1
   clear H1
   obtain rfl := Option.some.inj H
   go_enter Try.func87, Try.ntmps87
   go_wp2_with (first | ((with_reducible refine gate_dst (N := 2) rfl ?_); refine box_event (by rfl) (N := 2) (by rfl) (cs := #[.int .i64 a0_0, .int .i64 a0_1, .int .i64 a0_2, .slice A0_3 l0_3.length c0_3]) (t := 28) (by go_simp; done) ?_; intro gbz1 hg w15 hbox hb; replace HB := mk (below_step HB.out hb); have BKz0 := mk (hbox); clear hb hbox hg) | ((with_reducible refine gate_dst (N := 3) rfl ?_); refine box_event (by rfl) (N := 3) (by rfl) (cs := #[.int .i64 a1_0, .int .i64 a1_1, .int .i64 a1_2, .int .i64 a1_3]) (t := 60) (by go_simp; done) ?_; intro gbz0 hg w16 hbox hb; replace BKz0 := mk (blk_below BKz0.out hb); replace HB := mk (below_step HB.out hb); have BKz1 := mk (hbox); clear hb hbox hg; obtain ⟨hcz18_0, hcz18_1, hcz18_2, -⟩ := c4 BKz1.out; have hcz19_0 : w16.cell? ⟨gbz1, 0, none⟩ = some (.int .i64 a0_0) := (blk_cell BKz0.out 0).trans rfl; have hcz19_1 : w16.cell? ⟨gbz1, 1, none⟩ = some (.int .i64 a0_1) := (blk_cell BKz0.out 1).trans rfl) | ((with_reducible refine gate_callee (f := 62) rfl ?_); refine goesL_ (some 10) rfl rfl Try.func62 (by kernel_rfl) rfl #[.int .i64 a1_0, .int .i64 0, .int .i64 (wrap64 (a0_0 - 1))] rfl (by (try simp only [bitvec_to_nat]); rfl) ?_; (with_reducible refine (spec_inRange.calls a1_0 0 (wrap64 (a0_0 - 1)) true _ A3.out).mono ?_); rintro e w' ⟨rfl, ⟨nd, rfl⟩⟩; refine ⟨_, rfl, ?_⟩) | (go_at_call 62; (with_reducible refine (spec_inRange.calls a1_1 0 (wrap64 (a0_1 - 1)) true _ A5.out).mono ?_); rintro e w' ⟨rfl, ⟨nd, rfl⟩⟩) | (go_at_call 62; (with_reducible refine (spec_inRange.calls a1_2 1 (wrap64 (a0_0 - a1_0)) false _ A7.out).mono ?_); rintro e w' ⟨rfl, ⟨nd, rfl⟩⟩))
   go_ret
   exact ⟨by rfl, by repeat (with_reducible first | exact HB.out | apply pw_below_drewN)⟩
  replace c6 := Bool.eq_false_iff.mpr c6
  subst c6
  have H1 : (some false) = some r := by rw [if_neg (show ¬ (false = true) by decide)] at H; exact H
  clear H
  have H := H1
  clear H1
  obtain rfl := Option.some.inj H
  go_enter Try.func87, Try.ntmps87
  go_wp2_with (first | ((with_reducible refine gate_dst (N := 2) rfl ?_); refine box_event (by rfl) (N := 2) (by rfl) (cs := #[.int .i64 a0_0, .int .i64 a0_1, .int .i64 a0_2, .slice A0_3 l0_3.length c0_3]) (t := 28) (by go_simp; done) ?_; intro gbz1 hg w20 hbox hb; replace HB := mk (below_step HB.out hb); have BKz0 := mk (hbox); clear hb hbox hg) | ((with_reducible refine gate_dst (N := 3) rfl ?_); refine box_event (by rfl) (N := 3) (by rfl) (cs := #[.int .i64 a1_0, .int .i64 a1_1, .int .i64 a1_2, .int .i64 a1_3]) (t := 60) (by go_simp; done) ?_; intro gbz0 hg w21 hbox hb; replace BKz0 := mk (blk_below BKz0.out hb); replace HB := mk (below_step HB.out hb); have BKz1 := mk (hbox); clear hb hbox hg; obtain ⟨hcz23_0, hcz23_1, -⟩ := c4 BKz1.out; have hcz24_0 : w21.cell? ⟨gbz1, 0, none⟩ = some (.int .i64 a0_0) := (blk_cell BKz0.out 0).trans rfl; have hcz24_1 : w21.cell? ⟨gbz1, 1, none⟩ = some (.int .i64 a0_1) := (blk_cell BKz0.out 1).trans rfl) | ((with_reducible refine gate_callee (f := 62) rfl ?_); refine goesL_ (some 10) rfl rfl Try.func62 (by kernel_rfl) rfl #[.int .i64 a1_0, .int .i64 0, .int .i64 (wrap64 (a0_0 - 1))] rfl (by (try simp only [bitvec_to_nat]); rfl) ?_; (with_reducible refine (spec_inRange.calls a1_0 0 (wrap64 (a0_0 - 1)) true _ A3.out).mono ?_); rintro e w' ⟨rfl, ⟨nd, rfl⟩⟩; refine ⟨_, rfl, ?_⟩) | (go_at_call 62; (with_reducible refine (spec_inRange.calls a1_1 0 (wrap64 (a0_1 - 1)) false _ A5.out).mono ?_); rintro e w' ⟨rfl, ⟨nd, rfl⟩⟩))
  go_ret
  exact ⟨by rfl, by repeat (with_reducible first | exact HB.out | apply pw_below_drewN)⟩
 replace c4 := Bool.eq_false_iff.mpr c4
 subst c4
 have H1 : (some false) = some r := by rw [if_neg (show ¬ (false = true) by decide)] at H; exact H
 clear H
 have H := H1
 clear H1
 obtain rfl := Option.some.inj H
 go_enter Try.func87, Try.ntmps87
 go_wp2_with (first | ((with_reducible refine gate_dst (N := 2) rfl ?_); refine box_event (by rfl) (N := 2) (by rfl) (cs := #[.int .i64 a0_0, .int .i64 a0_1, .int .i64 a0_2, .slice A0_3 l0_3.length c0_3]) (t := 28) (by go_simp; done) ?_; intro gbz1 hg w25 hbox hb; replace HB := mk (below_step HB.out hb); have BKz0 := mk (hbox); clear hb hbox hg) | ((with_reducible refine gate_dst (N := 3) rfl ?_); refine box_event (by rfl) (N := 3) (by rfl) (cs := #[.int .i64 a1_0, .int .i64 a1_1, .int .i64 a1_2, .int .i64 a1_3]) (t := 60) (by go_simp; done) ?_; intro gbz0 hg w26 hbox hb; replace BKz0 := mk (blk_below BKz0.out hb); replace HB := mk (below_step HB.out hb); have BKz1 := mk (hbox); clear hb hbox hg; have hcz28_0 : w26.cell? ⟨gbz0, 0, none⟩ = some (.int .i64 a1_0) := (blk_cell BKz1.out 0).trans rfl; have hcz29_0 : w26.cell? ⟨gbz1, 0, none⟩ = some (.int .i64 a0_0) := (blk_cell BKz0.out 0).trans rfl) | ((with_reducible refine gate_callee (f := 62) rfl ?_); refine goesL_ (some 10) rfl rfl Try.func62 (by kernel_rfl) rfl #[.int .i64 a1_0, .int .i64 0, .int .i64 (wrap64 (a0_0 - 1))] rfl (by (try simp only [bitvec_to_nat]); rfl) ?_; (with_reducible refine (spec_inRange.calls a1_0 0 (wrap64 (a0_0 - 1)) false _ A3.out).mono ?_); rintro e w' ⟨rfl, ⟨nd, rfl⟩⟩; refine ⟨_, rfl, ?_⟩))
 go_ret
 exact ⟨by rfl, by repeat (with_reducible first | exact HB.out | apply pw_below_drewN)⟩


def spec_onImage.f (a0_0 : Int) (a0_1 : Int) (a0_2 : Int) (l0_3 : List Int) (a1 : Int) (a2 : Int) : Option (Bool) := (spec_inRange.f a1 0 (wrap64 (a0_0 - 1))).bind fun t62002 => (if t62002 = true then ((spec_inRange.f a2 0 (wrap64 (a0_1 - 1))).bind fun t62003 => (some t62003)) else (some false))
theorem spec_onImage.calls (a0_0 : Int) (a0_1 : Int) (a0_2 : Int) (A0_3 : Option Addr) (c0_3 : Nat) (l0_3 : List Int) (a1 : Int) (a2 : Int) (r : Bool) (w : World) (hr0_3 : Kd.C (Kd.int .i64) w A0_3 l0_3.length l0_3) (hc0_3 : l0_3.length ≤ c0_3) (h : spec_onImage.f a0_0 a0_1 a0_2 l0_3 a1 a2 = some r) :
  Calls Try.prog 61 #[.agg #[.int .i64 a0_0, .int .i64 a0_1, .int .i64 a0_2, .slice A0_3 l0_3.length c0_3], .int .i64 a1, .int .i64 a2] w fun e w' => e = .returned (.bool r) ∧ Below w.heap.size w w' := by
 have hu28 := Try.underlying28
 have HR0_3 := mk hr0_3
 have HC0_3 := mk hc0_3
 clear hr0_3 hc0_3
 have HB := mk (Below.refl w.heap.size w)
 have H : ((spec_inRange.f a1 0 (wrap64 (a0_0 - 1))).bind fun t62002 => (if t62002 = true then ((spec_inRange.f a2 0 (wrap64 (a0_1 - 1))).bind fun t62003 => (some t62003)) else (some false))) = some r := h
 clear h
 replace H := Option.bind_eq_some_iff.mp H
 obtain ⟨t62002, A40, H⟩ := H
 replace H : (if t62002 = true then ((spec_inRange.f a2 0 (wrap64 (a0_1 - 1))).bind fun t62003 => (some t62003)) else (some false)) = some r := H
 have A4 := mk A40
 clear A40
 by_cases c5 : t62002 = true
 ·subst c5
  have H1 : ((spec_inRange.f a2 0 (wrap64 (a0_1 - 1))).bind fun t62003 => (some t62003)) = some r := by rw [if_pos rfl] at H; exact H
  clear H
  have H := H1
  clear H1
  replace H := Option.bind_eq_some_iff.mp H
  obtain ⟨t62003, A60, H⟩ := H
  replace H : (some t62003) = some r := H
  have A6 := mk A60
  clear A60
  obtain rfl := Option.some.inj H
  go_enter Try.func61, Try.ntmps61
  go_wp2_with (first | ((with_reducible refine gate_dst (N := 3) rfl ?_); refine box_event ?hg (N := 3) ?hd (cs := #[.int .i64 a0_0, .int .i64 a0_1, .int .i64 a0_2, .slice A0_3 l0_3.length c0_3]) (t := 28) ?hr ?_; (case hd => rfl); (case hg => rfl); (case hr => first | (go_simp; done) | (go_simp; rfl)); intro gb62001 hg w7 hbox hb; have n0_ := mk (below_step (by repeat (first | (with_reducible first | exact HB.out | apply below_alloc | apply pw_below_drewN | apply below_drew1) | exact HB.out)) hb); have n1_ := mk (hbox); have n2_ := mk ((by rw [hg]; exact (below_size (by repeat (first | (with_reducible first | exact HB.out | apply below_alloc | apply pw_below_drewN | apply below_drew1) | exact HB.out))) : w.heap.size ≤ gb62001)); have n3_ := mk ((by rw [hg]; exact (below_size (by repeat (first | (with_reducible first | exact HB.out | apply below_alloc | apply pw_below_drewN | apply below_drew1) | exact HB.out))) : w.heap.size ≤ gb62001)); clear HB; have HB := n0_; have BK62001 := n1_; have GW62001 := n2_; have GE62001 := n3_; clear n0_ n1_ n2_ n3_; clear hb hbox hg; have hcz8_0 : w7.cell? ⟨gb62001, 0, none⟩ = some (.int .i64 a0_0) := (blk_cell BK62001.out 0).trans rfl; have hcz8_1 : w7.cell? ⟨gb62001, 1, none⟩ = some (.int .i64 a0_1) := (blk_cell BK62001.out 1).trans rfl; have hcz8_2 : w7.cell? ⟨gb62001, 2, none⟩ = some (.int .i64 a0_2) := (blk_cell BK62001.out 2).trans rfl; have hcz8_3 : w7.cell? ⟨gb62001, 3, none⟩ = some (.slice A0_3 l0_3.length c0_3) := (blk_cell BK62001.out 3).trans rfl; have hfz8_0 := blk_frozen BK62001.out 0; have hfz8_1 := blk_frozen BK62001.out 1; have hfz8_2 := blk_frozen BK62001.out 2; have hfz8_3 := blk_frozen BK62001.out 3) | ((with_reducible refine gate_callee (f := 62) rfl ?_); refine goesL_ (some 11) rfl rfl Try.func62 (by kernel_rfl) rfl #[.int .i64 a1, .int .i64 0, .int .i64 (wrap64 (a0_0 - 1))] rfl (by (try simp only [bitvec_to_nat]); first | done | rfl | (simp only [List.length_drop, List.length_take]; rfl)) ?_; (with_reducible refine (spec_inRange.calls a1 0 (wrap64 (a0_0 - 1)) true _ A4.out).mono ?_); rintro e w' ⟨rfl, ⟨nd, rfl⟩⟩; refine ⟨_, rfl, ?_⟩) | (go_at_call 62; (with_reducible refine (spec_inRange.calls a2 0 (wrap64 (a0_1 - 1)) t62003 _ A6.out).mono ?_); rintro e w' ⟨rfl, ⟨nd, rfl⟩⟩))
  go_ret
  exact ⟨by first | rfl | (simp [errW_none, errW_some] <;> rfl) | (simp [*, errW_none, errW_some] <;> rfl), by repeat (first | (with_reducible first | exact HB.out | apply below_alloc | apply pw_below_drewN | apply below_drew1 | refine below_set ?_ GE62001.out) | exact HB.out)⟩
 ·replace c5 := Bool.eq_false_iff.mpr c5
  subst c5
  have H1 : (some false) = some r := by rw [if_neg (show ¬ (false = true) by decide)] at H; exact H
  clear H
  have H := H1
  clear H1
  obtain rfl := Option.some.inj H
  go_enter Try.func61, Try.ntmps61
  go_wp2_with (first | ((with_reducible refine gate_dst (N := 3) rfl ?_); refine box_event ?hg (N := 3) ?hd (cs := #[.int .i64 a0_0, .int .i64 a0_1, .int .i64 a0_2, .slice A0_3 l0_3.length c0_3]) (t := 28) ?hr ?_; (case hd => rfl); (case hg => rfl); (case hr => first | (go_simp; done) | (go_simp; rfl)); intro gb62001 hg w9 hbox hb; have n0_ := mk (below_step (by repeat (first | (with_reducible first | exact HB.out | apply below_alloc | apply pw_below_drewN | apply below_drew1) | exact HB.out)) hb); have n1_ := mk (hbox); have n2_ := mk ((by rw [hg]; exact (below_size (by repeat (first | (with_reducible first | exact HB.out | apply below_alloc | apply pw_below_drewN | apply below_drew1) | exact HB.out))) : w.heap.size ≤ gb62001)); have n3_ := mk ((by rw [hg]; exact (below_size (by repeat (first | (with_reducible first | exact HB.out | apply below_alloc | apply pw_below_drewN | apply below_drew1) | exact HB.out))) : w.heap.size ≤ gb62001)); clear HB; have HB := n0_; have BK62001 := n1_; have GW62001 := n2_; have GE62001 := n3_; clear n0_ n1_ n2_ n3_; clear hb hbox hg; have hcz10_0 : w9.cell? ⟨gb62001, 0, none⟩ = some (.int .i64 a0_0) := (blk_cell BK62001.out 0).trans rfl; have hcz10_1 : w9.cell? ⟨gb62001, 1, none⟩ = some (.int .i64 a0_1) := (blk_cell BK62001.out 1).trans rfl; have hcz10_2 : w9.cell? ⟨gb62001, 2, none⟩ = some (.int .i64 a0_2) := (blk_cell BK62001.out 2).trans rfl; have hcz10_3 : w9.cell? ⟨gb62001, 3, none⟩ = some (.slice A0_3 l0_3.length c0_3) := (blk_cell BK62001.out 3).trans rfl; have hfz10_0 := blk_frozen BK62001.out 0; have hfz10_1 := blk_frozen BK62001.out 1; have hfz10_2 := blk_frozen BK62001.out 2; have hfz10_3 := blk_frozen BK62001.out 3) | ((with_reducible refine gate_callee (f := 62) rfl ?_); refine goesL_ (some 11) rfl rfl Try.func62 (by kernel_rfl) rfl #[.int .i64 a1, .int .i64 0, .int .i64 (wrap64 (a0_0 - 1))] rfl (by (try simp only [bitvec_to_nat]); first | done | rfl | (simp only [List.length_drop, List.length_take]; rfl)) ?_; (with_reducible refine (spec_inRange.calls a1 0 (wrap64 (a0_0 - 1)) false _ A4.out).mono ?_); rintro e w' ⟨rfl, ⟨nd, rfl⟩⟩; refine ⟨_, rfl, ?_⟩))
  go_ret
  exact ⟨by first | rfl | (simp [errW_none, errW_some] <;> rfl) | (simp [*, errW_none, errW_some] <;> rfl), by repeat (first | (with_reducible first | exact HB.out | apply below_alloc | apply pw_below_drewN | apply below_drew1 | refine below_set ?_ GE62001.out) | exact HB.out)⟩


def spec_setPixel.l0 : Nat → Int → Int → List Int → Int → Int → Int → Int → List Int → Option (List Int)
 | 0, _, _, _, _, _, _, _, _ => none
 | k + 1, x1, x2, x3, x8, xz2, xz4, xz1, xz3 => if x8 < xz1 then (if 0 ≤ x8 then (if x8 < (x3.length : Int) then (if 0 ≤ (wrap64 ((wrap64 ((wrap64 ((wrap64 (x2 * xz2)) + x1)) * xz1)) + x8)) then (if (wrap64 ((wrap64 ((wrap64 ((wrap64 (x2 * xz2)) + x1)) * xz1)) + x8)) < (xz3.length : Int) then (spec_setPixel.l0 k x1 x2 x3 (wrap64 (x8 + 1)) xz2 xz4 xz1 (xz3.set ((wrap64 ((wrap64 ((wrap64 ((wrap64 (x2 * xz2)) + x1)) * xz1)) + x8)) : Int).toNat (rd x3 x8))) else none) else none) else none) else none) else (some xz3)
def spec_setPixel.f (k : Nat) (a0_0 : Int) (a0_1 : Int) (a0_2 : Int) (l0_3 : List Int) (a1 : Int) (a2 : Int) (l3 : List Int) : Option (List Int) := spec_setPixel.l0 k a1 a2 l3 0 a0_0 a0_1 a0_2 l0_3
def spec_setPixel.T4 : Bool × List (List Nat × List Nat) := (true, [([], []), ([0], [0]), ([], []), ([], []), ([3], [3]), ([2, 4], [2, 4]), ([], []), ([5, 6], [5, 6]), ([], []), ([8], [8]), ([7, 9], [7, 9]), ([], []), ([10, 11], [10, 11]), ([], []), ([], []), ([13, 14], [13, 14]), ([15], [15]), ([1, 12, 0, 1, 2, 3, 4, 5, 6, 7, 8, 9, 10, 11, 12, 13, 14, 15, 16], [1, 12]), ([17, 16, 0, 1, 2, 3, 4, 5, 6, 7, 8, 9, 10, 11, 12, 13, 14, 15, 16], [16, 17])])
def spec_setPixel.B4 : List Nat := [0, 1, 0, 0, 8, 28, 0, 124, 0, 256, 1020, 0, 4092, 0, 0, 24576, 57344, 131071, 262143]
theorem spec_setPixel.tab4 : rtab .any (opsOf Try.f106 4) = spec_setPixel.T4 := by kernel_rfl
theorem spec_setPixel.bits4 : waitsOk spec_setPixel.T4.2 spec_setPixel.B4 = true := by kernel_rfl
theorem spec_setPixel.calls (k : Nat) (a0_0 : Int) (a0_1 : Int) (a0_2 : Int) (P0_3_ : Nat → Prop) (u9000_ : Value) (l0_3 : List Int) (a1 : Int) (a2 : Int) (A3 : Option Addr) (c3 : Nat) (l3 : List Int) (r : List Int) (w0 w : World) (hB : Below w0.heap.size w0 w) (ho0_3 : Kd.R (Kd.int .i64) 3 w w0.heap.size P0_3_ u9000_ l0_3) (hr3 : ∀ W_, Kept w W_ (fun k_ => P0_3_ k_) → Kd.C (Kd.int .i64) W_ A3 l3.length l3) (hc3 : l3.length ≤ c3) (h : spec_setPixel.f k a0_0 a0_1 a0_2 l0_3 a1 a2 l3 = some r) :
  Calls Try.prog 106 #[.agg #[.int .i64 a0_0, .int .i64 a0_1, .int .i64 a0_2, u9000_], .int .i64 a1, .int .i64 a2, .slice A3 l3.length c3] w fun e w' => e = .returned (.tuple #[]) ∧ Kd.R (Kd.int .i64) 3 w' w0.heap.size (fun k_ => (P0_3_ k_ ∨ w.heap.size ≤ k_)) u9000_ r ∧ Below w0.heap.size w0 w' ∧ Kept w w' (fun k_ => P0_3_ k_) := by
 have HO0_3 := mk (show Kd.R (Kd.int .i64) 3 w w0.heap.size (fun k_ => (P0_3_ k_ ∨ w.heap.size ≤ k_)) u9000_ l0_3 from Kd.R_mono ho0_3 (fun k_ hk => (.inl hk)))
 have HR3 := mk hr3
 clear hr3 hc3
 have HK := mk (Kept.refl w (fun k_ => P0_3_ k_))
 have HB := mk hB
 clear hB
 have H : (spec_setPixel.l0 k a1 a2 l3 0 a0_0 a0_1 a0_2 l0_3) = some r := h
 clear h
 have H' := mk H
 clear H
 obtain ⟨Ao5, co5, eo5⟩ := Kd.R_slice HO0_3.out
 subst eo5
 go_enter Try.func106, Try.ntmps106
 go_wp2_with (first | ((with_reducible refine gate_dst (N := 4) rfl ?_); refine box_event (by rfl) (N := 4) (by rfl) (cs := #[.int .i64 a0_0, .int .i64 a0_1, .int .i64 a0_2, .slice Ao5 l0_3.length co5]) (t := 28) (by go_simp; done) ?_; intro gbz0 hg w6 hbox hb; replace HO0_3 := mk (Kd.R_below HO0_3.out hb); replace HK := mk (Kept.below (S := (fun k_ => P0_3_ k_)) HK.out hb); replace HB := mk (below_step HB.out hb); have BKz0 := mk (hbox); clear hb hbox hg))
 go_loopg [8] k (fun kq v8 w' => ∃ (x8_1 : Int) (xz0 : List Int), v8 = .int .i64 x8_1 ∧ Aside0 (spec_setPixel.l0 kq a1 a2 l3 x8_1 a0_0 a0_1 a0_2 xz0 = some r) ∧ Aside0 (kq ≤ k) ∧ Aside0 (Kd.R (Kd.int .i64) 3 w' w0.heap.size (fun k_ => (P0_3_ k_ ∨ w.heap.size ≤ k_)) (.slice Ao5 l0_3.length co5) xz0) ∧ Aside0 (w'.heap[gbz0]? = some (.cells #[.int .i64 a0_0, .int .i64 a0_1, .int .i64 a0_2, (.slice Ao5 l0_3.length co5)] 28 (0, 0))) ∧ Aside0 (Kept w w' (fun k_ => P0_3_ k_)) ∧ Aside0 (Below w0.heap.size w0 w'))
 case atStart => exact ⟨(0), (l0_3), (by rfl), H', ⟨Nat.le_refl _⟩, HO0_3, BKz0, HK, HB⟩
 case round =>
  clear H'
  obtain ⟨x8_1, xz0, rfl, HA, HK1, HOz0, BKz0, HK, HB⟩ := hrel
  have hl107002003_1 := (Kd.R_reads' HOz0.out).1
  rw [hl107002003_1] at HOz0
  (try simp only [hl107002003_1])
  (try simp only [hl107002003_1] at BKz0)
  cases gk with
  | zero => exact absurd HA.out (by simp [spec_setPixel.l0])
  | succ k1 =>
   have H := HA.out
   clear HA
   simp only [spec_setPixel.l0] at H
   by_cases c7 : x8_1 < a0_2
   ·rw [if_pos c7] at H
    have c7b0 : decide (x8_1 < a0_2) = true := decide_eq_true c7
    clear c7
    by_cases c8 : 0 ≤ x8_1
    ·rw [if_pos c8] at H
     have c8b0 : decide (0 ≤ x8_1) = true := decide_eq_true c8
     clear c8
     by_cases c9 : x8_1 < (l3.length : Int)
     ·rw [if_pos c9] at H
      have c9b0 : decide (x8_1 < (l3.length : Int)) = true := decide_eq_true c9
      clear c9
      obtain ⟨ji10, hji10⟩ : ∃ j_ : Int, (wrap64 ((wrap64 ((wrap64 ((wrap64 (a2 * a0_0)) + a1)) * a0_2)) + x8_1)) = j_ := ⟨_, rfl⟩
      replace H : (if 0 ≤ ji10 then (if ji10 < (xz0.length : Int) then (spec_setPixel.l0 k1 a1 a2 l3 (wrap64 (x8_1 + 1)) a0_0 a0_1 a0_2 (xz0.set (ji10 : Int).toNat (rd l3 x8_1))) else none) else none) = some r := by (rw [hji10] at H; exact H)
      have hji10w : (IntKind.i64.wrap ((wrap64 ((wrap64 ((wrap64 (a2 * a0_0)) + a1)) * a0_2)) + x8_1)) = ji10 := (i64_w _).trans hji10
      by_cases c11 : 0 ≤ (ji10)
      ·rw [if_pos c11] at H
       have c11b0 : decide (0 ≤ ji10) = true := decide_eq_true c11
       clear c11
       by_cases c12 : ji10 < (xz0.length : Int)
       ·rw [if_pos c12] at H
        have c12b0 : decide (ji10 < (xz0.length : Int)) = true := decide_eq_true c12
        clear c12
        obtain ⟨yz0, hyz0⟩ : ∃ y_ : List Int, y_ = (xz0.set (ji10 : Int).toNat (rd l3 x8_1)) := ⟨_, rfl⟩
        replace H : (spec_setPixel.l0 k1 a1 a2 l3 (wrap64 (x8_1 + 1)) a0_0 a0_1 a0_2 yz0) = some r := by (rw [hyz0]; with_reducible exact H)
        have Nyz0 := mk hyz0
        clear hyz0
        have H' := mk H
        clear H
        obtain ⟨-, -, hcz14_2, hcz14_3, -⟩ := c4 BKz0.out
        try go_wp2
        replace HOz0 := mk (Kd.R_drew HOz0.out)
        replace BKz0 := mk (blk_drew BKz0.out)
        replace HK := mk (Kept.drew HK.out)
        replace HB := mk (below_drew1 HB.out)
        have p107002 : 0 ≤ (x8_1 : Int) := of_decide_eq_true (by (with_reducible assumption))
        have q107002 : x8_1 < (l3.length : Int) := of_decide_eq_true (by (with_reducible assumption))
        obtain ⟨ad107002, e107002, hx107002_0⟩ := Kd.at_int (Kd.C_kept_now HR3.out HK.out) x8_1 p107002 q107002
        cases e107002
        replace p107002 := eq_true p107002
        replace q107002 := eq_true q107002
        have p13 : 0 ≤ (ji10 : Int) := of_decide_eq_true (by (with_reducible assumption))
        have q13 : (ji10 : Int) < ((xz0.length : Int) : Int) := of_decide_eq_true (by (with_reducible assumption))
        obtain ⟨go13, co13, eo13, gb13, gl13, cl13, HG13⟩ := Kd.R_form HOz0.out (by omega)
        (cases eo13)
        have GB13 := mk gb13
        have GG13 := mk HG13
        clear gb13 gl13 HG13
        have HMgo13 := mk (show (P0_3_ go13 ∨ w.heap.size ≤ go13) from (HOz0.out.1 _ rfl))
        obtain ⟨hx13_0, hf13_0⟩ := Kd.R_celln 0 HOz0.out (ji10 : Int) p13 q13
        replace p13 := eq_true p13
        replace q13 := eq_true q13
        have HP16 := Kd.R_putn HOz0.out (ji10 : Int) (rd l3 x8_1)
        rw [← Nyz0.out] at HP16
        have HQ16 := mk HP16
        clear HP16
        refine start_ (n := 19) (S := fun w' => w'.cell? ⟨gbz0, 0, none⟩ = some (.int .i64 a0_0) ∧ w'.cell? ⟨gbz0, 1, none⟩ = some (.int .i64 a0_1) ∧ w'.cell? ⟨gbz0, 2, none⟩ = some (.int .i64 a0_2) ∧ w'.cell? ⟨gbz0, 3, none⟩ = some (.slice (some ⟨go13, 0, none⟩) xz0.length co5) ∧ w'.cell? (ad107002.add (x8_1).toNat) = some (.int .i64 (rd l3 x8_1))) (ds := [18]) #[false, false, false, false, false, false, false, false, false, false, false, false, false, false, false, false, false, false, false] (by kernel_rfl) rfl rfl ⟨blk_cell BKz0.out 0, blk_cell BKz0.out 1, blk_cell BKz0.out 2, blk_cell BKz0.out 3, (Kd.foot_int (HR3.out _ HK.out) x8_1 (of_eq_true p107002) (of_eq_true q107002))⟩ (fun hHeld => ?_); refine with_tabW spec_setPixel.tab4 spec_setPixel.bits4 (fun HT_ HW_ => ?_)
        generalize wr.drew = w15 at HOz0 BKz0 HK HB GG13 HQ16 hf13_0 hx107002_0 hx13_0 hHeld ⊢
        refine pu 0 15 ?_ ?_ rfl rfl (any_of HT_.out (by kernel_rfl)) (Or.inl ⟨by rfl, ?_⟩) ?_ ?_
        rotate_left 2
        ·intro w'
         go_simp
         with_reducible rfl
        ·simp only [seval]
         rfl
        refine pu 2 17 ?_ ?_ rfl rfl (any_of HT_.out (by kernel_rfl)) (Or.inl ⟨by rfl, ?_⟩) ?_ ?_
        rotate_left 2
        ·intro w'
         go_simp
         with_reducible rfl
        ·simp only [seval]
         rfl
        refine pu 3 18 ?_ ?_ rfl rfl (any_of HT_.out (by kernel_rfl)) (Or.inl ⟨by rfl, ?_⟩) ?_ ?_
        rotate_left 2
        ·intro w'
         go_simp
         with_reducible rfl
        ·simp only [seval]
         rfl
        refine pu 6 21 ?_ ?_ rfl rfl (any_of HT_.out (by kernel_rfl)) (Or.inl ⟨by rfl, ?_⟩) ?_ ?_
        rotate_left 2
        ·intro w'
         go_simp
         with_reducible rfl
        ·simp only [seval]
         rfl
        refine pu 8 23 ?_ ?_ rfl rfl (any_of HT_.out (by kernel_rfl)) (Or.inl ⟨by rfl, ?_⟩) ?_ ?_
        rotate_left 2
        ·intro w'
         go_simp
         with_reducible rfl
        ·simp only [seval]
         rfl
        refine pu 11 26 ?_ ?_ rfl rfl (any_of HT_.out (by kernel_rfl)) (Or.inl ⟨by rfl, ?_⟩) ?_ ?_
        rotate_left 2
        ·intro w'
         go_simp
         with_reducible rfl
        ·simp only [seval]
         rfl
        refine pu 13 28 ?_ ?_ rfl rfl (any_of HT_.out (by kernel_rfl)) (Or.inl ⟨by rfl, ?_⟩) ?_ ?_
        rotate_left 2
        ·intro w'
         go_simp
         with_reducible rfl
        ·simp only [seval]
         rfl
        refine pu 14 29 ?_ ?_ rfl rfl (any_of HT_.out (by kernel_rfl)) (Or.inl ⟨by rfl, ?_⟩) ?_ ?_
        rotate_left 2
        ·intro w'
         go_simp
         with_reducible rfl
        ·simp only [seval]
         rfl
        refine pu 15 30 ?_ ?_ rfl rfl (any_of HT_.out (by kernel_rfl)) (Or.inl ⟨by rfl, ?_⟩) ?_ ?_
        rotate_left 2
        ·intro w'
         go_simp
         with_reducible rfl
        ·simp only [seval]
         rfl
        refine tk 1 16 ?_ ?_ rfl rfl (take_ofW HT_.out HW_.out (by kernel_rfl)) (Or.inl ⟨by rfl, ?_⟩) hHeld ?_ ?_
        rotate_left 2
        ·rintro w' ⟨s0, s1, s2, s3, s4⟩
         go_simp
         with_reducible rfl
        ·simp only [seval]
         rfl
        refine tk 4 19 ?_ ?_ rfl rfl (take_ofW HT_.out HW_.out (by kernel_rfl)) (Or.inl ⟨by rfl, ?_⟩) hHeld ?_ ?_
        rotate_left 2
        ·rintro w' ⟨s0, s1, s2, s3, s4⟩
         go_simp
         with_reducible rfl
        ·simp only [seval]
         rfl
        refine pu 5 20 ?_ ?_ rfl rfl (any_of HT_.out (by kernel_rfl)) (Or.inl ⟨by rfl, ?_⟩) ?_ ?_
        rotate_left 2
        ·intro w'
         go_simp
         with_reducible rfl
        ·simp only [seval]
         rfl
        refine pu 7 22 ?_ ?_ rfl rfl (any_of HT_.out (by kernel_rfl)) (Or.inl ⟨by rfl, ?_⟩) ?_ ?_
        rotate_left 2
        ·intro w'
         go_simp
         with_reducible rfl
        ·simp only [seval]
         rfl
        refine tk 9 24 ?_ ?_ rfl rfl (take_ofW HT_.out HW_.out (by kernel_rfl)) (Or.inl ⟨by rfl, ?_⟩) hHeld ?_ ?_
        rotate_left 2
        ·rintro w' ⟨s0, s1, s2, s3, s4⟩
         go_simp
         with_reducible rfl
        ·simp only [seval]
         rfl
        refine pu 10 25 ?_ ?_ rfl rfl (any_of HT_.out (by kernel_rfl)) (Or.inl ⟨by rfl, ?_⟩) ?_ ?_
        rotate_left 2
        ·intro w'
         go_simp
         with_reducible rfl
        ·simp only [seval]
         rfl
        refine pu 12 27 ?_ ?_ rfl rfl (any_of HT_.out (by kernel_rfl)) (Or.inl ⟨by rfl, ?_⟩) ?_ ?_
        rotate_left 2
        ·intro w'
         go_simp
         with_reducible rfl
        ·simp only [seval]
         rfl
        refine tk 16 31 ?_ ?_ rfl rfl (take_ofW HT_.out HW_.out (by kernel_rfl)) (Or.inl ⟨by rfl, ?_⟩) hHeld ?_ ?_
        rotate_left 2
        ·rintro w' ⟨s0, s1, s2, s3, s4⟩
         go_simp
         with_reducible rfl
        ·simp only [seval]
         rfl
        refine pu 17 32 ?_ ?_ rfl rfl (any_of HT_.out (by kernel_rfl)) (Or.inl ⟨by rfl, ?_⟩) ?_ ?_
        rotate_left 2
        ·intro w'
         go_simp
         with_reducible rfl
        ·simp only [seval]
         rfl
        refine last_ (i := 18) (N := none) #[true, true, true, true, true, true, true, true, true, true, true, true, true, true, true, true, true, true, true] rfl rfl (one_of HT_.out (by kernel_rfl)) (by decide) (fun K hK => ?_)
        refine skip_ (w1 := ?_) (by rfl) rfl ?_ ?_
        rotate_left
        ·go_simp
         rfl
        refine hK.out _ _ ?_
        clear hK K
        refine done_ (done_of HT_.out (by kernel_rfl)) ?_
        try go_wp2
        (try simp only [← hl107002003_1])
        go_roundg k1
        case measure => have := HK1.out; omega
        case rel => exact ⟨(wrap64 (x8_1 + 1)), (yz0), (by rfl), H', ⟨by have := HK1.out; omega⟩, ⟨by (try simp only [hl107002003_1]); exact HQ16.out⟩, ⟨by (try simp only [hl107002003_1]); refine blk_far ?_ (by have h_ := Kd.R_ne HOz0.out BKz0.out (by decide); intro e_; exact h_ (by rw [e_]; rfl)) _; exact BKz0.out⟩, ⟨by repeat (with_reducible first | exact HK.out | refine Kept.setCell ?_ HMgo13.out _)⟩, ⟨by repeat (with_reducible first | exact HB.out | refine below_set ?_ GB13.out)⟩⟩
       rw [if_neg c12] at H
       exact absurd H (by simp)
      rw [if_neg c11] at H
      exact absurd H (by simp)
     rw [if_neg c9] at H
     exact absurd H (by simp)
    rw [if_neg c8] at H
    exact absurd H (by simp)
   rw [if_neg c7] at H
   have c7b0 : decide (x8_1 < a0_2) = false := decide_eq_false c7
   clear c7
   obtain rfl := Option.some.inj H
   have hcz17_2 : wr.cell? ⟨gbz0, 2, none⟩ = some (.int .i64 a0_2) := (blk_cell BKz0.out 2).trans rfl
   go_wp2
   go_end0
   exact ⟨by rfl, HOz0.out, by exact HB.out, by exact HK.out⟩


mutual
def spec_paste.l0 : Nat → Int → Int → Int → Int → Int → Int → List Int → Int → Int → Int → List Int → Option (List Int)
 | 0, _, _, _, _, _, _, _, _, _, _, _ => none
 | k + 1, x1, x2, x8, xz2, xz3, xz4, xz5, xz6, xz7, xz8, xz9 => if x8 < xz7 then (spec_paste.l1 k x1 x2 x8 0 xz2 xz3 xz4 xz5 xz6 xz7 xz8 xz9) else (some xz5)
def spec_paste.l1 : Nat → Int → Int → Int → Int → Int → Int → Int → List Int → Int → Int → Int → List Int → Option (List Int)
 | 0, _, _, _, _, _, _, _, _, _, _, _, _ => none
 | k + 1, x1, x2, x8, x9, xz2, xz3, xz4, xz5, xz6, xz7, xz8, xz9 => if x9 < xz6 then ((spec_onImage.f xz2 xz3 xz4 xz5 (wrap64 (x1 + x9)) (wrap64 (x2 + x8))).bind fun tz2 => (if tz2 = true then ((spec_pixelAt.f xz6 xz7 xz8 xz9 x9 x8).bind fun tz1 => ((spec_setPixel.f k xz2 xz3 xz4 xz5 (wrap64 (x1 + x9)) (wrap64 (x2 + x8)) tz1).bind fun tz0 => (spec_paste.l1 k x1 x2 x8 (wrap64 (x9 + 1)) xz2 xz3 xz4 tz0 xz6 xz7 xz8 xz9))) else (spec_paste.l1 k x1 x2 x8 (wrap64 (x9 + 1)) xz2 xz3 xz4 xz5 xz6 xz7 xz8 xz9))) else (spec_paste.l0 k x1 x2 (wrap64 (x8 + 1)) xz2 xz3 xz4 xz5 xz6 xz7 xz8 xz9)
end
def spec_paste.f (k : Nat) (a0_0 : Int) (a0_1 : Int) (a0_2 : Int) (l0_3 : List Int) (a1 : Int) (a2 : Int) (a3_0 : Int) (a3_1 : Int) (a3_2 : Int) (l3_3 : List Int) : Option (List Int) := spec_paste.l0 k a1 a2 0 a0_0 a0_1 a0_2 l0_3 a3_0 a3_1 a3_2 l3_3
def spec_paste.T8 : Bool × List (List Nat × List Nat) := (true, [([], []), ([], []), ([], []), ([1, 2], [1, 2]), ([], []), ([], []), ([4, 5], [4, 5]), ([], []), ([], []), ([], []), ([7, 8, 9], [7, 8, 9]), ([0, 3, 6, 10, 10], [0, 3, 6, 10])])
def spec_paste.B8 : List Nat := [0, 0, 0, 6, 0, 0, 48, 0, 0, 0, 896, 2047]
theorem spec_paste.tab8 : rtab .any (opsOf Try.f88 8) = spec_paste.T8 := by kernel_rfl
theorem spec_paste.bits8 : waitsOk spec_paste.T8.2 spec_paste.B8 = true := by kernel_rfl
theorem spec_paste.calls (k : Nat) (a0_0 : Int) (a0_1 : Int) (a0_2 : Int) (P0_3_ : Nat → Prop) (u9000_ : Value) (l0_3 : List Int) (a1 : Int) (a2 : Int) (a3_0 : Int) (a3_1 : Int) (a3_2 : Int) (A3_3 : Option Addr) (c3_3 : Nat) (l3_3 : List Int) (r : List Int) (w0 w : World) (hB : Below w0.heap.size w0 w) (ho0_3 : Kd.R (Kd.int .i64) 3 w w0.heap.size P0_3_ u9000_ l0_3) (hr3_3 : ∀ W_, Kept w W_ (fun k_ => P0_3_ k_) → Kd.C (Kd.int .i64) W_ A3_3 l3_3.length l3_3) (hc3_3 : l3_3.length ≤ c3_3) (h : spec_paste.f k a0_0 a0_1 a0_2 l0_3 a1 a2 a3_0 a3_1 a3_2 l3_3 = some r) :
  Calls Try.prog 88 #[.agg #[.int .i64 a0_0, .int .i64 a0_1, .int .i64 a0_2, u9000_], .int .i64 a1, .int .i64 a2, .agg #[.int .i64 a3_0, .int .i64 a3_1, .int .i64 a3_2, .slice A3_3 l3_3.length c3_3]] w fun e w' => e = .returned (.tuple #[]) ∧ Kd.R (Kd.int .i64) 3 w' w0.heap.size (fun k_ => (P0_3_ k_ ∨ w.heap.size ≤ k_)) u9000_ r ∧ Below w0.heap.size w0 w' ∧ Kept w w' (fun k_ => P0_3_ k_) := by
 have HO0_3 := mk (show Kd.R (Kd.int .i64) 3 w w0.heap.size (fun k_ => (P0_3_ k_ ∨ w.heap.size ≤ k_)) u9000_ l0_3 from Kd.R_mono ho0_3 (fun k_ hk => (.inl hk)))
 have HR3_3 := mk hr3_3
 have HC3_3 := mk hc3_3
 clear hr3_3 hc3_3
 have HK := mk (Kept.refl w (fun k_ => P0_3_ k_))
 have HB := mk hB
 clear hB
 have H : (spec_paste.l0 k a1 a2 0 a0_0 a0_1 a0_2 l0_3 a3_0 a3_1 a3_2 l3_3) = some r := h
 clear h
 have H' := mk H
 clear H
 obtain ⟨Ao5, co5, eo5⟩ := Kd.R_slice HO0_3.out
 subst eo5
 go_enter Try.func88, Try.ntmps88
 go_wp2_with (first | ((with_reducible refine gate_dst (N := 4) rfl ?_); refine box_event (by rfl) (N := 4) (by rfl) (cs := #[.int .i64 a0_0, .int .i64 a0_1, .int .i64 a0_2, .slice Ao5 l0_3.length co5]) (t := 28) (by go_simp; done) ?_; intro gbz0 hg w6 hbox hb; replace HO0_3 := mk (Kd.R_below HO0_3.out hb); replace HK := mk (Kept.below (S := (fun k_ => P0_3_ k_)) HK.out hb); replace HB := mk (below_step HB.out hb); have BKz0 := mk (hbox); clear hb hbox hg) | ((with_reducible refine gate_dst (N := 7) rfl ?_); refine box_event (by rfl) (N := 7) (by rfl) (cs := #[.int .i64 a3_0, .int .i64 a3_1, .int .i64 a3_2, .slice A3_3 l3_3.length c3_3]) (t := 28) (by go_simp; done) ?_; intro gbz1 hg w7 hbox hb; replace HO0_3 := mk (Kd.R_below HO0_3.out hb); replace BKz0 := mk (blk_below BKz0.out hb); replace HK := mk (Kept.below (S := (fun k_ => P0_3_ k_)) HK.out hb); replace HB := mk (below_step HB.out hb); have BKz1 := mk (hbox); clear hb hbox hg))
 go_loopg [8] k (fun kq v8 w' => ∃ (x8_1 : Int) (xz1 : List Int), v8 = .int .i64 x8_1 ∧ Aside0 (spec_paste.l0 kq a1 a2 x8_1 a0_0 a0_1 a0_2 xz1 a3_0 a3_1 a3_2 l3_3 = some r) ∧ Aside0 (kq ≤ k) ∧ Aside0 (Kd.R (Kd.int .i64) 3 w' w0.heap.size (fun k_ => (P0_3_ k_ ∨ w.heap.size ≤ k_)) (.slice Ao5 l0_3.length co5) xz1) ∧ Aside0 (w'.heap[gbz0]? = some (.cells #[.int .i64 a0_0, .int .i64 a0_1, .int .i64 a0_2, (.slice Ao5 l0_3.length co5)] 28 (0, 0))) ∧ Aside0 (w'.heap[gbz1]? = some (.cells #[.int .i64 a3_0, .int .i64 a3_1, .int .i64 a3_2, (.slice A3_3 l3_3.length c3_3)] 28 (0, 0))) ∧ Aside0 (Kept w w' (fun k_ => P0_3_ k_)) ∧ Aside0 (Below w0.heap.size w0 w'))
 case atStart => exact ⟨(0), (l0_3), (by rfl), H', ⟨Nat.le_refl _⟩, HO0_3, BKz0, BKz1, HK, HB⟩
 case round =>
  clear H'
  obtain ⟨x8_1, xz1, rfl, HA, HK1, HOz0, BKz0, BKz1, HK, HB⟩ := hrel
  have hl89002003_1 := (Kd.R_reads' HOz0.out).1
  rw [hl89002003_1] at HOz0
  (try simp only [hl89002003_1])
  (try simp only [hl89002003_1] at BKz0)
  cases gk with
  | zero => exact absurd HA.out (by simp [spec_paste.l0])
  | succ k1 =>
   have H := HA.out
   clear HA
   simp only [spec_paste.l0] at H
   by_cases c8 : x8_1 < a3_1
   ·rw [if_pos c8] at H
    have c8b0 : decide (x8_1 < a3_1) = true := decide_eq_true c8
    clear c8
    have H' := mk H
    clear H
    obtain ⟨hcz10_0, hcz10_1, hcz10_2, hcz10_3, hfz10_0, hfz10_1, hfz10_2, hfz10_3⟩ := c4 BKz1.out
    go_wp2
    go_loopg [9] k1 (fun kq v9 w' => ∃ (x9_2 : Int) (xz0 : List Int), v9 = .int .i64 x9_2 ∧ Aside0 (spec_paste.l1 kq a1 a2 x8_1 x9_2 a0_0 a0_1 a0_2 xz0 a3_0 a3_1 a3_2 l3_3 = some r) ∧ Aside0 (kq ≤ k1) ∧ Aside0 (Kd.R (Kd.int .i64) 3 w' w0.heap.size (fun k_ => (P0_3_ k_ ∨ w.heap.size ≤ k_)) (.slice Ao5 xz1.length co5) xz0) ∧ Aside0 (w'.heap[gbz0]? = some (.cells #[.int .i64 a0_0, .int .i64 a0_1, .int .i64 a0_2, (.slice Ao5 xz1.length co5)] 28 (0, 0))) ∧ Aside0 (w'.heap[gbz1]? = some (.cells #[.int .i64 a3_0, .int .i64 a3_1, .int .i64 a3_2, (.slice A3_3 l3_3.length c3_3)] 28 (0, 0))) ∧ Aside0 (Kept w w' (fun k_ => P0_3_ k_)) ∧ Aside0 (Below w0.heap.size w0 w'))
    case atStart => exact ⟨(0), (xz1), (by rfl), H', ⟨Nat.le_refl _⟩, HOz0, BKz0, BKz1, HK, HB⟩
    case round =>
     clear H'
     obtain ⟨x9_2, xz0, rfl, HA, HK2, HOz0, BKz0, BKz1, HK, HB⟩ := hrel
     have hl89002003_2 := (Kd.R_reads' HOz0.out).1
     rw [hl89002003_2] at HOz0
     (try simp only [hl89002003_2])
     (try simp only [hl89002003_2] at BKz0)
     cases gk with
     | zero => exact absurd HA.out (by simp [spec_paste.l1])
     | succ k2 =>
      have H := HA.out
      clear HA
      simp only [spec_paste.l1] at H
      by_cases c11 : x9_2 < a3_0
      ·rw [if_pos c11] at H
       have c11b0 : decide (x9_2 < a3_0) = true := decide_eq_true c11
       clear c11
       replace H := Option.bind_eq_some_iff.mp H
       obtain ⟨tz2, A120, H⟩ := H
       replace H : (if tz2 = true then ((spec_pixelAt.f a3_0 a3_1 a3_2 l3_3 x9_2 x8_1).bind fun tz1 => ((spec_setPixel.f k2 a0_0 a0_1 a0_2 xz0 (wrap64 (a1 + x9_2)) (wrap64 (a2 + x8_1)) tz1).bind fun tz0 => (spec_paste.l1 k2 a1 a2 x8_1 (wrap64 (x9_2 + 1)) a0_0 a0_1 a0_2 tz0 a3_0 a3_1 a3_2 l3_3))) else (spec_paste.l1 k2 a1 a2 x8_1 (wrap64 (x9_2 + 1)) a0_0 a0_1 a0_2 xz0 a3_0 a3_1 a3_2 l3_3)) = some r := H
       have A12 := mk A120
       clear A120
       by_cases c13 : tz2 = true
       ·subst c13
        have H1 : ((spec_pixelAt.f a3_0 a3_1 a3_2 l3_3 x9_2 x8_1).bind fun tz1 => ((spec_setPixel.f k2 a0_0 a0_1 a0_2 xz0 (wrap64 (a1 + x9_2)) (wrap64 (a2 + x8_1)) tz1).bind fun tz0 => (spec_paste.l1 k2 a1 a2 x8_1 (wrap64 (x9_2 + 1)) a0_0 a0_1 a0_2 tz0 a3_0 a3_1 a3_2 l3_3))) = some r := by rw [if_pos rfl] at H; exact H
        clear H
        have H := H1
        clear H1
        replace H := Option.bind_eq_some_iff.mp H
        obtain ⟨tz1, A140, H⟩ := H
        replace H : ((spec_setPixel.f k2 a0_0 a0_1 a0_2 xz0 (wrap64 (a1 + x9_2)) (wrap64 (a2 + x8_1)) tz1).bind fun tz0 => (spec_paste.l1 k2 a1 a2 x8_1 (wrap64 (x9_2 + 1)) a0_0 a0_1 a0_2 tz0 a3_0 a3_1 a3_2 l3_3)) = some r := H
        have A14 := mk A140
        clear A140
        replace H := Option.bind_eq_some_iff.mp H
        obtain ⟨tz0, A150, H⟩ := H
        replace H : (spec_paste.l1 k2 a1 a2 x8_1 (wrap64 (x9_2 + 1)) a0_0 a0_1 a0_2 tz0 a3_0 a3_1 a3_2 l3_3) = some r := H
        have A15 := mk A150
        clear A150
        have H' := mk H
        clear H
        have hcz17_0 : wr.cell? ⟨gbz1, 0, none⟩ = some (.int .i64 a3_0) := (blk_cell BKz1.out 0).trans rfl
        obtain ⟨hcz18_0, hcz18_1, hcz18_2, hcz18_3, -⟩ := c4 BKz0.out
        try go_wp2_with (first | ((with_reducible refine gate_callee (f := 61) rfl ?_); refine goesL_ (some 29) rfl rfl Try.func61 (by kernel_rfl) rfl #[.agg #[.int .i64 a0_0, .int .i64 a0_1, .int .i64 a0_2, .slice Ao5 xz0.length co5], .int .i64 (wrap64 (a1 + x9_2)), .int .i64 (wrap64 (a2 + x8_1))] rfl (by (try simp only [bitvec_to_nat]); rfl) ?_; (with_reducible refine (spec_onImage.calls a0_0 a0_1 a0_2 _ _ xz0 (wrap64 (a1 + x9_2)) (wrap64 (a2 + x8_1)) true _ ?side1 ?side2 A12.out).mono ?_); (case side1 => repeat (exact (Kd.R_reads' HOz0.out).2.2)); (case side2 => exact (Kd.R_reads' HOz0.out).2.1); rintro e w19 ⟨rfl, hb⟩; refine ⟨_, rfl, ?_⟩; replace HOz0 := mk (Kd.R_below HOz0.out hb); replace BKz0 := mk (blk_below BKz0.out hb); replace BKz1 := mk (blk_below BKz1.out hb); replace HK := mk (Kept.below (S := (fun k_ => P0_3_ k_)) HK.out hb); replace HB := mk (below_step HB.out hb); (try clear hb)))
        replace HOz0 := mk (Kd.R_drew HOz0.out)
        replace BKz0 := mk (blk_drew BKz0.out)
        replace BKz1 := mk (blk_drew BKz1.out)
        replace HK := mk (Kept.drew HK.out)
        replace HB := mk (below_drew1 HB.out)
        refine start_ (n := 12) (S := fun w' => w'.cell? ⟨gbz0, 0, none⟩ = some (.int .i64 a0_0) ∧ w'.cell? ⟨gbz0, 1, none⟩ = some (.int .i64 a0_1) ∧ w'.cell? ⟨gbz0, 2, none⟩ = some (.int .i64 a0_2) ∧ w'.cell? ⟨gbz0, 3, none⟩ = some (.slice Ao5 xz0.length co5) ∧ w'.cell? ⟨gbz1, 0, none⟩ = some (.int .i64 a3_0) ∧ w'.cell? ⟨gbz1, 1, none⟩ = some (.int .i64 a3_1) ∧ w'.cell? ⟨gbz1, 2, none⟩ = some (.int .i64 a3_2) ∧ w'.cell? ⟨gbz1, 3, none⟩ = some (.slice A3_3 l3_3.length c3_3)) (ds := []) #[false, false, false, false, false, false, false, false, false, false, false, false] (by kernel_rfl) rfl rfl ⟨blk_cell BKz0.out 0, blk_cell BKz0.out 1, blk_cell BKz0.out 2, blk_cell BKz0.out 3, blk_cell BKz1.out 0, blk_cell BKz1.out 1, blk_cell BKz1.out 2, blk_cell BKz1.out 3⟩ (fun hHeld => ?_); refine with_tabW spec_paste.tab8 spec_paste.bits8 (fun HT_ HW_ => ?_)
        generalize w19.drew = w20 at HOz0 BKz0 BKz1 HK HB hHeld ⊢
        refine pu 1 31 ?_ ?_ rfl rfl (any_of HT_.out (by kernel_rfl)) (Or.inl ⟨by rfl, ?_⟩) ?_ ?_
        rotate_left 2
        ·intro w'
         go_simp
         with_reducible rfl
        ·simp only [seval]
         rfl
        refine pu 2 32 ?_ ?_ rfl rfl (any_of HT_.out (by kernel_rfl)) (Or.inl ⟨by rfl, ?_⟩) ?_ ?_
        rotate_left 2
        ·intro w'
         go_simp
         with_reducible rfl
        ·simp only [seval]
         rfl
        refine pu 3 33 ?_ ?_ rfl rfl (any_of HT_.out (by kernel_rfl)) (Or.inl ⟨by rfl, ?_⟩) ?_ ?_
        rotate_left 2
        ·intro w'
         go_simp
         with_reducible rfl
        ·simp only [seval]
         rfl
        refine pu 4 34 ?_ ?_ rfl rfl (any_of HT_.out (by kernel_rfl)) (Or.inl ⟨by rfl, ?_⟩) ?_ ?_
        rotate_left 2
        ·intro w'
         go_simp
         with_reducible rfl
        ·simp only [seval]
         rfl
        refine pu 5 35 ?_ ?_ rfl rfl (any_of HT_.out (by kernel_rfl)) (Or.inl ⟨by rfl, ?_⟩) ?_ ?_
        rotate_left 2
        ·intro w'
         go_simp
         with_reducible rfl
        ·simp only [seval]
         rfl
        refine pu 6 36 ?_ ?_ rfl rfl (any_of HT_.out (by kernel_rfl)) (Or.inl ⟨by rfl, ?_⟩) ?_ ?_
        rotate_left 2
        ·intro w'
         go_simp
         with_reducible rfl
        ·simp only [seval]
         rfl
        refine pu 8 38 ?_ ?_ rfl rfl (any_of HT_.out (by kernel_rfl)) (Or.inl ⟨by rfl, ?_⟩) ?_ ?_
        rotate_left 2
        ·intro w'
         go_simp
         with_reducible rfl
        ·simp only [seval]
         rfl
        refine pu 9 39 ?_ ?_ rfl rfl (any_of HT_.out (by kernel_rfl)) (Or.inl ⟨by rfl, ?_⟩) ?_ ?_
        rotate_left 2
        ·intro w'
         go_simp
         with_reducible rfl
        ·simp only [seval]
         rfl
        refine tk 0 30 ?_ ?_ rfl rfl (take_ofW HT_.out HW_.out (by kernel_rfl)) (Or.inl ⟨by rfl, ?_⟩) hHeld ?_ ?_
        rotate_left 2
        ·rintro w' ⟨s0, s1, s2, s3, s4, s5, s6, s7⟩
         go_simp
         with_reducible rfl
        ·simp only [seval]
         rfl
        refine tk 7 37 ?_ ?_ rfl rfl (take_ofW HT_.out HW_.out (by kernel_rfl)) (Or.inl ⟨by rfl, ?_⟩) hHeld ?_ ?_
        rotate_left 2
        ·rintro w' ⟨s0, s1, s2, s3, s4, s5, s6, s7⟩
         go_simp
         with_reducible rfl
        ·simp only [seval]
         rfl
        refine one_ (i := 10) (N := some 40) #[true, true, true, true, true, true, true, true, true, true, true, false] rfl rfl (one_of HT_.out (by kernel_rfl)) (by decide) (fun K hK => ?_)
        refine goes_ Try.func63 (by kernel_rfl) rfl #[.agg #[.int .i64 a3_0, .int .i64 a3_1, .int .i64 a3_2, .slice A3_3 l3_3.length c3_3], .int .i64 x9_2, .int .i64 x8_1] (by rfl) rfl rfl (by (try simp only [bitvec_to_nat]); rfl) ?_
        with_reducible refine (spec_pixelAt.calls a3_0 a3_1 a3_2 _ _ l3_3 x9_2 x8_1 tz1 _ ?side1 ?side2 A14.out).mono ?_
        (case side1 => exact Kd.C_kept_now HR3_3.out HK.out)
        (case side2 => exact HC3_3.out)
        rintro e w21 ⟨vz0, rfl, ho0, hb⟩
        refine ⟨_, rfl, ?_⟩
        have HOz1 := mk (Kd.R_lower (Kd.R_new' (Kd.R_newM (M := fun k_ => (P0_3_ k_ ∨ w.heap.size ≤ k_)) ho0 HK.out.1 (fun k_ h_ => .inr h_)) (Kd.R_lt HOz0.out)) (below_size HB.out))
        replace HOz0 := mk (Kd.R_elder' HOz0.out (Kd.R_base ho0) hb)
        replace BKz0 := mk (blk_below BKz0.out hb)
        replace BKz1 := mk (blk_below BKz1.out hb)
        replace HK := mk (Kept.below (S := (fun k_ => P0_3_ k_)) HK.out hb)
        replace HB := mk (below_step HB.out hb)
        (try clear hb)
        (try clear ho0)
        obtain ⟨Ao22, co22, eo22⟩ := Kd.R_slice HOz1.out
        (subst eo22)
        refine hK.out _ _ ⟨blk_cell BKz0.out 0, blk_cell BKz0.out 1, blk_cell BKz0.out 2, blk_cell BKz0.out 3, blk_cell BKz1.out 0, blk_cell BKz1.out 1, blk_cell BKz1.out 2, blk_cell BKz1.out 3⟩ (fun hHeld => ?_)
        clear hK K
        refine norm_ (a' := ?_) ?_ ?_
        rotate_left
        ·show Act.put _ (some 40) _ = _
         simp only [seval]
         rfl
        refine one_ (i := 11) (N := some 41) #[true, true, true, true, true, true, true, true, true, true, true, true] rfl rfl (one_of HT_.out (by kernel_rfl)) (by decide) (fun K hK => ?_)
        refine goes_ Try.func106 (by kernel_rfl) rfl #[.agg #[.int .i64 a0_0, .int .i64 a0_1, .int .i64 a0_2, .slice Ao5 xz0.length co5], .int .i64 (wrap64 (a1 + x9_2)), .int .i64 (wrap64 (a2 + x8_1)), .slice Ao22 tz1.length co22] (by rfl) rfl rfl (by (try simp only [bitvec_to_nat]); rfl) ?_
        with_reducible refine (spec_setPixel.calls k2 a0_0 a0_1 a0_2 (fun k_ => some k_ = (.slice Ao5 xz0.length co5 : Value).ownBlock) (.slice Ao5 xz0.length co5) xz0 (wrap64 (a1 + x9_2)) (wrap64 (a2 + x8_1)) _ _ tz1 tz0 w0 _ ?side1 ?side2 ?side3 ?side4 A15.out).mono ?_
        (case side1 => repeat (with_reducible exact HB.out))
        (case side2 => exact Kd.R_tight rfl HOz0.out)
        (case side3 => exact Kd.C_kept_own HOz1.out (fun k_ hk_ hs_ => hk_.2 hs_))
        (case side4 => exact (Kd.R_reads' HOz1.out).2.1)
        rintro e w23 ⟨rfl, hy0, hb, hkp⟩
        refine ⟨_, rfl, ?_⟩
        replace BKz0 := mk (blk_kept BKz0.out hkp (fun hs_ => (fun e_ => (Kd.R_ne HOz0.out BKz0.out (by decide)) e_) hs_))
        replace BKz1 := mk (blk_kept BKz1.out hkp (fun hs_ => (fun e_ => (Kd.R_ne HOz0.out BKz1.out (by decide)) e_) hs_))
        replace HOz1 := mk (Kd.R_mono (ok' := fun k_ => (P0_3_ k_ ∨ w.heap.size ≤ k_) ∧ some k_ ≠ (.slice Ao5 xz0.length co5 : Value).ownBlock) (Kd.R_keptB HOz1.out hkp (fun k_ hk_ hs_ => hk_.2 hs_)) (fun k_ hk_ => ⟨hk_.1.1.1, hk_.1.2⟩))
        replace HK := mk (Kept.then_ (S := (fun k_ => P0_3_ k_)) HK.out hkp (fun k_ hs_ => (fun e_ => (HOz0.out.1 k_ e_.symm).1) hs_))
        replace HOz0 := mk (Kd.R_reok rfl hy0 (fun k_ e_ => HOz0.out.1 k_ e_))
        replace HB := mk (hb)
        (try clear hb)
        (try clear hkp)
        (try clear hy0)
        refine hK.out _ _ ⟨blk_cell BKz0.out 0, blk_cell BKz0.out 1, blk_cell BKz0.out 2, blk_cell BKz0.out 3, blk_cell BKz1.out 0, blk_cell BKz1.out 1, blk_cell BKz1.out 2, blk_cell BKz1.out 3⟩ (fun hHeld => ?_)
        clear hK K
        refine norm_ (a' := ?_) ?_ ?_
        rotate_left
        ·show Act.put _ (some 41) _ = _
         simp only [seval]
         rfl
        refine done_ (done_of HT_.out (by kernel_rfl)) ?_
        try go_wp2
        (try simp only [← hl89002003_2])
        go_roundg k2
        case measure => have := HK1.out; have := HK2.out; omega
        case rel => exact ⟨(wrap64 (x9_2 + 1)), (tz0), (by rfl), H', ⟨by have := HK1.out; have := HK2.out; omega⟩, ⟨by (try simp only [hl89002003_2]); exact Kd.R_mono HOz0.out (fun _ hk => hk.1)⟩, ⟨by (try simp only [hl89002003_2]); exact BKz0.out⟩, BKz1, HK, HB⟩
       replace c13 := Bool.eq_false_iff.mpr c13
       subst c13
       have H1 : (spec_paste.l1 k2 a1 a2 x8_1 (wrap64 (x9_2 + 1)) a0_0 a0_1 a0_2 xz0 a3_0 a3_1 a3_2 l3_3) = some r := by rw [if_neg (show ¬ (false = true) by decide)] at H; exact H
       clear H
       have H := H1
       clear H1
       have H' := mk H
       clear H
       have hcz25_0 : wr.cell? ⟨gbz1, 0, none⟩ = some (.int .i64 a3_0) := (blk_cell BKz1.out 0).trans rfl
       obtain ⟨hcz26_0, hcz26_1, hcz26_2, hcz26_3, -⟩ := c4 BKz0.out
       go_wp2_with (first | ((with_reducible refine gate_callee (f := 61) rfl ?_); refine goesL_ (some 29) rfl rfl Try.func61 (by kernel_rfl) rfl #[.agg #[.int .i64 a0_0, .int .i64 a0_1, .int .i64 a0_2, .slice Ao5 xz0.length co5], .int .i64 (wrap64 (a1 + x9_2)), .int .i64 (wrap64 (a2 + x8_1))] rfl (by (try simp only [bitvec_to_nat]); rfl) ?_; (with_reducible refine (spec_onImage.calls a0_0 a0_1 a0_2 _ _ xz0 (wrap64 (a1 + x9_2)) (wrap64 (a2 + x8_1)) false _ ?side1 ?side2 A12.out).mono ?_); (case side1 => repeat (exact (Kd.R_reads' HOz0.out).2.2)); (case side2 => exact (Kd.R_reads' HOz0.out).2.1); rintro e w27 ⟨rfl, hb⟩; refine ⟨_, rfl, ?_⟩; replace HOz0 := mk (Kd.R_below HOz0.out hb); replace BKz0 := mk (blk_below BKz0.out hb); replace BKz1 := mk (blk_below BKz1.out hb); replace HK := mk (Kept.below (S := (fun k_ => P0_3_ k_)) HK.out hb); replace HB := mk (below_step HB.out hb); (try clear hb)))
       (try simp only [← hl89002003_2])
       go_roundg k2
       case measure => have := HK1.out; have := HK2.out; omega
       case rel => exact ⟨(wrap64 (x9_2 + 1)), (xz0), (by rfl), H', ⟨by have := HK1.out; have := HK2.out; omega⟩, ⟨by (try simp only [hl89002003_2]); exact HOz0.out⟩, ⟨by (try simp only [hl89002003_2]); exact BKz0.out⟩, BKz1, HK, HB⟩
      rw [if_neg c11] at H
      have c11b0 : decide (x9_2 < a3_0) = false := decide_eq_false c11
      clear c11
      have H' := mk H
      clear H
      have hcz29_0 : wr.cell? ⟨gbz1, 0, none⟩ = some (.int .i64 a3_0) := (blk_cell BKz1.out 0).trans rfl
      go_wp2
      (try simp only [← hl89002003_1, ← hl89002003_2])
      go_roundg k2
      case measure => have := HK1.out; have := HK2.out; omega
      case rel => exact ⟨(wrap64 (x8_1 + 1)), (xz0), (by rfl), H', ⟨by have := HK1.out; have := HK2.out; omega⟩, ⟨by (try simp only [hl89002003_1]); (try simp only [hl89002003_2]); exact HOz0.out⟩, ⟨by (try simp only [hl89002003_1]); (try simp only [hl89002003_2]); exact BKz0.out⟩, BKz1, HK, HB⟩
   rw [if_neg c8] at H
   have c8b0 : decide (x8_1 < a3_1) = false := decide_eq_false c8
   clear c8
   obtain rfl := Option.some.inj H
   have hcz31_1 : wr.cell? ⟨gbz1, 1, none⟩ = some (.int .i64 a3_1) := (blk_cell BKz1.out 1).trans rfl
   go_wp2
   go_end0
   exact ⟨by rfl, HOz0.out, by exact HB.out, by exact HK.out⟩


mutual
def spec_crop.l0 : Nat → Int → Int → Int → Int → Int → Int → Int → Int → List Int → Int → Int → Int → List Int → Option (Int × Int × Int × List Int)
 | 0, _, _, _, _, _, _, _, _, _, _, _, _, _ => none
 | k + 1, x1, x2, x3, x4, x12, xz5, xz6, xz7, xz8, xz2, xz3, xz4, xz9 => if x12 < x4 then (spec_crop.l1 k x1 x2 x3 x4 x12 0 xz5 xz6 xz7 xz8 xz2 xz3 xz4 xz9) else (some (xz2, xz3, xz4, xz9))
def spec_crop.l1 : Nat → Int → Int → Int → Int → Int → Int → Int → Int → Int → List Int → Int → Int → Int → List Int → Option (Int × Int × Int × List Int)
 | 0, _, _, _, _, _, _, _, _, _, _, _, _, _, _ => none
 | k + 1, x1, x2, x3, x4, x12, x13, xz5, xz6, xz7, xz8, xz2, xz3, xz4, xz9 => if x13 < x3 then ((spec_pixelAt.f xz5 xz6 xz7 xz8 (wrap64 (x1 + x13)) (wrap64 (x2 + x12))).bind fun tz4 => ((spec_setPixel.f k xz2 xz3 xz4 xz9 x13 x12 tz4).bind fun tz3 => (spec_crop.l1 k x1 x2 x3 x4 x12 (wrap64 (x13 + 1)) xz5 xz6 xz7 xz8 xz2 xz3 xz4 tz3))) else (spec_crop.l0 k x1 x2 x3 x4 (wrap64 (x12 + 1)) xz5 xz6 xz7 xz8 xz2 xz3 xz4 xz9)
end
def spec_crop.f (k : Nat) (a0_0 : Int) (a0_1 : Int) (a0_2 : Int) (l0_3 : List Int) (a1 : Int) (a2 : Int) (a3 : Int) (a4 : Int) : Option (Int × Int × Int × List Int) := (spec_newImage.f a3 a4 a0_2).bind fun btz0 => (spec_crop.l0 k a1 a2 a3 a4 0 a0_0 a0_1 a0_2 l0_3 btz0.1 btz0.2.1 btz0.2.2.1 btz0.2.2.2)
def spec_crop.T8 : Bool × List (List Nat × List Nat) := (true, [([], []), ([], []), ([], []), ([], []), ([], []), ([], []), ([4, 5], [4, 5]), ([], []), ([], []), ([7, 8], [7, 8]), ([3, 6, 9], [3, 6, 9]), ([0, 1, 2, 10, 10], [0, 1, 2, 10])])
def spec_crop.B8 : List Nat := [0, 0, 0, 0, 0, 0, 48, 0, 0, 384, 1016, 2047]
theorem spec_crop.tab8 : rtab .any (opsOf Try.f89 8) = spec_crop.T8 := by kernel_rfl
theorem spec_crop.bits8 : waitsOk spec_crop.T8.2 spec_crop.B8 = true := by kernel_rfl
theorem spec_crop.calls (k : Nat) (a0_0 : Int) (a0_1 : Int) (a0_2 : Int) (A0_3 : Option Addr) (c0_3 : Nat) (l0_3 : List Int) (a1 : Int) (a2 : Int) (a3 : Int) (a4 : Int) (r1 : Int) (r2 : Int) (r3 : Int) (r4 : List Int) (w : World) (hr0_3 : Kd.C (Kd.int .i64) w A0_3 l0_3.length l0_3) (hc0_3 : l0_3.length ≤ c0_3) (h : spec_crop.f k a0_0 a0_1 a0_2 l0_3 a1 a2 a3 a4 = some (r1, r2, r3, r4)) :
  Calls Try.prog 89 #[.agg #[.int .i64 a0_0, .int .i64 a0_1, .int .i64 a0_2, .slice A0_3 l0_3.length c0_3], .int .i64 a1, .int .i64 a2, .int .i64 a3, .int .i64 a4] w fun e w' => ∃ v3_ : Value, e = .returned (.agg #[.int .i64 r1, .int .i64 r2, .int .i64 r3, v3_]) ∧ Kd.R (Kd.int .i64) 3 w' w.heap.size (fun _ => True) v3_ r4 ∧ Below w.heap.size w w' := by
 have HR0_3 := mk hr0_3
 have HC0_3 := mk hc0_3
 clear hr0_3 hc0_3
 have HB := mk (Below.refl w.heap.size w)
 have H : ((spec_newImage.f a3 a4 a0_2).bind fun btz0 => (spec_crop.l0 k a1 a2 a3 a4 0 a0_0 a0_1 a0_2 l0_3 btz0.1 btz0.2.1 btz0.2.2.1 btz0.2.2.2)) = some (r1, r2, r3, r4) := h
 clear h
 replace H := Option.bind_eq_some_iff.mp H
 obtain ⟨⟨tz0, tz1, tz2, tz5⟩, A60, H⟩ := H
 replace H : (spec_crop.l0 k a1 a2 a3 a4 0 a0_0 a0_1 a0_2 l0_3 tz0 tz1 tz2 tz5) = some (r1, r2, r3, r4) := H
 have A6 := mk A60
 clear A60
 have H' := mk H
 clear H
 go_enter Try.func89, Try.ntmps89
 go_wp2_with (first | ((with_reducible refine gate_dst (N := 5) rfl ?_); refine box_event (by rfl) (N := 5) (by rfl) (cs := #[.int .i64 a0_0, .int .i64 a0_1, .int .i64 a0_2, .slice A0_3 l0_3.length c0_3]) (t := 28) (by go_simp; done) ?_; intro gbz2 hg w7 hbox hb; replace HB := mk (below_step HB.out hb); have BKz0 := mk (hbox); clear hb hbox hg) | ((with_reducible refine gate_dst (N := 10) rfl ?_); refine box_event (by rfl) (N := 10) (by rfl) (cs := #[.int .i64 0, .int .i64 0, .int .i64 0, .slice none 0 0]) (t := 28) (by go_simp; done) ?_; intro gbz1 hg w8 hbox hb; replace BKz0 := mk (blk_below BKz0.out hb); have BKz2 := mk (hbox); have GEz0 := mk ((by rw [hg]; exact (below_size HB.out) : w.heap.size ≤ gbz1)); replace HB := mk (below_step HB.out hb); clear hb hbox hg; obtain ⟨hcz10_0, hcz10_1, hcz10_2, hcz10_3, hfz10_0, hfz10_1, hfz10_2, -⟩ := c4 BKz0.out; have hfz10_3 := blk_frozen BKz0.out 3) | ((with_reducible refine gate_callee (f := 107) rfl ?_); refine goesL_ (some 18) rfl rfl Try.func107 (by kernel_rfl) rfl #[.int .i64 a3, .int .i64 a4, .int .i64 a0_2] rfl (by (try simp only [bitvec_to_nat]); rfl) ?_; (with_reducible refine (spec_newImage.calls a3 a4 a0_2 tz0 tz1 tz2 tz5 _ A6.out).mono ?_); rintro e w11 ⟨vz0, rfl, ho0, hb⟩; refine ⟨_, rfl, ?_⟩; have HOz2 := mk (Kd.R_lower ho0 (below_size HB.out)); replace BKz0 := mk (blk_below BKz0.out hb); replace BKz2 := mk (blk_below BKz2.out hb); replace HB := mk (below_step HB.out hb); (try clear hb); (try clear ho0)) | ((with_reducible refine gate_dst (N := 11) rfl ?_); refine box_event (by rfl) (N := 11) (by rfl) (cs := #[.int .i64 0, .int .i64 0, .int .i64 0, .slice none 0 0]) (t := 28) (by go_simp; done) ?_; intro gbz0 hg w12 hbox hb; replace HOz2 := mk (Kd.R_below HOz2.out hb); have BKz1 := mk (hbox); have GEz1 := mk ((by rw [hg]; exact (below_size HB.out) : w.heap.size ≤ gbz0)); replace HB := mk (below_step HB.out hb); have NBz0 := mk ((by rw [hg]; exact Nat.ne_of_lt (blk_lt BKz0.out) : gbz2 ≠ gbz0)); replace BKz0 := mk (blk_below BKz0.out hb); have NBz1 := mk ((by rw [hg]; exact Nat.ne_of_lt (blk_lt BKz2.out) : gbz1 ≠ gbz0)); replace BKz2 := mk (blk_below BKz2.out hb); clear hb hbox hg; obtain ⟨hcz15_0, hcz15_1, hcz15_2, hcz15_3, hfz15_0, hfz15_1, hfz15_2, hfz15_3⟩ := c4 BKz1.out; obtain ⟨Ao16, co16, eo16⟩ := Kd.R_slice HOz2.out; subst eo16))
 go_loopg [12] k (fun kq v12 w' => ∃ (x12_1 : Int) (xz1 : List Int) (u90010003 : Value), v12 = .int .i64 x12_1 ∧ Aside0 (spec_crop.l0 kq a1 a2 a3 a4 x12_1 a0_0 a0_1 a0_2 l0_3 tz0 tz1 tz2 xz1 = some (r1, r2, r3, r4)) ∧ Aside0 (kq ≤ k) ∧ Aside0 (Kd.R (Kd.int .i64) 3 w' w.heap.size (fun _ => True) u90010003 xz1) ∧ Aside0 (w'.heap[gbz2]? = some (.cells #[.int .i64 a0_0, .int .i64 a0_1, .int .i64 a0_2, (.slice A0_3 l0_3.length c0_3)] 28 (0, 0))) ∧ Aside0 (w'.heap[gbz1]? = some (.cells #[.int .i64 0, .int .i64 0, .int .i64 0, (.slice none 0 0)] 28 (0, 0))) ∧ Aside0 (w'.heap[gbz0]? = some (.cells #[.int .i64 tz0, .int .i64 tz1, .int .i64 tz2, u90010003] 28 (0, 0))) ∧ Aside0 (Below w.heap.size w w'))
 case atStart => exact ⟨(0), (tz5), (.slice Ao16 tz5.length co16), (by rfl), H', ⟨Nat.le_refl _⟩, ⟨by exact Kd.R_mono (Kd.R_far (p := ⟨gbz0, 3, none⟩) (Kd.R_far (p := ⟨gbz0, 2, none⟩) (Kd.R_far (p := ⟨gbz0, 1, none⟩) (Kd.R_far (p := ⟨gbz0, 0, none⟩) (Kd.R_types HOz2.out BKz1.out (by decide)) (fun _ hk => hk.2) (.int .i64 tz0)) (fun _ hk => hk.2) (.int .i64 tz1)) (fun _ hk => hk.2) (.int .i64 tz2)) (fun _ hk => hk.2) (.slice Ao16 tz5.length co16)) (fun _ hk => trivial)⟩, ⟨by refine blk_far ?_ NBz0.out _; refine blk_far ?_ NBz0.out _; refine blk_far ?_ NBz0.out _; refine blk_far ?_ NBz0.out _; exact BKz0.out⟩, ⟨by refine blk_far ?_ NBz1.out _; refine blk_far ?_ NBz1.out _; refine blk_far ?_ NBz1.out _; refine blk_far ?_ NBz1.out _; exact BKz2.out⟩, ⟨by refine blk_put (cs := #[.int .i64 tz0, .int .i64 tz1, .int .i64 tz2, .slice none 0 0]) ?_ 3 _ rfl; refine blk_put (cs := #[.int .i64 tz0, .int .i64 tz1, .int .i64 0, .slice none 0 0]) ?_ 2 _ rfl; refine blk_put (cs := #[.int .i64 tz0, .int .i64 0, .int .i64 0, .slice none 0 0]) ?_ 1 _ rfl; refine blk_put (cs := #[.int .i64 0, .int .i64 0, .int .i64 0, .slice none 0 0]) ?_ 0 _ rfl; exact BKz1.out⟩, ⟨by repeat (with_reducible first | exact HB.out | refine below_set ?_ GEz1.out)⟩⟩
 case round =>
  clear H'
  obtain ⟨x12_1, xz1, u90010003, rfl, HA, HK1, HOz0, BKz0, BKz2, BKz1, HB⟩ := hrel
  cases gk with
  | zero => exact absurd HA.out (by simp [spec_crop.l0])
  | succ k1 =>
   have H := HA.out
   clear HA
   simp only [spec_crop.l0] at H
   by_cases c17 : x12_1 < a4
   ·rw [if_pos c17] at H
    have c17b0 : decide (x12_1 < a4) = true := decide_eq_true c17
    clear c17
    have H' := mk H
    clear H
    go_wp2
    go_loopg [13] k1 (fun kq v13 w' => ∃ (x13_2 : Int) (xz0 : List Int) (u90010003 : Value), v13 = .int .i64 x13_2 ∧ Aside0 (spec_crop.l1 kq a1 a2 a3 a4 x12_1 x13_2 a0_0 a0_1 a0_2 l0_3 tz0 tz1 tz2 xz0 = some (r1, r2, r3, r4)) ∧ Aside0 (kq ≤ k1) ∧ Aside0 (Kd.R (Kd.int .i64) 3 w' w.heap.size (fun _ => True) u90010003 xz0) ∧ Aside0 (w'.heap[gbz2]? = some (.cells #[.int .i64 a0_0, .int .i64 a0_1, .int .i64 a0_2, (.slice A0_3 l0_3.length c0_3)] 28 (0, 0))) ∧ Aside0 (w'.heap[gbz1]? = some (.cells #[.int .i64 0, .int .i64 0, .int .i64 0, (.slice none 0 0)] 28 (0, 0))) ∧ Aside0 (w'.heap[gbz0]? = some (.cells #[.int .i64 tz0, .int .i64 tz1, .int .i64 tz2, u90010003] 28 (0, 0))) ∧ Aside0 (Below w.heap.size w w'))
    case atStart => exact ⟨(0), (xz1), (u90010003), (by rfl), H', ⟨Nat.le_refl _⟩, HOz0, BKz0, BKz2, BKz1, HB⟩
    case round =>
     clear H'
     obtain ⟨x13_2, xz0, u90010003, rfl, HA, HK2, HOz0, BKz0, BKz2, BKz1, HB⟩ := hrel
     cases gk with
     | zero => exact absurd HA.out (by simp [spec_crop.l1])
     | succ k2 =>
      have H := HA.out
      clear HA
      simp only [spec_crop.l1] at H
      by_cases c18 : x13_2 < a3
      ·rw [if_pos c18] at H
       have c18b0 : decide (x13_2 < a3) = true := decide_eq_true c18
       clear c18
       replace H := Option.bind_eq_some_iff.mp H
       obtain ⟨tz4, A190, H⟩ := H
       replace H : ((spec_setPixel.f k2 tz0 tz1 tz2 xz0 x13_2 x12_1 tz4).bind fun tz3 => (spec_crop.l1 k2 a1 a2 a3 a4 x12_1 (wrap64 (x13_2 + 1)) a0_0 a0_1 a0_2 l0_3 tz0 tz1 tz2 tz3)) = some (r1, r2, r3, r4) := H
       have A19 := mk A190
       clear A190
       replace H := Option.bind_eq_some_iff.mp H
       obtain ⟨tz3, A200, H⟩ := H
       replace H : (spec_crop.l1 k2 a1 a2 a3 a4 x12_1 (wrap64 (x13_2 + 1)) a0_0 a0_1 a0_2 l0_3 tz0 tz1 tz2 tz3) = some (r1, r2, r3, r4) := H
       have A20 := mk A200
       clear A200
       have H' := mk H
       clear H
       try go_wp2
       replace HOz0 := mk (Kd.R_drew HOz0.out)
       replace BKz0 := mk (blk_drew BKz0.out)
       replace BKz2 := mk (blk_drew BKz2.out)
       replace BKz1 := mk (blk_drew BKz1.out)
       replace HB := mk (below_drew1 HB.out)
       refine start_ (n := 12) (S := fun w' => w'.cell? ⟨gbz0, 0, none⟩ = some (.int .i64 tz0) ∧ w'.cell? ⟨gbz0, 1, none⟩ = some (.int .i64 tz1) ∧ w'.cell? ⟨gbz0, 2, none⟩ = some (.int .i64 tz2) ∧ w'.cell? ⟨gbz0, 3, none⟩ = some u90010003 ∧ w'.cell? ⟨gbz2, 0, none⟩ = some (.int .i64 a0_0) ∧ w'.cell? ⟨gbz2, 1, none⟩ = some (.int .i64 a0_1) ∧ w'.cell? ⟨gbz2, 2, none⟩ = some (.int .i64 a0_2) ∧ w'.cell? ⟨gbz2, 3, none⟩ = some (.slice A0_3 l0_3.length c0_3)) (ds := []) #[false, false, false, false, false, false, false, false, false, false, false, false] (by kernel_rfl) rfl rfl ⟨blk_cell BKz1.out 0, blk_cell BKz1.out 1, blk_cell BKz1.out 2, blk_cell BKz1.out 3, blk_cell BKz0.out 0, blk_cell BKz0.out 1, blk_cell BKz0.out 2, blk_cell BKz0.out 3⟩ (fun hHeld => ?_); refine with_tabW spec_crop.tab8 spec_crop.bits8 (fun HT_ HW_ => ?_)
       generalize wr.drew = w21 at HOz0 BKz0 BKz2 BKz1 HB hHeld ⊢
       refine pu 1 30 ?_ ?_ rfl rfl (any_of HT_.out (by kernel_rfl)) (Or.inl ⟨by rfl, ?_⟩) ?_ ?_
       rotate_left 2
       ·intro w'
        go_simp
        with_reducible rfl
       ·simp only [seval]
        rfl
       refine pu 2 31 ?_ ?_ rfl rfl (any_of HT_.out (by kernel_rfl)) (Or.inl ⟨by rfl, ?_⟩) ?_ ?_
       rotate_left 2
       ·intro w'
        go_simp
        with_reducible rfl
       ·simp only [seval]
        rfl
       refine pu 4 33 ?_ ?_ rfl rfl (any_of HT_.out (by kernel_rfl)) (Or.inl ⟨by rfl, ?_⟩) ?_ ?_
       rotate_left 2
       ·intro w'
        go_simp
        with_reducible rfl
       ·simp only [seval]
        rfl
       refine pu 5 34 ?_ ?_ rfl rfl (any_of HT_.out (by kernel_rfl)) (Or.inl ⟨by rfl, ?_⟩) ?_ ?_
       rotate_left 2
       ·intro w'
        go_simp
        with_reducible rfl
       ·simp only [seval]
        rfl
       refine pu 6 35 ?_ ?_ rfl rfl (any_of HT_.out (by kernel_rfl)) (Or.inl ⟨by rfl, ?_⟩) ?_ ?_
       rotate_left 2
       ·intro w'
        go_simp
        with_reducible rfl
       ·simp only [seval]
        rfl
       refine pu 7 36 ?_ ?_ rfl rfl (any_of HT_.out (by kernel_rfl)) (Or.inl ⟨by rfl, ?_⟩) ?_ ?_
       rotate_left 2
       ·intro w'
        go_simp
        with_reducible rfl
       ·simp only [seval]
        rfl
       refine pu 8 37 ?_ ?_ rfl rfl (any_of HT_.out (by kernel_rfl)) (Or.inl ⟨by rfl, ?_⟩) ?_ ?_
       rotate_left 2
       ·intro w'
        go_simp
        with_reducible rfl
       ·simp only [seval]
        rfl
       refine pu 9 38 ?_ ?_ rfl rfl (any_of HT_.out (by kernel_rfl)) (Or.inl ⟨by rfl, ?_⟩) ?_ ?_
       rotate_left 2
       ·intro w'
        go_simp
        with_reducible rfl
       ·simp only [seval]
        rfl
       refine tk 0 29 ?_ ?_ rfl rfl (take_ofW HT_.out HW_.out (by kernel_rfl)) (Or.inl ⟨by rfl, ?_⟩) hHeld ?_ ?_
       rotate_left 2
       ·rintro w' ⟨s0, s1, s2, s3, s4, s5, s6, s7⟩
        go_simp
        with_reducible rfl
       ·simp only [seval]
        rfl
       refine tk 3 32 ?_ ?_ rfl rfl (take_ofW HT_.out HW_.out (by kernel_rfl)) (Or.inl ⟨by rfl, ?_⟩) hHeld ?_ ?_
       rotate_left 2
       ·rintro w' ⟨s0, s1, s2, s3, s4, s5, s6, s7⟩
        go_simp
        with_reducible rfl
       ·simp only [seval]
        rfl
       refine one_ (i := 10) (N := some 39) #[true, true, true, true, true, true, true, true, true, true, true, false] rfl rfl (one_of HT_.out (by kernel_rfl)) (by decide) (fun K hK => ?_)
       refine goes_ Try.func63 (by kernel_rfl) rfl #[.agg #[.int .i64 a0_0, .int .i64 a0_1, .int .i64 a0_2, .slice A0_3 l0_3.length c0_3], .int .i64 (wrap64 (a1 + x13_2)), .int .i64 (wrap64 (a2 + x12_1))] (by rfl) rfl rfl (by (try simp only [bitvec_to_nat]); rfl) ?_
       with_reducible refine (spec_pixelAt.calls a0_0 a0_1 a0_2 _ _ l0_3 (wrap64 (a1 + x13_2)) (wrap64 (a2 + x12_1)) tz4 _ ?side1 ?side2 A19.out).mono ?_
       (case side1 => repeat (exact (Kd.C_below HR0_3.out HB.out)))
       (case side2 => exact HC0_3.out)
       rintro e w22 ⟨vz1, rfl, ho0, hb⟩
       refine ⟨_, rfl, ?_⟩
       have HOz1 := mk (Kd.R_lower (Kd.R_new' ho0 (Kd.R_lt HOz0.out)) (below_size HB.out))
       replace HOz0 := mk (Kd.R_elder' HOz0.out (Kd.R_base ho0) hb)
       replace BKz0 := mk (blk_below BKz0.out hb)
       replace BKz2 := mk (blk_below BKz2.out hb)
       replace BKz1 := mk (blk_below BKz1.out hb)
       replace HB := mk (below_step HB.out hb)
       (try clear hb)
       (try clear ho0)
       obtain ⟨Ao23, co23, eo23⟩ := Kd.R_slice HOz0.out
       (subst eo23)
       obtain ⟨Ao24, co24, eo24⟩ := Kd.R_slice HOz1.out
       (subst eo24)
       refine hK.out _ _ ⟨blk_cell BKz1.out 0, blk_cell BKz1.out 1, blk_cell BKz1.out 2, blk_cell BKz1.out 3, blk_cell BKz0.out 0, blk_cell BKz0.out 1, blk_cell BKz0.out 2, blk_cell BKz0.out 3⟩ (fun hHeld => ?_)
       clear hK K
       refine norm_ (a' := ?_) ?_ ?_
       rotate_left
       ·show Act.put _ (some 39) _ = _
        simp only [seval]
        rfl
       refine one_ (i := 11) (N := some 40) #[true, true, true, true, true, true, true, true, true, true, true, true] rfl rfl (one_of HT_.out (by kernel_rfl)) (by decide) (fun K hK => ?_)
       refine goes_ Try.func106 (by kernel_rfl) rfl #[.agg #[.int .i64 tz0, .int .i64 tz1, .int .i64 tz2, .slice Ao23 xz0.length co23], .int .i64 x13_2, .int .i64 x12_1, .slice Ao24 tz4.length co24] (by rfl) rfl rfl (by (try simp only [bitvec_to_nat]); rfl) ?_
       with_reducible refine (spec_setPixel.calls k2 tz0 tz1 tz2 (fun k_ => some k_ = (.slice Ao23 xz0.length co23 : Value).ownBlock) (.slice Ao23 xz0.length co23) xz0 x13_2 x12_1 _ _ tz4 tz3 w _ ?side1 ?side2 ?side3 ?side4 A20.out).mono ?_
       (case side1 => repeat (with_reducible exact HB.out))
       (case side2 => exact Kd.R_tight rfl HOz0.out)
       (case side3 => exact Kd.C_kept_own HOz1.out (fun k_ hk_ hs_ => hk_.2 hs_))
       (case side4 => exact (Kd.R_reads' HOz1.out).2.1)
       rintro e w25 ⟨rfl, hy0, hb, hkp⟩
       refine ⟨_, rfl, ?_⟩
       replace BKz0 := mk (blk_kept BKz0.out hkp (fun hs_ => (fun e_ => (Kd.R_ne HOz0.out BKz0.out (by decide)) e_) hs_))
       replace BKz2 := mk (blk_kept BKz2.out hkp (fun hs_ => (fun e_ => (Kd.R_ne HOz0.out BKz2.out (by decide)) e_) hs_))
       replace BKz1 := mk (blk_kept BKz1.out hkp (fun hs_ => (fun e_ => (Kd.R_ne HOz0.out BKz1.out (by decide)) e_) hs_))
       replace HOz0 := mk (Kd.R_reok rfl hy0 (fun k_ e_ => HOz0.out.1 k_ e_))
       replace HOz1 := mk (Kd.R_mono (ok' := fun k_ => some k_ ≠ (.slice Ao23 xz0.length co23 : Value).ownBlock) (Kd.R_keptB HOz1.out hkp (fun k_ hk_ hs_ => hk_.2 hs_)) (fun k_ hk_ => hk_.1.2))
       replace HB := mk (hb)
       (try clear hb)
       (try clear hkp)
       (try clear hy0)
       refine hK.out _ _ ⟨blk_cell BKz1.out 0, blk_cell BKz1.out 1, blk_cell BKz1.out 2, blk_cell BKz1.out 3, blk_cell BKz0.out 0, blk_cell BKz0.out 1, blk_cell BKz0.out 2, blk_cell BKz0.out 3⟩ (fun hHeld => ?_)
       clear hK K
       refine norm_ (a' := ?_) ?_ ?_
       rotate_left
       ·show Act.put _ (some 40) _ = _
        simp only [seval]
        rfl
       refine done_ (done_of HT_.out (by kernel_rfl)) ?_
       try go_wp2
       go_roundg k2
       case measure => have := HK1.out; have := HK2.out; omega
       case rel => exact ⟨(wrap64 (x13_2 + 1)), (tz3), (.slice Ao23 xz0.length co23), (by rfl), H', ⟨by have := HK1.out; have := HK2.out; omega⟩, ⟨by exact Kd.R_mono HOz0.out (fun _ hk => trivial)⟩, BKz0, BKz2, BKz1, HB⟩
      rw [if_neg c18] at H
      have c18b0 : decide (x13_2 < a3) = false := decide_eq_false c18
      clear c18
      have H' := mk H
      clear H
      go_wp2
      go_roundg k2
      case measure => have := HK1.out; have := HK2.out; omega
      case rel => exact ⟨(wrap64 (x12_1 + 1)), (xz0), (u90010003), (by rfl), H', ⟨by have := HK1.out; have := HK2.out; omega⟩, HOz0, BKz0, BKz2, BKz1, HB⟩
   rw [if_neg c17] at H
   have c17b0 : decide (x12_1 < a4) = false := decide_eq_false c17
   clear c17
   simp only [Option.some.injEq, Prod.mk.injEq] at H
   obtain ⟨rfl, rfl, rfl, rfl⟩ := H
   obtain ⟨hcz28_0, hcz28_1, hcz28_2, -⟩ := c4 BKz1.out
   have hcz28_3 : wr.cell? ⟨gbz0, 3, none⟩ = some u90010003 := (blk_cell BKz1.out 3).trans rfl
   obtain ⟨hcz30_0, hcz30_1, hcz30_2, hcz30_3, hfz30_0, hfz30_1, hfz30_2, hfz30_3⟩ := c4 BKz2.out
   obtain ⟨Ao31, co31, eo31⟩ := Kd.R_slice HOz0.out
   subst eo31
   go_wp2
   refine bodyPost_ret (results_cell_row rfl _ _ gbz1 28 #[.int .i64 tz0, .int .i64 tz1, .int .i64 tz2, .slice Ao31 xz1.length co31] (0, 0) _ rfl (by refine blk_put (cs := #[.int .i64 tz0, .int .i64 tz1, .int .i64 tz2, .slice none 0 0]) ?_ 3 _ rfl; refine blk_put (cs := #[.int .i64 tz0, .int .i64 tz1, .int .i64 0, .slice none 0 0]) ?_ 2 _ rfl; refine blk_put (cs := #[.int .i64 tz0, .int .i64 0, .int .i64 0, .slice none 0 0]) ?_ 1 _ rfl; refine blk_put (cs := #[.int .i64 0, .int .i64 0, .int .i64 0, .slice none 0 0]) ?_ 0 _ rfl; exact BKz2.out) Try.underlying28 rfl (by kernel_rfl)) rfl ?_
   exact ⟨_, by rfl, by exact Kd.R_mono (Kd.R_far (p := ⟨gbz1, 3, none⟩) (Kd.R_far (p := ⟨gbz1, 2, none⟩) (Kd.R_far (p := ⟨gbz1, 1, none⟩) (Kd.R_far (p := ⟨gbz1, 0, none⟩) (Kd.R_types HOz0.out BKz2.out (by decide)) (fun _ hk => hk.2) (.int .i64 tz0)) (fun _ hk => hk.2) (.int .i64 tz1)) (fun _ hk => hk.2) (.int .i64 tz2)) (fun _ hk => hk.2) (.slice Ao31 xz1.length co31)) (fun _ hk => trivial), by repeat (with_reducible first | exact HB.out | refine below_set ?_ GEz0.out)⟩


mutual
def spec_PatchImage.j0 : Nat → List S60 → Bool → Int → Int → Int → List Int → Int → Int → Int → List Int → Option (Int × Int × Int × List Int × Bool)
 | 0, _, _, _, _, _, _, _, _, _, _ => none
 | k + 1, x2, x18, xz4, xz5, xz6, xz7, xz8, xz9, xz10, xz11 => if x18 = true then (some (0, 0, 0, ([] : List Int), false)) else ((spec_copyImage.f xz4 xz5 xz6 xz7).bind fun btz1 => (spec_PatchImage.l0 k x2 0 xz4 xz5 xz6 xz7 xz8 xz9 xz10 xz11 btz1.1 btz1.2.1 btz1.2.2.1 btz1.2.2.2))
def spec_PatchImage.l0 : Nat → List S60 → Int → Int → Int → Int → List Int → Int → Int → Int → List Int → Int → Int → Int → List Int → Option (Int × Int × Int × List Int × Bool)
 | 0, _, _, _, _, _, _, _, _, _, _, _, _, _, _ => none
 | k + 1, x2, x9, xz4, xz5, xz6, xz7, xz8, xz9, xz10, xz11, xz12, xz13, xz14, xz15 => if x9 < (x2.length : Int) then (if 0 ≤ x9 then ((spec_validBox.f xz4 xz5 xz6 xz7 ((rd_T60 x2 x9).f0) ((rd_T60 x2 x9).f1) ((rd_T60 x2 x9).f2) ((rd_T60 x2 x9).f3)).bind fun tz6 => (if tz6 = true then ((spec_crop.f k xz8 xz9 xz10 xz11 ((rd_T60 x2 x9).f0) ((rd_T60 x2 x9).f1) ((rd_T60 x2 x9).f2) ((rd_T60 x2 x9).f3)).bind fun btz0 => ((spec_paste.f k xz12 xz13 xz14 xz15 ((rd_T60 x2 x9).f0) ((rd_T60 x2 x9).f1) btz0.1 btz0.2.1 btz0.2.2.1 btz0.2.2.2).bind fun tz3 => (spec_PatchImage.l0 k x2 (wrap64 (x9 + 1)) xz4 xz5 xz6 xz7 xz8 xz9 xz10 xz11 xz12 xz13 xz14 tz3))) else (some (0, 0, 0, ([] : List Int), false)))) else none) else (some (xz12, xz13, xz14, xz15, true))
end
def spec_PatchImage.f (k : Nat) (a0_0 : Int) (a0_1 : Int) (a0_2 : Int) (l0_3 : List Int) (a1_0 : Int) (a1_1 : Int) (a1_2 : Int) (l1_3 : List Int) (l2 : List S60) : Option (Int × Int × Int × List Int × Bool) := (spec_sameShape.f k a0_0 a0_1 a0_2 l0_3 a1_0 a1_1 a1_2 l1_3).bind fun tz4 => (if tz4 = true then (spec_PatchImage.j0 k l2 (decide ((l2.length : Int) > 128)) a0_0 a0_1 a0_2 l0_3 a1_0 a1_1 a1_2 l1_3) else (spec_PatchImage.j0 k l2 true a0_0 a0_1 a0_2 l0_3 a1_0 a1_1 a1_2 l1_3))
def spec_PatchImage.T9 : Bool × List (List Nat × List Nat) := (true, [([], []), ([], []), ([], []), ([1, 2], [1, 2]), ([3], [3]), ([4], [4]), ([], []), ([], []), ([6, 7], [6, 7]), ([8], [8]), ([9], [9]), ([], []), ([], []), ([], []), ([12, 13], [12, 13]), ([14], [14]), ([15], [15]), ([], []), ([], []), ([17, 18], [17, 18]), ([19], [19]), ([20], [20]), ([], []), ([], []), ([22, 23], [22, 23]), ([24], [24]), ([25], [25]), ([], []), ([], []), ([27, 28], [27, 28]), ([29], [29]), ([30], [30]), ([11, 16, 21, 26, 31], [11, 16, 21, 26, 31]), ([0, 5, 10, 32, 32], [0, 5, 10, 32])])
def spec_PatchImage.B9 : List Nat := [0, 0, 0, 6, 14, 30, 0, 0, 192, 448, 960, 0, 0, 0, 12288, 28672, 61440, 0, 0, 393216, 917504, 1966080, 0, 0, 12582912, 29360128, 62914560, 0, 0, 402653184, 939524096, 2013265920, 4294965248, 8589934591]
theorem spec_PatchImage.tab9 : rtab .any (opsOf Try.f42 9) = spec_PatchImage.T9 := by kernel_rfl
theorem spec_PatchImage.bits9 : waitsOk spec_PatchImage.T9.2 spec_PatchImage.B9 = true := by kernel_rfl
theorem spec_PatchImage.calls (k : Nat) (a0_0 : Int) (a0_1 : Int) (a0_2 : Int) (A0_3 : Option Addr) (c0_3 : Nat) (l0_3 : List Int) (a1_0 : Int) (a1_1 : Int) (a1_2 : Int) (A1_3 : Option Addr) (c1_3 : Nat) (l1_3 : List Int) (A2 : Option Addr) (c2 : Nat) (l2 : List S60) (r1 : Int) (r2 : Int) (r3 : Int) (r4 : List Int) (r5 : Bool) (w : World) (hr0_3 : Kd.C (Kd.int .i64) w A0_3 l0_3.length l0_3) (hc0_3 : l0_3.length ≤ c0_3) (hr1_3 : Kd.C (Kd.int .i64) w A1_3 l1_3.length l1_3) (hc1_3 : l1_3.length ≤ c1_3) (hr2 : Kd.C k60 w A2 l2.length l2) (hc2 : l2.length ≤ c2) (h : spec_PatchImage.f k a0_0 a0_1 a0_2 l0_3 a1_0 a1_1 a1_2 l1_3 l2 = some (r1, r2, r3, r4, r5)) :
  Calls Try.prog 42 #[.agg #[.int .i64 a0_0, .int .i64 a0_1, .int .i64 a0_2, .slice A0_3 l0_3.length c0_3], .agg #[.int .i64 a1_0, .int .i64 a1_1, .int .i64 a1_2, .slice A1_3 l1_3.length c1_3], .slice A2 l2.length c2] w fun e w' => ∃ v3_ : Value, e = .returned (.tuple #[.agg #[.int .i64 r1, .int .i64 r2, .int .i64 r3, v3_], .bool r5]) ∧ Kd.R (Kd.int .i64) 3 w' w.heap.size (fun _ => True) v3_ r4 ∧ Below w.heap.size w w' := by
 have HR0_3 := mk hr0_3
 have HC0_3 := mk hc0_3
 clear hr0_3 hc0_3
 have HR1_3 := mk hr1_3
 have HC1_3 := mk hc1_3
 clear hr1_3 hc1_3
 have HR2 := mk hr2
 clear hr2 hc2
 have HB := mk (Below.refl w.heap.size w)
 have H : ((spec_sameShape.f k a0_0 a0_1 a0_2 l0_3 a1_0 a1_1 a1_2 l1_3).bind fun tz4 => (if tz4 = true then (spec_PatchImage.j0 k l2 (decide ((l2.length : Int) > 128)) a0_0 a0_1 a0_2 l0_3 a1_0 a1_1 a1_2 l1_3) else (spec_PatchImage.j0 k l2 true a0_0 a0_1 a0_2 l0_3 a1_0 a1_1 a1_2 l1_3))) = some (r1, r2, r3, r4, r5) := h
 clear h
 have HC4 := mk H
 clear H
 go_enter Try.func42, Try.ntmps42
 go_upto_region 1 with (first | ((with_reducible refine gate_dst (N := 3) rfl ?_); (try (refine gate_guard (by rfl) ?_; dsimp only)); refine box_event (by rfl) (N := 3) (by rfl) (cs := #[.int .i64 a0_0, .int .i64 a0_1, .int .i64 a0_2, .slice A0_3 l0_3.length c0_3]) (t := 28) (by go_simp; done) ?_; intro gbz0 hg w5 hbox hb; replace HB := mk (below_step HB.out hb); have BKz0 := mk (hbox); clear hb hbox hg) | ((with_reducible refine gate_dst (N := 4) rfl ?_); (try (refine gate_guard (by rfl) ?_; dsimp only)); refine box_event (by rfl) (N := 4) (by rfl) (cs := #[.int .i64 a1_0, .int .i64 a1_1, .int .i64 a1_2, .slice A1_3 l1_3.length c1_3]) (t := 28) (by go_simp; done) ?_; intro gbz3 hg w6 hbox hb; replace BKz0 := mk (blk_below BKz0.out hb); replace HB := mk (below_step HB.out hb); have BKz2 := mk (hbox); clear hb hbox hg) | ((with_reducible refine gate_dst (N := 6) rfl ?_); (try (refine gate_guard (by rfl) ?_; dsimp only)); refine box_event (by rfl) (N := 6) (by rfl) (cs := #[.int .i64 0, .int .i64 0, .int .i64 0, .slice none 0 0]) (t := 28) (by go_simp; done) ?_; intro gbz1 hg w7 hbox hb; replace BKz0 := mk (blk_below BKz0.out hb); replace BKz2 := mk (blk_below BKz2.out hb); have BKz1 := mk (hbox); have GEz0 := mk ((by rw [hg]; exact (below_size HB.out) : w.heap.size ≤ gbz1)); replace HB := mk (below_step HB.out hb); clear hb hbox hg))
 go_cut [18] (fun v18 wc => ∃ (kq : Nat) (x18_3 : Bool), v18 = .bool x18_3 ∧ Aside0 (spec_PatchImage.j0 kq l2 x18_3 a0_0 a0_1 a0_2 l0_3 a1_0 a1_1 a1_2 l1_3 = some (r1, r2, r3, r4, r5)) ∧ Aside0 (kq ≤ k) ∧ Aside0 (wc.heap[gbz0]? = some (.cells #[.int .i64 a0_0, .int .i64 a0_1, .int .i64 a0_2, (.slice A0_3 l0_3.length c0_3)] 28 (0, 0))) ∧ Aside0 (wc.heap[gbz3]? = some (.cells #[.int .i64 a1_0, .int .i64 a1_1, .int .i64 a1_2, (.slice A1_3 l1_3.length c1_3)] 28 (0, 0))) ∧ Aside0 (wc.heap[gbz1]? = some (.cells #[.int .i64 0, .int .i64 0, .int .i64 0, (.slice none 0 0)] 28 (0, 0))) ∧ Aside0 (Below w.heap.size w wc))
 case first =>
  have H := HC4.out
  clear HC4
  replace H := Option.bind_eq_some_iff.mp H
  obtain ⟨tz4, A80, H⟩ := H
  replace H : (if tz4 = true then (spec_PatchImage.j0 k l2 (decide ((l2.length : Int) > 128)) a0_0 a0_1 a0_2 l0_3 a1_0 a1_1 a1_2 l1_3) else (spec_PatchImage.j0 k l2 true a0_0 a0_1 a0_2 l0_3 a1_0 a1_1 a1_2 l1_3)) = some (r1, r2, r3, r4, r5) := H
  have A8 := mk A80
  clear A80
  by_cases c9 : tz4 = true
  ·subst c9
   have H1 : (spec_PatchImage.j0 k l2 (decide ((l2.length : Int) > 128)) a0_0 a0_1 a0_2 l0_3 a1_0 a1_1 a1_2 l1_3) = some (r1, r2, r3, r4, r5) := by rw [if_pos rfl] at H; exact H
   clear H
   have H := H1
   clear H1
   have H' := mk H
   clear H
   obtain ⟨hcz12_0, hcz12_1, hcz12_2, hcz12_3, -⟩ := c4 BKz0.out
   obtain ⟨hcz14_0, hcz14_1, hcz14_2, hcz14_3, -⟩ := c4 BKz2.out
   go_wp2_with (first | ((with_reducible refine gate_callee (f := 45) rfl ?_); refine goesL_ (some 12) rfl rfl Try.func45 (by kernel_rfl) rfl #[.agg #[.int .i64 a0_0, .int .i64 a0_1, .int .i64 a0_2, .slice A0_3 l0_3.length c0_3], .agg #[.int .i64 a1_0, .int .i64 a1_1, .int .i64 a1_2, .slice A1_3 l1_3.length c1_3]] rfl (by (try simp only [bitvec_to_nat]); rfl) ?_; (with_reducible refine (spec_sameShape.calls k a0_0 a0_1 a0_2 _ _ l0_3 a1_0 a1_1 a1_2 _ _ l1_3 true _ ?side1 ?side2 ?side3 ?side4 A8.out).mono ?_); (case side1 => repeat (exact (Kd.C_below HR0_3.out HB.out))); (case side2 => exact HC0_3.out); (case side3 => repeat (exact (Kd.C_below HR1_3.out HB.out))); (case side4 => exact HC1_3.out); rintro e w15 ⟨rfl, hb⟩; refine ⟨_, rfl, ?_⟩; replace BKz0 := mk (blk_below BKz0.out hb); replace BKz2 := mk (blk_below BKz2.out hb); replace BKz1 := mk (blk_below BKz1.out hb); replace HB := mk (below_step HB.out hb); (try clear hb)))
   go_meet
   case rel => exact ⟨_, (decide ((l2.length : Int) > 128)), (by rfl), H', ⟨by omega⟩, BKz0, BKz2, BKz1, HB⟩
  replace c9 := Bool.eq_false_iff.mpr c9
  subst c9
  have H1 : (spec_PatchImage.j0 k l2 true a0_0 a0_1 a0_2 l0_3 a1_0 a1_1 a1_2 l1_3) = some (r1, r2, r3, r4, r5) := by rw [if_neg (show ¬ (false = true) by decide)] at H; exact H
  clear H
  have H := H1
  clear H1
  have H' := mk H
  clear H
  obtain ⟨hcz18_0, hcz18_1, hcz18_2, hcz18_3, -⟩ := c4 BKz0.out
  obtain ⟨hcz20_0, hcz20_1, hcz20_2, hcz20_3, -⟩ := c4 BKz2.out
  go_wp2_with (first | ((with_reducible refine gate_callee (f := 45) rfl ?_); refine goesL_ (some 12) rfl rfl Try.func45 (by kernel_rfl) rfl #[.agg #[.int .i64 a0_0, .int .i64 a0_1, .int .i64 a0_2, .slice A0_3 l0_3.length c0_3], .agg #[.int .i64 a1_0, .int .i64 a1_1, .int .i64 a1_2, .slice A1_3 l1_3.length c1_3]] rfl (by (try simp only [bitvec_to_nat]); rfl) ?_; (with_reducible refine (spec_sameShape.calls k a0_0 a0_1 a0_2 _ _ l0_3 a1_0 a1_1 a1_2 _ _ l1_3 false _ ?side1 ?side2 ?side3 ?side4 A8.out).mono ?_); (case side1 => repeat (exact (Kd.C_below HR0_3.out HB.out))); (case side2 => exact HC0_3.out); (case side3 => repeat (exact (Kd.C_below HR1_3.out HB.out))); (case side4 => exact HC1_3.out); rintro e w21 ⟨rfl, hb⟩; refine ⟨_, rfl, ?_⟩; replace BKz0 := mk (blk_below BKz0.out hb); replace BKz2 := mk (blk_below BKz2.out hb); replace BKz1 := mk (blk_below BKz1.out hb); replace HB := mk (below_step HB.out hb); (try clear hb)))
  go_meet
  case rel => exact ⟨_, (true), (by rfl), H', ⟨by omega⟩, BKz0, BKz2, BKz1, HB⟩
 case rest =>
  clear HC4
  obtain ⟨kq, x18_3, rfl, HA, HJ3, BKz0, BKz2, BKz1, HB⟩ := hcut
  cases kq with
  | zero => exact absurd HA.out (by simp [spec_PatchImage.j0])
  | succ kj3 =>
   have H := HA.out
   clear HA
   simp only [spec_PatchImage.j0] at H
   by_cases c22 : x18_3 = true
   ·subst c22
    have H1 : (some (0, 0, 0, ([] : List Int), false)) = some (r1, r2, r3, r4, r5) := by rw [if_pos rfl] at H; exact H
    clear H
    have H := H1
    clear H1
    simp only [Option.some.injEq, Prod.mk.injEq] at H
    obtain ⟨rfl, rfl, rfl, rfl, rfl⟩ := H
    obtain ⟨hcz25_0, hcz25_1, hcz25_2, hcz25_3, hfz25_0, hfz25_1, hfz25_2, hfz25_3⟩ := c4 BKz1.out
    go_wp2
    refine bodyPost_ret (results_ct rfl _ _ gbz1 28 #[.int .i64 0, .int .i64 0, .int .i64 0, .slice none 0 0] (0, 0) _ rfl (by refine p4 (.int .i64 0) (.int .i64 0) (.int .i64 0) (.slice none 0 0) ?_; exact BKz1.out) Try.underlying28 rfl (by kernel_rfl)) rfl ?_
    exact ⟨_, by rfl, by exact Kd.R_nil _ _ _ _ _, by repeat (with_reducible first | exact HB.out | refine below_set ?_ GEz0.out)⟩
   replace c22 := Bool.eq_false_iff.mpr c22
   subst c22
   have H1 : ((spec_copyImage.f a0_0 a0_1 a0_2 l0_3).bind fun btz1 => (spec_PatchImage.l0 kj3 l2 0 a0_0 a0_1 a0_2 l0_3 a1_0 a1_1 a1_2 l1_3 btz1.1 btz1.2.1 btz1.2.2.1 btz1.2.2.2)) = some (r1, r2, r3, r4, r5) := by rw [if_neg (show ¬ (false = true) by decide)] at H; exact H
   clear H
   have H := H1
   clear H1
   replace H := Option.bind_eq_some_iff.mp H
   obtain ⟨⟨tz0, tz1, tz2, tz5⟩, A260, H⟩ := H
   replace H : (spec_PatchImage.l0 kj3 l2 0 a0_0 a0_1 a0_2 l0_3 a1_0 a1_1 a1_2 l1_3 tz0 tz1 tz2 tz5) = some (r1, r2, r3, r4, r5) := H
   have A26 := mk A260
   clear A260
   have H' := mk H
   clear H
   obtain ⟨hcz29_0, hcz29_1, hcz29_2, hcz29_3, hfz29_0, hfz29_1, hfz29_2, hfz29_3⟩ := c4 BKz0.out
   go_wp2_with (first | ((with_reducible refine gate_callee (f := 86) rfl ?_); refine goesL_ (some 21) rfl rfl Try.func86 (by kernel_rfl) rfl #[.agg #[.int .i64 a0_0, .int .i64 a0_1, .int .i64 a0_2, .slice A0_3 l0_3.length c0_3]] rfl (by (try simp only [bitvec_to_nat]); rfl) ?_; (with_reducible refine (spec_copyImage.calls a0_0 a0_1 a0_2 _ _ l0_3 tz0 tz1 tz2 tz5 _ ?side1 ?side2 A26.out).mono ?_); (case side1 => repeat (exact (Kd.C_below HR0_3.out HB.out))); (case side2 => exact HC0_3.out); rintro e w30 ⟨vz0, rfl, ho0, hb⟩; refine ⟨_, rfl, ?_⟩; have HOz2 := mk (Kd.R_lower ho0 (below_size HB.out)); replace BKz0 := mk (blk_below BKz0.out hb); replace BKz2 := mk (blk_below BKz2.out hb); replace BKz1 := mk (blk_below BKz1.out hb); replace HB := mk (below_step HB.out hb); (try clear hb); (try clear ho0)) | ((with_reducible refine gate_dst (N := 8) rfl ?_); (try (refine gate_guard (by rfl) ?_; dsimp only)); refine box_event (by rfl) (N := 8) (by rfl) (cs := #[.int .i64 0, .int .i64 0, .int .i64 0, .slice none 0 0]) (t := 28) (by go_simp; done) ?_; intro gbz2 hg w31 hbox hb; replace HOz2 := mk (Kd.R_below HOz2.out hb); have BKz3 := mk (hbox); have GEz1 := mk ((by rw [hg]; exact (below_size HB.out) : w.heap.size ≤ gbz2)); replace HB := mk (below_step HB.out hb); have NBz0 := mk ((by rw [hg]; exact Nat.ne_of_lt (blk_lt BKz0.out) : gbz0 ≠ gbz2)); replace BKz0 := mk (blk_below BKz0.out hb); have NBz1 := mk ((by rw [hg]; exact Nat.ne_of_lt (blk_lt BKz2.out) : gbz3 ≠ gbz2)); replace BKz2 := mk (blk_below BKz2.out hb); have NBz2 := mk ((by rw [hg]; exact Nat.ne_of_lt (blk_lt BKz1.out) : gbz1 ≠ gbz2)); replace BKz1 := mk (blk_below BKz1.out hb); clear hb hbox hg; obtain ⟨hcz35_0, hcz35_1, hcz35_2, hcz35_3, hfz35_0, hfz35_1, hfz35_2, hfz35_3⟩ := c4 BKz3.out; obtain ⟨Ao36, co36, eo36⟩ := Kd.R_slice HOz2.out; subst eo36))
   go_loopg [9] kj3 (fun kq v9 w' => ∃ (x9_2 : Int) (xz3 : Int) (xz2 : Int) (xz1 : Int) (xz0 : List Int) (u43012003 : Value), v9 = .int .i64 x9_2 ∧ Aside0 (spec_PatchImage.l0 kq l2 x9_2 a0_0 a0_1 a0_2 l0_3 a1_0 a1_1 a1_2 l1_3 tz0 tz1 tz2 xz0 = some (r1, r2, r3, r4, r5)) ∧ Aside0 (kq ≤ kj3) ∧ Aside0 (Kd.R (Kd.int .i64) 3 w' w.heap.size (fun _ => True) u43012003 xz0) ∧ Aside0 (w'.heap[gbz0]? = some (.cells #[.int .i64 a0_0, .int .i64 a0_1, .int .i64 a0_2, (.slice A0_3 l0_3.length c0_3)] 28 (0, 0))) ∧ Aside0 (w'.heap[gbz3]? = some (.cells #[.int .i64 a1_0, .int .i64 a1_1, .int .i64 a1_2, (.slice A1_3 l1_3.length c1_3)] 28 (0, 0))) ∧ Aside0 (w'.heap[gbz1]? = some (.cells #[.int .i64 xz3, .int .i64 xz2, .int .i64 xz1, (.slice none 0 0)] 28 (0, 0))) ∧ Aside0 (w'.heap[gbz2]? = some (.cells #[.int .i64 tz0, .int .i64 tz1, .int .i64 tz2, u43012003] 28 (0, 0))) ∧ Aside0 (Below w.heap.size w w'))
   case atStart => exact ⟨(0), (0), (0), (0), (tz5), (.slice Ao36 tz5.length co36), (by rfl), H', ⟨Nat.le_refl _⟩, ⟨by exact Kd.R_mono (R4 (Kd.R_types HOz2.out BKz3.out (by decide)) (.int .i64 tz0) (.int .i64 tz1) (.int .i64 tz2) (.slice Ao36 tz5.length co36)) (fun _ hk => trivial)⟩, ⟨by refine f4 ?_ NBz0.out; exact BKz0.out⟩, ⟨by refine f4 ?_ NBz1.out; exact BKz2.out⟩, ⟨by refine f4 ?_ NBz2.out; exact BKz1.out⟩, ⟨by refine p4 (.int .i64 0) (.int .i64 0) (.int .i64 0) (.slice none 0 0) ?_; exact BKz3.out⟩, ⟨by repeat (with_reducible first | exact HB.out | refine below_set ?_ GEz1.out)⟩⟩
   case round =>
    clear H'
    obtain ⟨x9_2, xz3, xz2, xz1, xz0, u43012003, rfl, HA, HK2, HOz0, BKz0, BKz2, BKz1, BKz3, HB⟩ := hrel
    cases gk with
    | zero => exact absurd HA.out (by simp [spec_PatchImage.l0])
    | succ k2 =>
     have H := HA.out
     clear HA
     simp only [spec_PatchImage.l0] at H
     by_cases c37 : x9_2 < (l2.length : Int)
     ·rw [if_pos c37] at H
      have c37b0 : decide (x9_2 < (l2.length : Int)) = true := decide_eq_true c37
      clear c37
      by_cases c38 : 0 ≤ x9_2
      ·rw [if_pos c38] at H
       have c38b0 : decide (0 ≤ x9_2) = true := decide_eq_true c38
       clear c38
       replace H := Option.bind_eq_some_iff.mp H
       obtain ⟨tz6, A390, H⟩ := H
       replace H : (if tz6 = true then ((spec_crop.f k2 a1_0 a1_1 a1_2 l1_3 ((rd_T60 l2 x9_2).f0) ((rd_T60 l2 x9_2).f1) ((rd_T60 l2 x9_2).f2) ((rd_T60 l2 x9_2).f3)).bind fun btz0 => ((spec_paste.f k2 tz0 tz1 tz2 xz0 ((rd_T60 l2 x9_2).f0) ((rd_T60 l2 x9_2).f1) btz0.1 btz0.2.1 btz0.2.2.1 btz0.2.2.2).bind fun tz3 => (spec_PatchImage.l0 k2 l2 (wrap64 (x9_2 + 1)) a0_0 a0_1 a0_2 l0_3 a1_0 a1_1 a1_2 l1_3 tz0 tz1 tz2 tz3))) else (some (0, 0, 0, ([] : List Int), false))) = some (r1, r2, r3, r4, r5) := H
       have A39 := mk A390
       clear A390
       by_cases c40 : tz6 = true
       ·subst c40
        have H1 : ((spec_crop.f k2 a1_0 a1_1 a1_2 l1_3 ((rd_T60 l2 x9_2).f0) ((rd_T60 l2 x9_2).f1) ((rd_T60 l2 x9_2).f2) ((rd_T60 l2 x9_2).f3)).bind fun btz0 => ((spec_paste.f k2 tz0 tz1 tz2 xz0 ((rd_T60 l2 x9_2).f0) ((rd_T60 l2 x9_2).f1) btz0.1 btz0.2.1 btz0.2.2.1 btz0.2.2.2).bind fun tz3 => (spec_PatchImage.l0 k2 l2 (wrap64 (x9_2 + 1)) a0_0 a0_1 a0_2 l0_3 a1_0 a1_1 a1_2 l1_3 tz0 tz1 tz2 tz3))) = some (r1, r2, r3, r4, r5) := by rw [if_pos rfl] at H; exact H
        clear H
        have H := H1
        clear H1
        replace H := Option.bind_eq_some_iff.mp H
        obtain ⟨⟨tz7, tz8, tz9, tz10⟩, A410, H⟩ := H
        replace H : ((spec_paste.f k2 tz0 tz1 tz2 xz0 ((rd_T60 l2 x9_2).f0) ((rd_T60 l2 x9_2).f1) tz7 tz8 tz9 tz10).bind fun tz3 => (spec_PatchImage.l0 k2 l2 (wrap64 (x9_2 + 1)) a0_0 a0_1 a0_2 l0_3 a1_0 a1_1 a1_2 l1_3 tz0 tz1 tz2 tz3)) = some (r1, r2, r3, r4, r5) := H
        have A41 := mk A410
        clear A410
        replace H := Option.bind_eq_some_iff.mp H
        obtain ⟨tz3, A420, H⟩ := H
        replace H : (spec_PatchImage.l0 k2 l2 (wrap64 (x9_2 + 1)) a0_0 a0_1 a0_2 l0_3 a1_0 a1_1 a1_2 l1_3 tz0 tz1 tz2 tz3) = some (r1, r2, r3, r4, r5) := H
        have A42 := mk A420
        clear A420
        have H' := mk H
        clear H
        try go_wp2
        replace HOz0 := mk (Kd.R_drew HOz0.out)
        replace BKz0 := mk (blk_drew BKz0.out)
        replace BKz2 := mk (blk_drew BKz2.out)
        replace BKz1 := mk (blk_drew BKz1.out)
        replace BKz3 := mk (blk_drew BKz3.out)
        replace HB := mk (below_drew1 HB.out)
        have p43012 : 0 ≤ (x9_2 : Int) := of_decide_eq_true (by (with_reducible assumption))
        have q43012 : x9_2 < (l2.length : Int) := of_decide_eq_true (by (with_reducible assumption))
        obtain ⟨ad43012, e43012, hx43012_0, hx43012_1, hx43012_2, hx43012_3⟩ := at_T60 HR2.out x9_2 p43012 q43012
        have hw43012_3 := hx43012_3
        have hw43012_2 := hx43012_2
        have hw43012_1 := hx43012_1
        have hw43012_0 := hx43012_0
        cases e43012
        replace hx43012_0 := bc HB.out hx43012_0
        replace hx43012_1 := bc HB.out hx43012_1
        replace hx43012_2 := bc HB.out hx43012_2
        replace hx43012_3 := bc HB.out hx43012_3
        replace p43012 := eq_true p43012
        replace q43012 := eq_true q43012
        refine start_ (n := 7) (S := fun w' => w'.cell? ⟨gbz0, 0, none⟩ = some (.int .i64 a0_0) ∧ w'.cell? ⟨gbz0, 1, none⟩ = some (.int .i64 a0_1) ∧ w'.cell? ⟨gbz0, 2, none⟩ = some (.int .i64 a0_2) ∧ w'.cell? ⟨gbz0, 3, none⟩ = some (.slice A0_3 l0_3.length c0_3) ∧ w'.cell? (ad43012.add ((x9_2).toNat * 4)) = some (.int .i64 ((rd_T60 l2 x9_2).f0)) ∧ w'.cell? ⟨(ad43012.add ((x9_2).toNat * 4)).block, (ad43012.add ((x9_2).toNat * 4)).off + 1, none⟩ = some (.int .i64 ((rd_T60 l2 x9_2).f1)) ∧ w'.cell? ⟨(ad43012.add ((x9_2).toNat * 4)).block, (ad43012.add ((x9_2).toNat * 4)).off + 2, none⟩ = some (.int .i64 ((rd_T60 l2 x9_2).f2)) ∧ w'.cell? ⟨(ad43012.add ((x9_2).toNat * 4)).block, (ad43012.add ((x9_2).toNat * 4)).off + 3, none⟩ = some (.int .i64 ((rd_T60 l2 x9_2).f3))) (ds := []) #[false, false, false, false, false, false, false] (by kernel_rfl) rfl rfl ⟨blk_cell BKz0.out 0, blk_cell BKz0.out 1, blk_cell BKz0.out 2, blk_cell BKz0.out 3, bc HB.out hw43012_0, bc HB.out hw43012_1, bc HB.out hw43012_2, bc HB.out hw43012_3⟩ (fun hHeld => ?_)
        generalize wr.drew = w43 at HOz0 BKz0 BKz2 BKz1 BKz3 HB hx43012_0 hx43012_1 hx43012_2 hx43012_3 hHeld ⊢
        refine pu 1 29 ?_ ?_ rfl rfl (by kernel_rfl) (Or.inl ⟨by rfl, ?_⟩) ?_ ?_
        rotate_left 2
        ·intro w'
         go_simp
         with_reducible rfl
        ·simp only [seval]
         rfl
        refine pu 2 30 ?_ ?_ rfl rfl (by kernel_rfl) (Or.inl ⟨by rfl, ?_⟩) ?_ ?_
        rotate_left 2
        ·intro w'
         go_simp
         with_reducible rfl
        ·simp only [seval]
         rfl
        refine pu 3 31 ?_ ?_ rfl rfl (by kernel_rfl) (Or.inl ⟨by rfl, ?_⟩) ?_ ?_
        rotate_left 2
        ·intro w'
         go_simp
         with_reducible rfl
        ·simp only [seval]
         rfl
        refine tk 0 28 ?_ ?_ rfl rfl (by kernel_rfl) (Or.inl ⟨by rfl, ?_⟩) hHeld ?_ ?_
        rotate_left 2
        ·rintro w' ⟨s0, s1, s2, s3, s4, s5, s6, s7⟩
         go_simp
         with_reducible rfl
        ·simp only [seval]
         rfl
        refine tk 4 32 ?_ ?_ rfl rfl (by kernel_rfl) (Or.inl ⟨by rfl, ?_⟩) hHeld ?_ ?_
        rotate_left 2
        ·rintro w' ⟨s0, s1, s2, s3, s4, s5, s6, s7⟩
         go_simp
         with_reducible rfl
        ·simp only [seval]
         rfl
        refine one_ (i := 5) (N := some 33) #[true, true, true, true, true, true, false] rfl rfl (by kernel_rfl) (by decide) (fun K hK => ?_)
        refine goes_ Try.func87 (by kernel_rfl) rfl #[.agg #[.int .i64 a0_0, .int .i64 a0_1, .int .i64 a0_2, .slice A0_3 l0_3.length c0_3], .agg #[.int .i64 ((rd_T60 l2 x9_2).f0), .int .i64 ((rd_T60 l2 x9_2).f1), .int .i64 ((rd_T60 l2 x9_2).f2), .int .i64 ((rd_T60 l2 x9_2).f3)]] (by rfl) rfl rfl (by (try simp only [bitvec_to_nat]); rfl) ?_
        with_reducible refine (spec_validBox.calls a0_0 a0_1 a0_2 _ _ l0_3 ((rd_T60 l2 x9_2).f0) ((rd_T60 l2 x9_2).f1) ((rd_T60 l2 x9_2).f2) ((rd_T60 l2 x9_2).f3) true _ ?side1 ?side2 A39.out).mono ?_
        (case side1 => repeat (exact (Kd.C_below HR0_3.out HB.out)))
        (case side2 => exact HC0_3.out)
        rintro e w44 ⟨rfl, hb⟩
        refine ⟨_, rfl, ?_⟩
        replace HOz0 := mk (Kd.R_below HOz0.out hb)
        replace BKz0 := mk (blk_below BKz0.out hb)
        replace BKz2 := mk (blk_below BKz2.out hb)
        replace BKz1 := mk (blk_below BKz1.out hb)
        replace BKz3 := mk (blk_below BKz3.out hb)
        replace HB := mk (below_step HB.out hb)
        (try clear hb)
        refine hK.out _ _ ⟨blk_cell BKz0.out 0, blk_cell BKz0.out 1, blk_cell BKz0.out 2, blk_cell BKz0.out 3, bc HB.out hw43012_0, bc HB.out hw43012_1, bc HB.out hw43012_2, bc HB.out hw43012_3⟩ (fun hHeld => ?_)
        clear hK K
        refine norm_ (a' := ?_) ?_ ?_
        rotate_left
        ·show Act.put _ (some 33) _ = _
         simp only [seval]
         rfl
        refine pu 6 34 ?_ ?_ rfl rfl (by kernel_rfl) (Or.inl ⟨by rfl, ?_⟩) ?_ ?_
        rotate_left 2
        ·intro w'
         go_simp
         with_reducible rfl
        ·simp only [seval]
         rfl
        refine done_ (by kernel_rfl) ?_
        try go_wp2
        replace HOz0 := mk (Kd.R_drew HOz0.out)
        replace BKz0 := mk (blk_drew BKz0.out)
        replace BKz2 := mk (blk_drew BKz2.out)
        replace BKz1 := mk (blk_drew BKz1.out)
        replace BKz3 := mk (blk_drew BKz3.out)
        replace HB := mk (below_drew1 HB.out)
        have p43014 : 0 ≤ (x9_2 : Int) := of_decide_eq_true (by (with_reducible assumption))
        have q43014 : x9_2 < (l2.length : Int) := of_decide_eq_true (by (with_reducible assumption))
        obtain ⟨ad43014, e43014, hx43014_0, hx43014_1, hx43014_2, hx43014_3⟩ := at_T60 HR2.out x9_2 p43014 q43014
        have hw43014_3 := hx43014_3
        have hw43014_2 := hx43014_2
        have hw43014_1 := hx43014_1
        have hw43014_0 := hx43014_0
        obtain rfl : ad43012 = ad43014 := (by injection e43014)
        replace hx43014_0 := bc HB.out hx43014_0
        replace hx43014_1 := bc HB.out hx43014_1
        replace hx43014_2 := bc HB.out hx43014_2
        replace hx43014_3 := bc HB.out hx43014_3
        replace p43014 := eq_true p43014
        replace q43014 := eq_true q43014
        have p43015 : 0 ≤ (x9_2 : Int) := of_decide_eq_true (by (with_reducible assumption))
        have q43015 : x9_2 < (l2.length : Int) := of_decide_eq_true (by (with_reducible assumption))
        obtain ⟨ad43015, e43015, hx43015_0, hx43015_1, hx43015_2, hx43015_3⟩ := at_T60 HR2.out x9_2 p43015 q43015
        have hw43015_3 := hx43015_3
        have hw43015_2 := hx43015_2
        have hw43015_1 := hx43015_1
        have hw43015_0 := hx43015_0
        obtain rfl : ad43012 = ad43015 := (by injection e43015)
        replace hx43015_0 := bc HB.out hx43015_0
        replace hx43015_1 := bc HB.out hx43015_1
        replace hx43015_2 := bc HB.out hx43015_2
        replace hx43015_3 := bc HB.out hx43015_3
        replace p43015 := eq_true p43015
        replace q43015 := eq_true q43015
        have p43016 : 0 ≤ (x9_2 : Int) := of_decide_eq_true (by (with_reducible assumption))
        have q43016 : x9_2 < (l2.length : Int) := of_decide_eq_true (by (with_reducible assumption))
        obtain ⟨ad43016, e43016, hx43016_0, hx43016_1, hx43016_2, hx43016_3⟩ := at_T60 HR2.out x9_2 p43016 q43016
        have hw43016_3 := hx43016_3
        have hw43016_2 := hx43016_2
        have hw43016_1 := hx43016_1
        have hw43016_0 := hx43016_0
        obtain rfl : ad43012 = ad43016 := (by injection e43016)
        replace hx43016_0 := bc HB.out hx43016_0
        replace hx43016_1 := bc HB.out hx43016_1
        replace hx43016_2 := bc HB.out hx43016_2
        replace hx43016_3 := bc HB.out hx43016_3
        replace p43016 := eq_true p43016
        replace q43016 := eq_true q43016
        have p43017 : 0 ≤ (x9_2 : Int) := of_decide_eq_true (by (with_reducible assumption))
        have q43017 : x9_2 < (l2.length : Int) := of_decide_eq_true (by (with_reducible assumption))
        obtain ⟨ad43017, e43017, hx43017_0, hx43017_1, hx43017_2, hx43017_3⟩ := at_T60 HR2.out x9_2 p43017 q43017
        have hw43017_3 := hx43017_3
        have hw43017_2 := hx43017_2
        have hw43017_1 := hx43017_1
        have hw43017_0 := hx43017_0
        obtain rfl : ad43012 = ad43017 := (by injection e43017)
        replace hx43017_0 := bc HB.out hx43017_0
        replace hx43017_1 := bc HB.out hx43017_1
        replace hx43017_2 := bc HB.out hx43017_2
        replace hx43017_3 := bc HB.out hx43017_3
        replace p43017 := eq_true p43017
        replace q43017 := eq_true q43017
        have p43018 : 0 ≤ (x9_2 : Int) := of_decide_eq_true (by (with_reducible assumption))
        have q43018 : x9_2 < (l2.length : Int) := of_decide_eq_true (by (with_reducible assumption))
        obtain ⟨ad43018, e43018, hx43018_0, hx43018_1, hx43018_2, hx43018_3⟩ := at_T60 HR2.out x9_2 p43018 q43018
        have hw43018_3 := hx43018_3
        have hw43018_2 := hx43018_2
        have hw43018_1 := hx43018_1
        have hw43018_0 := hx43018_0
        obtain rfl : ad43012 = ad43018 := (by injection e43018)
        replace hx43018_0 := bc HB.out hx43018_0
        replace hx43018_1 := bc HB.out hx43018_1
        replace hx43018_2 := bc HB.out hx43018_2
        replace hx43018_3 := bc HB.out hx43018_3
        replace p43018 := eq_true p43018
        replace q43018 := eq_true q43018
        have p43019 : 0 ≤ (x9_2 : Int) := of_decide_eq_true (by (with_reducible assumption))
        have q43019 : x9_2 < (l2.length : Int) := of_decide_eq_true (by (with_reducible assumption))
        obtain ⟨ad43019, e43019, hx43019_0, hx43019_1, hx43019_2, hx43019_3⟩ := at_T60 HR2.out x9_2 p43019 q43019
        have hw43019_3 := hx43019_3
        have hw43019_2 := hx43019_2
        have hw43019_1 := hx43019_1
        have hw43019_0 := hx43019_0
        obtain rfl : ad43012 = ad43019 := (by injection e43019)
        replace hx43019_0 := bc HB.out hx43019_0
        replace hx43019_1 := bc HB.out hx43019_1
        replace hx43019_2 := bc HB.out hx43019_2
        replace hx43019_3 := bc HB.out hx43019_3
        replace p43019 := eq_true p43019
        replace q43019 := eq_true q43019
        refine start_ (n := 34) (S := fun w' => w'.cell? ⟨gbz2, 0, none⟩ = some (.int .i64 tz0) ∧ w'.cell? ⟨gbz2, 1, none⟩ = some (.int .i64 tz1) ∧ w'.cell? ⟨gbz2, 2, none⟩ = some (.int .i64 tz2) ∧ w'.cell? ⟨gbz2, 3, none⟩ = some u43012003 ∧ w'.cell? ⟨gbz3, 0, none⟩ = some (.int .i64 a1_0) ∧ w'.cell? ⟨gbz3, 1, none⟩ = some (.int .i64 a1_1) ∧ w'.cell? ⟨gbz3, 2, none⟩ = some (.int .i64 a1_2) ∧ w'.cell? ⟨gbz3, 3, none⟩ = some (.slice A1_3 l1_3.length c1_3) ∧ w'.cell? (ad43012.add ((x9_2).toNat * 4)) = some (.int .i64 ((rd_T60 l2 x9_2).f0)) ∧ w'.cell? ⟨(ad43012.add ((x9_2).toNat * 4)).block, (ad43012.add ((x9_2).toNat * 4)).off + 1, none⟩ = some (.int .i64 ((rd_T60 l2 x9_2).f1)) ∧ w'.cell? ⟨(ad43012.add ((x9_2).toNat * 4)).block, (ad43012.add ((x9_2).toNat * 4)).off + 2, none⟩ = some (.int .i64 ((rd_T60 l2 x9_2).f2)) ∧ w'.cell? ⟨(ad43012.add ((x9_2).toNat * 4)).block, (ad43012.add ((x9_2).toNat * 4)).off + 3, none⟩ = some (.int .i64 ((rd_T60 l2 x9_2).f3)) ∧ w'.cell? (ad43012.add ((x9_2).toNat * 4)) = some (.int .i64 ((rd_T60 l2 x9_2).f0)) ∧ w'.cell? ⟨(ad43012.add ((x9_2).toNat * 4)).block, (ad43012.add ((x9_2).toNat * 4)).off + 1, none⟩ = some (.int .i64 ((rd_T60 l2 x9_2).f1)) ∧ w'.cell? ⟨(ad43012.add ((x9_2).toNat * 4)).block, (ad43012.add ((x9_2).toNat * 4)).off + 2, none⟩ = some (.int .i64 ((rd_T60 l2 x9_2).f2)) ∧ w'.cell? ⟨(ad43012.add ((x9_2).toNat * 4)).block, (ad43012.add ((x9_2).toNat * 4)).off + 3, none⟩ = some (.int .i64 ((rd_T60 l2 x9_2).f3)) ∧ w'.cell? (ad43012.add ((x9_2).toNat * 4)) = some (.int .i64 ((rd_T60 l2 x9_2).f0)) ∧ w'.cell? ⟨(ad43012.add ((x9_2).toNat * 4)).block, (ad43012.add ((x9_2).toNat * 4)).off + 1, none⟩ = some (.int .i64 ((rd_T60 l2 x9_2).f1)) ∧ w'.cell? ⟨(ad43012.add ((x9_2).toNat * 4)).block, (ad43012.add ((x9_2).toNat * 4)).off + 2, none⟩ = some (.int .i64 ((rd_T60 l2 x9_2).f2)) ∧ w'.cell? ⟨(ad43012.add ((x9_2).toNat * 4)).block, (ad43012.add ((x9_2).toNat * 4)).off + 3, none⟩ = some (.int .i64 ((rd_T60 l2 x9_2).f3)) ∧ w'.cell? (ad43012.add ((x9_2).toNat * 4)) = some (.int .i64 ((rd_T60 l2 x9_2).f0)) ∧ w'.cell? ⟨(ad43012.add ((x9_2).toNat * 4)).block, (ad43012.add ((x9_2).toNat * 4)).off + 1, none⟩ = some (.int .i64 ((rd_T60 l2 x9_2).f1)) ∧ w'.cell? ⟨(ad43012.add ((x9_2).toNat * 4)).block, (ad43012.add ((x9_2).toNat * 4)).off + 2, none⟩ = some (.int .i64 ((rd_T60 l2 x9_2).f2)) ∧ w'.cell? ⟨(ad43012.add ((x9_2).toNat * 4)).block, (ad43012.add ((x9_2).toNat * 4)).off + 3, none⟩ = some (.int .i64 ((rd_T60 l2 x9_2).f3)) ∧ w'.cell? (ad43012.add ((x9_2).toNat * 4)) = some (.int .i64 ((rd_T60 l2 x9_2).f0)) ∧ w'.cell? ⟨(ad43012.add ((x9_2).toNat * 4)).block, (ad43012.add ((x9_2).toNat * 4)).off + 1, none⟩ = some (.int .i64 ((rd_T60 l2 x9_2).f1)) ∧ w'.cell? ⟨(ad43012.add ((x9_2).toNat * 4)).block, (ad43012.add ((x9_2).toNat * 4)).off + 2, none⟩ = some (.int .i64 ((rd_T60 l2 x9_2).f2)) ∧ w'.cell? ⟨(ad43012.add ((x9_2).toNat * 4)).block, (ad43012.add ((x9_2).toNat * 4)).off + 3, none⟩ = some (.int .i64 ((rd_T60 l2 x9_2).f3)) ∧ w'.cell? (ad43012.add ((x9_2).toNat * 4)) = some (.int .i64 ((rd_T60 l2 x9_2).f0)) ∧ w'.cell? ⟨(ad43012.add ((x9_2).toNat * 4)).block, (ad43012.add ((x9_2).toNat * 4)).off + 1, none⟩ = some (.int .i64 ((rd_T60 l2 x9_2).f1)) ∧ w'.cell? ⟨(ad43012.add ((x9_2).toNat * 4)).block, (ad43012.add ((x9_2).toNat * 4)).off + 2, none⟩ = some (.int .i64 ((rd_T60 l2 x9_2).f2)) ∧ w'.cell? ⟨(ad43012.add ((x9_2).toNat * 4)).block, (ad43012.add ((x9_2).toNat * 4)).off + 3, none⟩ = some (.int .i64 ((rd_T60 l2 x9_2).f3))) (ds := []) #[false, false, false, false, false, false, false, false, false, false, false, false, false, false, false, false, false, false, false, false, false, false, false, false, false, false, false, false, false, false, false, false, false, false] (by kernel_rfl) rfl rfl ⟨blk_cell BKz3.out 0, blk_cell BKz3.out 1, blk_cell BKz3.out 2, blk_cell BKz3.out 3, blk_cell BKz2.out 0, blk_cell BKz2.out 1, blk_cell BKz2.out 2, blk_cell BKz2.out 3, bc HB.out hw43014_0, bc HB.out hw43014_1, bc HB.out hw43014_2, bc HB.out hw43014_3, bc HB.out hw43015_0, bc HB.out hw43015_1, bc HB.out hw43015_2, bc HB.out hw43015_3, bc HB.out hw43016_0, bc HB.out hw43016_1, bc HB.out hw43016_2, bc HB.out hw43016_3, bc HB.out hw43017_0, bc HB.out hw43017_1, bc HB.out hw43017_2, bc HB.out hw43017_3, bc HB.out hw43018_0, bc HB.out hw43018_1, bc HB.out hw43018_2, bc HB.out hw43018_3, bc HB.out hw43019_0, bc HB.out hw43019_1, bc HB.out hw43019_2, bc HB.out hw43019_3⟩ (fun hHeld => ?_); refine with_tabW spec_PatchImage.tab9 spec_PatchImage.bits9 (fun HT_ HW_ => ?_)
        generalize w44.drew = w45 at HOz0 BKz0 BKz2 BKz1 BKz3 HB hx43014_0 hx43014_1 hx43014_2 hx43014_3 hx43015_0 hx43015_1 hx43015_2 hx43015_3 hx43016_0 hx43016_1 hx43016_2 hx43016_3 hx43017_0 hx43017_1 hx43017_2 hx43017_3 hx43018_0 hx43018_1 hx43018_2 hx43018_3 hx43019_0 hx43019_1 hx43019_2 hx43019_3 hHeld ⊢
        refine pu 1 37 ?_ ?_ rfl rfl (any_of HT_.out (by kernel_rfl)) (Or.inl ⟨by rfl, ?_⟩) ?_ ?_
        rotate_left 2
        ·intro w'
         go_simp
         with_reducible rfl
        ·simp only [seval]
         rfl
        refine pu 2 38 ?_ ?_ rfl rfl (any_of HT_.out (by kernel_rfl)) (Or.inl ⟨by rfl, ?_⟩) ?_ ?_
        rotate_left 2
        ·intro w'
         go_simp
         with_reducible rfl
        ·simp only [seval]
         rfl
        refine pu 3 39 ?_ ?_ rfl rfl (any_of HT_.out (by kernel_rfl)) (Or.inl ⟨by rfl, ?_⟩) ?_ ?_
        rotate_left 2
        ·intro w'
         go_simp
         with_reducible rfl
        ·simp only [seval]
         rfl
        refine pu 4 40 ?_ ?_ rfl rfl (any_of HT_.out (by kernel_rfl)) (Or.inl ⟨by rfl, ?_⟩) ?_ ?_
        rotate_left 2
        ·intro w'
         go_simp
         with_reducible rfl
        ·simp only [seval]
         rfl
        refine pu 6 42 ?_ ?_ rfl rfl (any_of HT_.out (by kernel_rfl)) (Or.inl ⟨by rfl, ?_⟩) ?_ ?_
        rotate_left 2
        ·intro w'
         go_simp
         with_reducible rfl
        ·simp only [seval]
         rfl
        refine pu 7 43 ?_ ?_ rfl rfl (any_of HT_.out (by kernel_rfl)) (Or.inl ⟨by rfl, ?_⟩) ?_ ?_
        rotate_left 2
        ·intro w'
         go_simp
         with_reducible rfl
        ·simp only [seval]
         rfl
        refine pu 8 44 ?_ ?_ rfl rfl (any_of HT_.out (by kernel_rfl)) (Or.inl ⟨by rfl, ?_⟩) ?_ ?_
        rotate_left 2
        ·intro w'
         go_simp
         with_reducible rfl
        ·simp only [seval]
         rfl
        refine pu 9 45 ?_ ?_ rfl rfl (any_of HT_.out (by kernel_rfl)) (Or.inl ⟨by rfl, ?_⟩) ?_ ?_
        rotate_left 2
        ·intro w'
         go_simp
         with_reducible rfl
        ·simp only [seval]
         rfl
        refine pu 12 48 ?_ ?_ rfl rfl (any_of HT_.out (by kernel_rfl)) (Or.inl ⟨by rfl, ?_⟩) ?_ ?_
        rotate_left 2
        ·intro w'
         go_simp
         with_reducible rfl
        ·simp only [seval]
         rfl
        refine pu 13 49 ?_ ?_ rfl rfl (any_of HT_.out (by kernel_rfl)) (Or.inl ⟨by rfl, ?_⟩) ?_ ?_
        rotate_left 2
        ·intro w'
         go_simp
         with_reducible rfl
        ·simp only [seval]
         rfl
        refine pu 14 50 ?_ ?_ rfl rfl (any_of HT_.out (by kernel_rfl)) (Or.inl ⟨by rfl, ?_⟩) ?_ ?_
        rotate_left 2
        ·intro w'
         go_simp
         with_reducible rfl
        ·simp only [seval]
         rfl
        refine pu 15 51 ?_ ?_ rfl rfl (any_of HT_.out (by kernel_rfl)) (Or.inl ⟨by rfl, ?_⟩) ?_ ?_
        rotate_left 2
        ·intro w'
         go_simp
         with_reducible rfl
        ·simp only [seval]
         rfl
        refine pu 17 53 ?_ ?_ rfl rfl (any_of HT_.out (by kernel_rfl)) (Or.inl ⟨by rfl, ?_⟩) ?_ ?_
        rotate_left 2
        ·intro w'
         go_simp
         with_reducible rfl
        ·simp only [seval]
         rfl
        refine pu 18 54 ?_ ?_ rfl rfl (any_of HT_.out (by kernel_rfl)) (Or.inl ⟨by rfl, ?_⟩) ?_ ?_
        rotate_left 2
        ·intro w'
         go_simp
         with_reducible rfl
        ·simp only [seval]
         rfl
        refine pu 19 55 ?_ ?_ rfl rfl (any_of HT_.out (by kernel_rfl)) (Or.inl ⟨by rfl, ?_⟩) ?_ ?_
        rotate_left 2
        ·intro w'
         go_simp
         with_reducible rfl
        ·simp only [seval]
         rfl
        refine pu 20 56 ?_ ?_ rfl rfl (any_of HT_.out (by kernel_rfl)) (Or.inl ⟨by rfl, ?_⟩) ?_ ?_
        rotate_left 2
        ·intro w'
         go_simp
         with_reducible rfl
        ·simp only [seval]
         rfl
        refine pu 22 58 ?_ ?_ rfl rfl (any_of HT_.out (by kernel_rfl)) (Or.inl ⟨by rfl, ?_⟩) ?_ ?_
        rotate_left 2
        ·intro w'
         go_simp
         with_reducible rfl
        ·simp only [seval]
         rfl
        refine pu 23 59 ?_ ?_ rfl rfl (any_of HT_.out (by kernel_rfl)) (Or.inl ⟨by rfl, ?_⟩) ?_ ?_
        rotate_left 2
        ·intro w'
         go_simp
         with_reducible rfl
        ·simp only [seval]
         rfl
        refine pu 24 60 ?_ ?_ rfl rfl (any_of HT_.out (by kernel_rfl)) (Or.inl ⟨by rfl, ?_⟩) ?_ ?_
        rotate_left 2
        ·intro w'
         go_simp
         with_reducible rfl
        ·simp only [seval]
         rfl
        refine pu 25 61 ?_ ?_ rfl rfl (any_of HT_.out (by kernel_rfl)) (Or.inl ⟨by rfl, ?_⟩) ?_ ?_
        rotate_left 2
        ·intro w'
         go_simp
         with_reducible rfl
        ·simp only [seval]
         rfl
        refine pu 27 63 ?_ ?_ rfl rfl (any_of HT_.out (by kernel_rfl)) (Or.inl ⟨by rfl, ?_⟩) ?_ ?_
        rotate_left 2
        ·intro w'
         go_simp
         with_reducible rfl
        ·simp only [seval]
         rfl
        refine pu 28 64 ?_ ?_ rfl rfl (any_of HT_.out (by kernel_rfl)) (Or.inl ⟨by rfl, ?_⟩) ?_ ?_
        rotate_left 2
        ·intro w'
         go_simp
         with_reducible rfl
        ·simp only [seval]
         rfl
        refine pu 29 65 ?_ ?_ rfl rfl (any_of HT_.out (by kernel_rfl)) (Or.inl ⟨by rfl, ?_⟩) ?_ ?_
        rotate_left 2
        ·intro w'
         go_simp
         with_reducible rfl
        ·simp only [seval]
         rfl
        refine pu 30 66 ?_ ?_ rfl rfl (any_of HT_.out (by kernel_rfl)) (Or.inl ⟨by rfl, ?_⟩) ?_ ?_
        rotate_left 2
        ·intro w'
         go_simp
         with_reducible rfl
        ·simp only [seval]
         rfl
        refine tk 0 36 ?_ ?_ rfl rfl (take_ofW HT_.out HW_.out (by kernel_rfl)) (Or.inl ⟨by rfl, ?_⟩) hHeld ?_ ?_
        rotate_left 2
        ·rintro w' ⟨s0, s1, s2, s3, s4, s5, s6, s7, s8, s9, s10, s11, s12, s13, s14, s15, s16, s17, s18, s19, s20, s21, s22, s23, s24, s25, s26, s27, s28, s29, s30, s31⟩
         go_simp
         with_reducible rfl
        ·simp only [seval]
         rfl
        refine tk 5 41 ?_ ?_ rfl rfl (take_ofW HT_.out HW_.out (by kernel_rfl)) (Or.inl ⟨by rfl, ?_⟩) hHeld ?_ ?_
        rotate_left 2
        ·rintro w' ⟨s0, s1, s2, s3, s4, s5, s6, s7, s8, s9, s10, s11, s12, s13, s14, s15, s16, s17, s18, s19, s20, s21, s22, s23, s24, s25, s26, s27, s28, s29, s30, s31⟩
         go_simp
         with_reducible rfl
        ·simp only [seval]
         rfl
        refine tk 10 46 ?_ ?_ rfl rfl (take_ofW HT_.out HW_.out (by kernel_rfl)) (Or.inl ⟨by rfl, ?_⟩) hHeld ?_ ?_
        rotate_left 2
        ·rintro w' ⟨s0, s1, s2, s3, s4, s5, s6, s7, s8, s9, s10, s11, s12, s13, s14, s15, s16, s17, s18, s19, s20, s21, s22, s23, s24, s25, s26, s27, s28, s29, s30, s31⟩
         go_simp
         with_reducible rfl
        ·simp only [seval]
         rfl
        refine tk 11 47 ?_ ?_ rfl rfl (take_ofW HT_.out HW_.out (by kernel_rfl)) (Or.inl ⟨by rfl, ?_⟩) hHeld ?_ ?_
        rotate_left 2
        ·rintro w' ⟨s0, s1, s2, s3, s4, s5, s6, s7, s8, s9, s10, s11, s12, s13, s14, s15, s16, s17, s18, s19, s20, s21, s22, s23, s24, s25, s26, s27, s28, s29, s30, s31⟩
         go_simp
         with_reducible rfl
        ·simp only [seval]
         rfl
        refine tk 16 52 ?_ ?_ rfl rfl (take_ofW HT_.out HW_.out (by kernel_rfl)) (Or.inl ⟨by rfl, ?_⟩) hHeld ?_ ?_
        rotate_left 2
        ·rintro w' ⟨s0, s1, s2, s3, s4, s5, s6, s7, s8, s9, s10, s11, s12, s13, s14, s15, s16, s17, s18, s19, s20, s21, s22, s23, s24, s25, s26, s27, s28, s29, s30, s31⟩
         go_simp
         with_reducible rfl
        ·simp only [seval]
         rfl
        refine tk 21 57 ?_ ?_ rfl rfl (take_ofW HT_.out HW_.out (by kernel_rfl)) (Or.inl ⟨by rfl, ?_⟩) hHeld ?_ ?_
        rotate_left 2
        ·rintro w' ⟨s0, s1, s2, s3, s4, s5, s6, s7, s8, s9, s10, s11, s12, s13, s14, s15, s16, s17, s18, s19, s20, s21, s22, s23, s24, s25, s26, s27, s28, s29, s30, s31⟩
         go_simp
         with_reducible rfl
        ·simp only [seval]
         rfl
        refine tk 26 62 ?_ ?_ rfl rfl (take_ofW HT_.out HW_.out (by kernel_rfl)) (Or.inl ⟨by rfl, ?_⟩) hHeld ?_ ?_
        rotate_left 2
        ·rintro w' ⟨s0, s1, s2, s3, s4, s5, s6, s7, s8, s9, s10, s11, s12, s13, s14, s15, s16, s17, s18, s19, s20, s21, s22, s23, s24, s25, s26, s27, s28, s29, s30, s31⟩
         go_simp
         with_reducible rfl
        ·simp only [seval]
         rfl
        refine tk 31 67 ?_ ?_ rfl rfl (take_ofW HT_.out HW_.out (by kernel_rfl)) (Or.inl ⟨by rfl, ?_⟩) hHeld ?_ ?_
        rotate_left 2
        ·rintro w' ⟨s0, s1, s2, s3, s4, s5, s6, s7, s8, s9, s10, s11, s12, s13, s14, s15, s16, s17, s18, s19, s20, s21, s22, s23, s24, s25, s26, s27, s28, s29, s30, s31⟩
         go_simp
         with_reducible rfl
        ·simp only [seval]
         rfl
        refine one_ (i := 32) (N := some 68) #[true, true, true, true, true, true, true, true, true, true, true, true, true, true, true, true, true, true, true, true, true, true, true, true, true, true, true, true, true, true, true, true, true, false] rfl rfl (one_of HT_.out (by kernel_rfl)) (by decide) (fun K hK => ?_)
        refine goes_ Try.func89 (by kernel_rfl) rfl #[.agg #[.int .i64 a1_0, .int .i64 a1_1, .int .i64 a1_2, .slice A1_3 l1_3.length c1_3], .int .i64 ((rd_T60 l2 x9_2).f0), .int .i64 ((rd_T60 l2 x9_2).f1), .int .i64 ((rd_T60 l2 x9_2).f2), .int .i64 ((rd_T60 l2 x9_2).f3)] (by rfl) rfl rfl (by (try simp only [bitvec_to_nat]); rfl) ?_
        with_reducible refine (spec_crop.calls k2 a1_0 a1_1 a1_2 _ _ l1_3 ((rd_T60 l2 x9_2).f0) ((rd_T60 l2 x9_2).f1) ((rd_T60 l2 x9_2).f2) ((rd_T60 l2 x9_2).f3) tz7 tz8 tz9 tz10 _ ?side1 ?side2 A41.out).mono ?_
        (case side1 => repeat (exact (Kd.C_below HR1_3.out HB.out)))
        (case side2 => exact HC1_3.out)
        rintro e w46 ⟨vz1, rfl, ho0, hb⟩
        refine ⟨_, rfl, ?_⟩
        have HOz1 := mk (Kd.R_lower (Kd.R_new' ho0 (Kd.R_lt HOz0.out)) (below_size HB.out))
        replace HOz0 := mk (Kd.R_elder' HOz0.out (Kd.R_base ho0) hb)
        replace BKz0 := mk (blk_below BKz0.out hb)
        replace BKz2 := mk (blk_below BKz2.out hb)
        replace BKz1 := mk (blk_below BKz1.out hb)
        replace BKz3 := mk (blk_below BKz3.out hb)
        replace HB := mk (below_step HB.out hb)
        (try clear hb)
        (try clear ho0)
        obtain ⟨Ao47, co47, eo47⟩ := Kd.R_slice HOz0.out
        (subst eo47)
        obtain ⟨Ao48, co48, eo48⟩ := Kd.R_slice HOz1.out
        (subst eo48)
        refine hK.out _ _ ⟨blk_cell BKz3.out 0, blk_cell BKz3.out 1, blk_cell BKz3.out 2, blk_cell BKz3.out 3, blk_cell BKz2.out 0, blk_cell BKz2.out 1, blk_cell BKz2.out 2, blk_cell BKz2.out 3, bc HB.out hw43014_0, bc HB.out hw43014_1, bc HB.out hw43014_2, bc HB.out hw43014_3, bc HB.out hw43015_0, bc HB.out hw43015_1, bc HB.out hw43015_2, bc HB.out hw43015_3, bc HB.out hw43016_0, bc HB.out hw43016_1, bc HB.out hw43016_2, bc HB.out hw43016_3, bc HB.out hw43017_0, bc HB.out hw43017_1, bc HB.out hw43017_2, bc HB.out hw43017_3, bc HB.out hw43018_0, bc HB.out hw43018_1, bc HB.out hw43018_2, bc HB.out hw43018_3, bc HB.out hw43019_0, bc HB.out hw43019_1, bc HB.out hw43019_2, bc HB.out hw43019_3⟩ (fun hHeld => ?_)
        clear hK K
        refine norm_ (a' := ?_) ?_ ?_
        rotate_left
        ·show Act.put _ (some 68) _ = _
         simp only [seval]
         rfl
        refine one_ (i := 33) (N := some 69) #[true, true, true, true, true, true, true, true, true, true, true, true, true, true, true, true, true, true, true, true, true, true, true, true, true, true, true, true, true, true, true, true, true, true] rfl rfl (one_of HT_.out (by kernel_rfl)) (by decide) (fun K hK => ?_)
        refine goes_ Try.func88 (by kernel_rfl) rfl #[.agg #[.int .i64 tz0, .int .i64 tz1, .int .i64 tz2, .slice Ao47 xz0.length co47], .int .i64 ((rd_T60 l2 x9_2).f0), .int .i64 ((rd_T60 l2 x9_2).f1), .agg #[.int .i64 tz7, .int .i64 tz8, .int .i64 tz9, .slice Ao48 tz10.length co48]] (by rfl) rfl rfl (by (try simp only [bitvec_to_nat]); rfl) ?_
        with_reducible refine (spec_paste.calls k2 tz0 tz1 tz2 (fun k_ => some k_ = (.slice Ao47 xz0.length co47 : Value).ownBlock) (.slice Ao47 xz0.length co47) xz0 ((rd_T60 l2 x9_2).f0) ((rd_T60 l2 x9_2).f1) tz7 tz8 tz9 _ _ tz10 tz3 w _ ?side1 ?side2 ?side3 ?side4 A42.out).mono ?_
        (case side1 => repeat (with_reducible exact HB.out))
        (case side2 => exact Kd.R_tight rfl HOz0.out)
        (case side3 => exact Kd.C_kept_own HOz1.out (fun k_ hk_ hs_ => hk_.2 hs_))
        (case side4 => exact (Kd.R_reads' HOz1.out).2.1)
        rintro e w49 ⟨rfl, hy0, hb, hkp⟩
        refine ⟨_, rfl, ?_⟩
        replace BKz0 := mk (blk_kept BKz0.out hkp (fun hs_ => (fun e_ => (Kd.R_ne HOz0.out BKz0.out (by decide)) e_) hs_))
        replace BKz2 := mk (blk_kept BKz2.out hkp (fun hs_ => (fun e_ => (Kd.R_ne HOz0.out BKz2.out (by decide)) e_) hs_))
        replace BKz1 := mk (blk_kept BKz1.out hkp (fun hs_ => (fun e_ => (Kd.R_ne HOz0.out BKz1.out (by decide)) e_) hs_))
        replace BKz3 := mk (blk_kept BKz3.out hkp (fun hs_ => (fun e_ => (Kd.R_ne HOz0.out BKz3.out (by decide)) e_) hs_))
        replace HOz0 := mk (Kd.R_reok rfl hy0 (fun k_ e_ => HOz0.out.1 k_ e_))
        replace HOz1 := mk (Kd.R_mono (ok' := fun k_ => some k_ ≠ (.slice Ao47 xz0.length co47 : Value).ownBlock) (Kd.R_keptB HOz1.out hkp (fun k_ hk_ hs_ => hk_.2 hs_)) (fun k_ hk_ => hk_.1.2))
        replace HB := mk (hb)
        (try clear hb)
        (try clear hkp)
        (try clear hy0)
        refine hK.out _ _ ⟨blk_cell BKz3.out 0, blk_cell BKz3.out 1, blk_cell BKz3.out 2, blk_cell BKz3.out 3, blk_cell BKz2.out 0, blk_cell BKz2.out 1, blk_cell BKz2.out 2, blk_cell BKz2.out 3, bc HB.out hw43014_0, bc HB.out hw43014_1, bc HB.out hw43014_2, bc HB.out hw43014_3, bc HB.out hw43015_0, bc HB.out hw43015_1, bc HB.out hw43015_2, bc HB.out hw43015_3, bc HB.out hw43016_0, bc HB.out hw43016_1, bc HB.out hw43016_2, bc HB.out hw43016_3, bc HB.out hw43017_0, bc HB.out hw43017_1, bc HB.out hw43017_2, bc HB.out hw43017_3, bc HB.out hw43018_0, bc HB.out hw43018_1, bc HB.out hw43018_2, bc HB.out hw43018_3, bc HB.out hw43019_0, bc HB.out hw43019_1, bc HB.out hw43019_2, bc HB.out hw43019_3⟩ (fun hHeld => ?_)
        clear hK K
        refine norm_ (a' := ?_) ?_ ?_
        rotate_left
        ·show Act.put _ (some 69) _ = _
         simp only [seval]
         rfl
        refine done_ (done_of HT_.out (by kernel_rfl)) ?_
        try go_wp2
        go_roundg k2
        case measure => have := HJ3.out; have := HK2.out; omega
        case rel => exact ⟨(wrap64 (x9_2 + 1)), (xz3), (xz2), (xz1), (tz3), (.slice Ao47 xz0.length co47), (by rfl), H', ⟨by have := HJ3.out; have := HK2.out; omega⟩, ⟨by exact Kd.R_mono HOz0.out (fun _ hk => trivial)⟩, BKz0, BKz2, BKz1, BKz3, HB⟩
       replace c40 := Bool.eq_false_iff.mpr c40
       subst c40
       have H1 : (some (0, 0, 0, ([] : List Int), false)) = some (r1, r2, r3, r4, r5) := by rw [if_neg (show ¬ (false = true) by decide)] at H; exact H
       clear H
       have H := H1
       clear H1
       simp only [Option.some.injEq, Prod.mk.injEq] at H
       obtain ⟨rfl, rfl, rfl, rfl, rfl⟩ := H
       try go_wp2
       replace HOz0 := mk (Kd.R_drew HOz0.out)
       replace BKz0 := mk (blk_drew BKz0.out)
       replace BKz2 := mk (blk_drew BKz2.out)
       replace BKz1 := mk (blk_drew BKz1.out)
       replace BKz3 := mk (blk_drew BKz3.out)
       replace HB := mk (below_drew1 HB.out)
       have p43012 : 0 ≤ (x9_2 : Int) := of_decide_eq_true (by (with_reducible assumption))
       have q43012 : x9_2 < (l2.length : Int) := of_decide_eq_true (by (with_reducible assumption))
       obtain ⟨ad43012, e43012, hx43012_0, hx43012_1, hx43012_2, hx43012_3⟩ := at_T60 HR2.out x9_2 p43012 q43012
       have hw43012_3 := hx43012_3
       have hw43012_2 := hx43012_2
       have hw43012_1 := hx43012_1
       have hw43012_0 := hx43012_0
       cases e43012
       replace hx43012_0 := bc HB.out hx43012_0
       replace hx43012_1 := bc HB.out hx43012_1
       replace hx43012_2 := bc HB.out hx43012_2
       replace hx43012_3 := bc HB.out hx43012_3
       replace p43012 := eq_true p43012
       replace q43012 := eq_true q43012
       refine start_ (n := 7) (S := fun w' => w'.cell? ⟨gbz0, 0, none⟩ = some (.int .i64 a0_0) ∧ w'.cell? ⟨gbz0, 1, none⟩ = some (.int .i64 a0_1) ∧ w'.cell? ⟨gbz0, 2, none⟩ = some (.int .i64 a0_2) ∧ w'.cell? ⟨gbz0, 3, none⟩ = some (.slice A0_3 l0_3.length c0_3) ∧ w'.cell? (ad43012.add ((x9_2).toNat * 4)) = some (.int .i64 ((rd_T60 l2 x9_2).f0)) ∧ w'.cell? ⟨(ad43012.add ((x9_2).toNat * 4)).block, (ad43012.add ((x9_2).toNat * 4)).off + 1, none⟩ = some (.int .i64 ((rd_T60 l2 x9_2).f1)) ∧ w'.cell? ⟨(ad43012.add ((x9_2).toNat * 4)).block, (ad43012.add ((x9_2).toNat * 4)).off + 2, none⟩ = some (.int .i64 ((rd_T60 l2 x9_2).f2)) ∧ w'.cell? ⟨(ad43012.add ((x9_2).toNat * 4)).block, (ad43012.add ((x9_2).toNat * 4)).off + 3, none⟩ = some (.int .i64 ((rd_T60 l2 x9_2).f3))) (ds := []) #[false, false, false, false, false, false, false] (by kernel_rfl) rfl rfl ⟨blk_cell BKz0.out 0, blk_cell BKz0.out 1, blk_cell BKz0.out 2, blk_cell BKz0.out 3, bc HB.out hw43012_0, bc HB.out hw43012_1, bc HB.out hw43012_2, bc HB.out hw43012_3⟩ (fun hHeld => ?_)
       generalize wr.drew = w50 at HOz0 BKz0 BKz2 BKz1 BKz3 HB hx43012_0 hx43012_1 hx43012_2 hx43012_3 hHeld ⊢
       refine pu 1 29 ?_ ?_ rfl rfl (by kernel_rfl) (Or.inl ⟨by rfl, ?_⟩) ?_ ?_
       rotate_left 2
       ·intro w'
        go_simp
        with_reducible rfl
       ·simp only [seval]
        rfl
       refine pu 2 30 ?_ ?_ rfl rfl (by kernel_rfl) (Or.inl ⟨by rfl, ?_⟩) ?_ ?_
       rotate_left 2
       ·intro w'
        go_simp
        with_reducible rfl
       ·simp only [seval]
        rfl
       refine pu 3 31 ?_ ?_ rfl rfl (by kernel_rfl) (Or.inl ⟨by rfl, ?_⟩) ?_ ?_
       rotate_left 2
       ·intro w'
        go_simp
        with_reducible rfl
       ·simp only [seval]
        rfl
       refine tk 0 28 ?_ ?_ rfl rfl (by kernel_rfl) (Or.inl ⟨by rfl, ?_⟩) hHeld ?_ ?_
       rotate_left 2
       ·rintro w' ⟨s0, s1, s2, s3, s4, s5, s6, s7⟩
        go_simp
        with_reducible rfl
       ·simp only [seval]
        rfl
       refine tk 4 32 ?_ ?_ rfl rfl (by kernel_rfl) (Or.inl ⟨by rfl, ?_⟩) hHeld ?_ ?_
       rotate_left 2
       ·rintro w' ⟨s0, s1, s2, s3, s4, s5, s6, s7⟩
        go_simp
        with_reducible rfl
       ·simp only [seval]
        rfl
       refine one_ (i := 5) (N := some 33) #[true, true, true, true, true, true, false] rfl rfl (by kernel_rfl) (by decide) (fun K hK => ?_)
       refine goes_ Try.func87 (by kernel_rfl) rfl #[.agg #[.int .i64 a0_0, .int .i64 a0_1, .int .i64 a0_2, .slice A0_3 l0_3.length c0_3], .agg #[.int .i64 ((rd_T60 l2 x9_2).f0), .int .i64 ((rd_T60 l2 x9_2).f1), .int .i64 ((rd_T60 l2 x9_2).f2), .int .i64 ((rd_T60 l2 x9_2).f3)]] (by rfl) rfl rfl (by (try simp only [bitvec_to_nat]); rfl) ?_
       with_reducible refine (spec_validBox.calls a0_0 a0_1 a0_2 _ _ l0_3 ((rd_T60 l2 x9_2).f0) ((rd_T60 l2 x9_2).f1) ((rd_T60 l2 x9_2).f2) ((rd_T60 l2 x9_2).f3) false _ ?side1 ?side2 A39.out).mono ?_
       (case side1 => repeat (exact (Kd.C_below HR0_3.out HB.out)))
       (case side2 => exact HC0_3.out)
       rintro e w51 ⟨rfl, hb⟩
       refine ⟨_, rfl, ?_⟩
       replace HOz0 := mk (Kd.R_below HOz0.out hb)
       replace BKz0 := mk (blk_below BKz0.out hb)
       replace BKz2 := mk (blk_below BKz2.out hb)
       replace BKz1 := mk (blk_below BKz1.out hb)
       replace BKz3 := mk (blk_below BKz3.out hb)
       replace HB := mk (below_step HB.out hb)
       (try clear hb)
       refine hK.out _ _ ⟨blk_cell BKz0.out 0, blk_cell BKz0.out 1, blk_cell BKz0.out 2, blk_cell BKz0.out 3, bc HB.out hw43012_0, bc HB.out hw43012_1, bc HB.out hw43012_2, bc HB.out hw43012_3⟩ (fun hHeld => ?_)
       clear hK K
       refine norm_ (a' := ?_) ?_ ?_
       rotate_left
       ·show Act.put _ (some 33) _ = _
        simp only [seval]
        rfl
       refine pu 6 34 ?_ ?_ rfl rfl (by kernel_rfl) (Or.inl ⟨by rfl, ?_⟩) ?_ ?_
       rotate_left 2
       ·intro w'
        go_simp
        with_reducible rfl
       ·simp only [seval]
        rfl
       refine done_ (by kernel_rfl) ?_
       obtain ⟨hcz55_0, hcz55_1, hcz55_2, hcz55_3, hfz55_0, hfz55_1, hfz55_2, hfz55_3⟩ := c4 BKz1.out
       try go_wp2
       refine bodyPost_ret (results_ct rfl _ _ gbz1 28 #[.int .i64 0, .int .i64 0, .int .i64 0, .slice none 0 0] (0, 0) _ rfl (by refine p4 (.int .i64 xz3) (.int .i64 xz2) (.int .i64 xz1) (.slice none 0 0) ?_; exact BKz1.out) Try.underlying28 rfl (by kernel_rfl)) rfl ?_
       exact ⟨_, by rfl, by exact Kd.R_nil _ _ _ _ _, by repeat (with_reducible first | exact HB.out | refine below_set ?_ GEz0.out)⟩
      rw [if_neg c38] at H
      exact absurd H (by simp)
     rw [if_neg c37] at H
     have c37b0 : decide (x9_2 < (l2.length : Int)) = false := decide_eq_false c37
     clear c37
     simp only [Option.some.injEq, Prod.mk.injEq] at H
     obtain ⟨rfl, rfl, rfl, rfl, rfl⟩ := H
     obtain ⟨hcz59_0, hcz59_1, hcz59_2, -⟩ := c4 BKz3.out
     have hcz59_3 : wr.cell? ⟨gbz2, 3, none⟩ = some u43012003 := (blk_cell BKz3.out 3).trans rfl
     obtain ⟨hcz62_0, hcz62_1, hcz62_2, hcz62_3, hfz62_0, hfz62_1, hfz62_2, hfz62_3⟩ := c4 BKz1.out
     obtain ⟨Ao63, co63, eo63⟩ := Kd.R_slice HOz0.out
     subst eo63
     go_wp2
     refine bodyPost_ret (results_ct rfl _ _ gbz1 28 #[.int .i64 tz0, .int .i64 tz1, .int .i64 tz2, .slice Ao63 xz0.length co63] (0, 0) _ rfl (by refine p4 (.int .i64 xz3) (.int .i64 xz2) (.int .i64 xz1) (.slice none 0 0) ?_; exact BKz1.out) Try.underlying28 rfl (by kernel_rfl)) rfl ?_
     exact ⟨_, by rfl, by exact Kd.R_mono (R4 (Kd.R_types HOz0.out BKz1.out (by decide)) (.int .i64 tz0) (.int .i64 tz1) (.int .i64 tz2) (.slice Ao63 xz0.length co63)) (fun _ hk => trivial), by repeat (with_reducible first | exact HB.out | refine below_set ?_ GEz0.out)⟩


def laws_equalInts.l0 : Nat → List Int → List Int → Int → Option (Bool)
 | 0, _, _, _ => none
 | k + 1, x0, x1, x5 => if x5 < (x0.length : Int) then (if 0 ≤ x5 then (if x5 < (x1.length : Int) then (if (rd x0 x5) = (rd x1 x5) then (laws_equalInts.l0 k x0 x1 (wrap64 (x5 + 1))) else (some false)) else (none)) else (none)) else (some true)
def laws_equalInts.f (k : Nat) (l0 : List Int) (l1 : List Int) : Option (Bool) := if (l0.length : Int) = (l1.length : Int) then (laws_equalInts.l0 k l0 l1 0) else (some false)
theorem laws_equalInts.calls (k : Nat) (A0 : Option Addr) (c0 : Nat) (l0 : List Int) (A1 : Option Addr) (c1 : Nat) (l1 : List Int) (r : Bool) (w : World) (hr0 : Kd.C (Kd.int .i64) w A0 l0.length l0) (hc0 : l0.length ≤ c0) (hr1 : Kd.C (Kd.int .i64) w A1 l1.length l1) (hc1 : l1.length ≤ c1) (h : laws_equalInts.f k l0 l1 = some r) :
  Calls Try.prog 23 #[.slice A0 l0.length c0, .slice A1 l1.length c1] w fun e w' => e = .returned (.bool r) ∧ Drawn0 w w' := by
 have HR0 := Aside0.mk hr0
 have HC0 := Aside0.mk hc0
 clear hr0 hc0
 have HR1 := Aside0.mk hr1
 have HC1 := Aside0.mk hc1
 clear hr1 hc1
 have H : (if (l0.length : Int) = (l1.length : Int) then (laws_equalInts.l0 k l0 l1 0) else (some false)) = some r := h
 clear h
 by_cases c3 : (l0.length : Int) = (l1.length : Int)
 ·rw [if_pos c3] at H
  have c3b0 : ((l0.length : Int) == (l1.length : Int)) = true := beq_iff_eq.mpr c3
  have c3b1 : ((l0.length : Int) != (l1.length : Int)) = false := bne_eq_false_iff_eq.mpr c3
  have c3b2 : (l0.length == l1.length) = true := by first | simpa using c3 | (simp at c3 ⊢; omega)
  clear c3
  have H' := Aside0.mk H
  clear H
  go_enter Try.func23, Try.ntmps23
  go_wp2
  repeat (go_quiet (fail); try go_wp2)
  go_loopg [5] k (fun kq v5 w' => ∃ (x5_1 : Int), v5 = .int .i64 x5_1 ∧ Aside0 (laws_equalInts.l0 kq l0 l1 x5_1 = some r) ∧ Aside0 (kq ≤ k) ∧ Drawn0 w w')
  case atStart => exact ⟨(0), (by first | rfl | (simp; done) | (simp [*]; done)), H', ⟨Nat.le_refl _⟩, by repeat (first | exact Drawn0.refl _ | apply Drawn0.step)⟩
  case round =>
   clear H'
   try clear c1
   try clear c2
   try clear p2
   try clear c3
   try clear c3b0
   try clear c3b1
   try clear c3b2
   obtain ⟨x5_1, rfl, HA, HK1, ⟨m1, rfl⟩⟩ := hrel
   cases gk with
   | zero => exact absurd HA.out (by simp [laws_equalInts.l0])
   | succ k1 =>
    have H := HA.out
    clear HA
    simp only [laws_equalInts.l0] at H
    by_cases c4 : x5_1 < (l0.length : Int)
    ·rw [if_pos c4] at H
     have c4b0 : decide (x5_1 < (l0.length : Int)) = true := decide_eq_true c4
     clear c4
     by_cases c5 : 0 ≤ x5_1
     ·rw [if_pos c5] at H
      have c5b0 : decide (0 ≤ x5_1) = true := decide_eq_true c5
      clear c5
      by_cases c6 : x5_1 < (l1.length : Int)
      ·rw [if_pos c6] at H
       have c6b0 : decide (x5_1 < (l1.length : Int)) = true := decide_eq_true c6
       clear c6
       by_cases c7 : (rd l0 x5_1) = (rd l1 x5_1)
       ·rw [if_pos c7] at H
        have c7b0 : ((rd l0 x5_1) == (rd l1 x5_1)) = true := beq_iff_eq.mpr c7
        have c7b1 : ((rd l0 x5_1) != (rd l1 x5_1)) = false := bne_eq_false_iff_eq.mpr c7
        clear c7
        have H' := Aside0.mk H
        clear H
        have p24001 : 0 ≤ (x5_1 : Int) := of_decide_eq_true (by first | (with_reducible assumption) | assumption)
        have q24001 : x5_1 < (l0.length : Int) := of_decide_eq_true (by first | (with_reducible assumption) | assumption)
        obtain ⟨ad24001, e24001, hx24001_0⟩ := Kd.at_int HR0.out x5_1 p24001 q24001
        cases e24001
        replace p24001 := eq_true p24001
        replace q24001 := eq_true q24001
        have p24002 : 0 ≤ (x5_1 : Int) := of_decide_eq_true (by first | (with_reducible assumption) | assumption)
        have q24002 : x5_1 < (l1.length : Int) := of_decide_eq_true (by first | (with_reducible assumption) | assumption)
        obtain ⟨ad24002, e24002, hx24002_0⟩ := Kd.at_int HR1.out x5_1 p24002 q24002
        cases e24002
        replace p24002 := eq_true p24002
        replace q24002 := eq_true q24002
        go_wp2
        repeat (go_quiet (fail); try go_wp2)
        go_roundg k1
        case measure => have := HK1.out; omega
        case rel => exact ⟨(wrap64 (x5_1 + 1)), (by first | rfl | (simp; done) | (simp [*]; done)), H', ⟨by have := HK1.out; omega⟩, by repeat (first | exact Drawn0.refl _ | apply Drawn0.step)⟩
       ·rw [if_neg c7] at H
        have c7b0 : ((rd l0 x5_1) == (rd l1 x5_1)) = false := beq_eq_false_iff_ne.mpr c7
        have c7b1 : ((rd l0 x5_1) != (rd l1 x5_1)) = true := bne_iff_ne.mpr c7
        obtain rfl := Option.some.inj H
        have p24001 : 0 ≤ (x5_1 : Int) := of_decide_eq_true (by first | (with_reducible assumption) | assumption)
        have q24001 : x5_1 < (l0.length : Int) := of_decide_eq_true (by first | (with_reducible assumption) | assumption)
        obtain ⟨ad24001, e24001, hx24001_0⟩ := Kd.at_int HR0.out x5_1 p24001 q24001
        cases e24001
        replace p24001 := eq_true p24001
        replace q24001 := eq_true q24001
        have p24002 : 0 ≤ (x5_1 : Int) := of_decide_eq_true (by first | (with_reducible assumption) | assumption)
        have q24002 : x5_1 < (l1.length : Int) := of_decide_eq_true (by first | (with_reducible assumption) | assumption)
        obtain ⟨ad24002, e24002, hx24002_0⟩ := Kd.at_int HR1.out x5_1 p24002 q24002
        cases e24002
        replace p24002 := eq_true p24002
        replace q24002 := eq_true q24002
        go_wp2
        repeat (go_quiet (fail); try go_wp2)
        go_ret
        exact ⟨by first | rfl | (simp; done) | (simp [*]; done), by repeat (first | exact Drawn0.refl _ | apply Drawn0.step)⟩
      ·rw [if_neg c6] at H
       exact absurd H (by simp)
     ·rw [if_neg c5] at H
      exact absurd H (by simp)
    ·rw [if_neg c4] at H
     have c4b0 : decide (x5_1 < (l0.length : Int)) = false := decide_eq_false c4
     clear c4
     obtain rfl := Option.some.inj H
     go_wp2
     repeat (go_quiet (fail); try go_wp2)
     go_ret
     exact ⟨by first | rfl | (simp; done) | (simp [*]; done), by repeat (first | exact Drawn0.refl _ | apply Drawn0.step)⟩
 ·rw [if_neg c3] at H
  have c3b0 : ((l0.length : Int) == (l1.length : Int)) = false := beq_eq_false_iff_ne.mpr c3
  have c3b1 : ((l0.length : Int) != (l1.length : Int)) = true := bne_iff_ne.mpr c3
  have c3b2 : (l0.length == l1.length) = false := by first | simpa using c3 | (simp at c3 ⊢; omega)
  obtain rfl := Option.some.inj H
  go_enter Try.func23, Try.ntmps23
  go_wp2
  repeat (go_quiet (fail); try go_wp2)
  go_ret
  exact ⟨by first | rfl | (simp; done) | (simp [*]; done), by repeat (first | exact Drawn0.refl _ | apply Drawn0.step)⟩


def laws_equalImage.f (k : Nat) (a0_0 : Int) (a0_1 : Int) (a0_2 : Int) (l0_3 : List Int) (a1_0 : Int) (a1_1 : Int) (a1_2 : Int) (l1_3 : List Int) : Option Bool := if a0_0 = a1_0 then (if a0_1 = a1_1 then (if a0_2 = a1_2 then ((laws_equalInts.f k l0_3 l1_3).bind fun tz0 => (some tz0)) else (some false)) else (some false)) else (some false)
theorem laws_equalImage.calls (k : Nat) (a0_0 : Int) (a0_1 : Int) (a0_2 : Int) (A0_3 : Option Addr) (c0_3 : Nat) (l0_3 : List Int) (a1_0 : Int) (a1_1 : Int) (a1_2 : Int) (A1_3 : Option Addr) (c1_3 : Nat) (l1_3 : List Int) (r : Bool) (w : World) (hr0_3 : Kd.C (Kd.int .i64) w A0_3 l0_3.length l0_3) (hc0_3 : l0_3.length ≤ c0_3) (hr1_3 : Kd.C (Kd.int .i64) w A1_3 l1_3.length l1_3) (hc1_3 : l1_3.length ≤ c1_3) (h : laws_equalImage.f k a0_0 a0_1 a0_2 l0_3 a1_0 a1_1 a1_2 l1_3 = some r) :
  Calls Try.prog 43 #[.agg #[.int .i64 a0_0, .int .i64 a0_1, .int .i64 a0_2, .slice A0_3 l0_3.length c0_3], .agg #[.int .i64 a1_0, .int .i64 a1_1, .int .i64 a1_2, .slice A1_3 l1_3.length c1_3]] w fun e w' => e = .returned (.bool r) ∧ Below w.heap.size w w' := by
 have HR0_3 := mk hr0_3
 have HC0_3 := mk hc0_3
 clear hr0_3 hc0_3
 have HR1_3 := mk hr1_3
 have HC1_3 := mk hc1_3
 clear hr1_3 hc1_3
 have HB := mk (Below.refl w.heap.size w)
 have H : (if a0_0 = a1_0 then (if a0_1 = a1_1 then (if a0_2 = a1_2 then ((laws_equalInts.f k l0_3 l1_3).bind fun tz0 => (some tz0)) else (some false)) else (some false)) else (some false)) = some r := h
 clear h
 by_cases c3 : a0_0 = a1_0
 ·rw [if_pos c3] at H
  have c3b0 : (a0_0 == a1_0) = true := beq_iff_eq.mpr c3
  have c3b1 : (a0_0 != a1_0) = false := bne_eq_false_iff_eq.mpr c3
  clear c3
  by_cases c4 : a0_1 = a1_1
  ·rw [if_pos c4] at H
   have c4b0 : (a0_1 == a1_1) = true := beq_iff_eq.mpr c4
   have c4b1 : (a0_1 != a1_1) = false := bne_eq_false_iff_eq.mpr c4
   clear c4
   by_cases c5 : a0_2 = a1_2
   ·rw [if_pos c5] at H
    have c5b0 : (a0_2 == a1_2) = true := beq_iff_eq.mpr c5
    clear c5
    replace H := Option.bind_eq_some_iff.mp H
    obtain ⟨tz0, A60, H⟩ := H
    replace H : (some tz0) = some r := H
    have A6 := mk A60
    clear A60
    obtain rfl := Option.some.inj H
    go_enter Try.func43, Try.ntmps43
    go_wp2_with (first | ((with_reducible refine gate_dst (N := 2) rfl ?_); refine box_event (by rfl) (N := 2) (by rfl) (cs := #[.int .i64 a0_0, .int .i64 a0_1, .int .i64 a0_2, .slice A0_3 l0_3.length c0_3]) (t := 28) (by go_simp; done) ?_; intro gbz0 hg w7 hbox hb; replace HB := mk (below_step HB.out hb); have BKz0 := mk (hbox); clear hb hbox hg) | ((with_reducible refine gate_dst (N := 3) rfl ?_); refine box_event (by rfl) (N := 3) (by rfl) (cs := #[.int .i64 a1_0, .int .i64 a1_1, .int .i64 a1_2, .slice A1_3 l1_3.length c1_3]) (t := 28) (by go_simp; done) ?_; intro gbz1 hg w8 hbox hb; replace BKz0 := mk (blk_below BKz0.out hb); replace HB := mk (below_step HB.out hb); have BKz1 := mk (hbox); clear hb hbox hg; have hcz10_0 : w8.cell? ⟨gbz0, 0, none⟩ = some (.int .i64 a0_0) := (blk_cell BKz0.out 0).trans rfl; have hcz10_1 : w8.cell? ⟨gbz0, 1, none⟩ = some (.int .i64 a0_1) := (blk_cell BKz0.out 1).trans rfl; have hcz10_2 : w8.cell? ⟨gbz0, 2, none⟩ = some (.int .i64 a0_2) := (blk_cell BKz0.out 2).trans rfl; have hcz10_3 : w8.cell? ⟨gbz0, 3, none⟩ = some (.slice A0_3 l0_3.length c0_3) := (blk_cell BKz0.out 3).trans rfl; have hcz11_0 : w8.cell? ⟨gbz1, 0, none⟩ = some (.int .i64 a1_0) := (blk_cell BKz1.out 0).trans rfl; have hcz11_1 : w8.cell? ⟨gbz1, 1, none⟩ = some (.int .i64 a1_1) := (blk_cell BKz1.out 1).trans rfl; have hcz11_2 : w8.cell? ⟨gbz1, 2, none⟩ = some (.int .i64 a1_2) := (blk_cell BKz1.out 2).trans rfl; have hcz11_3 : w8.cell? ⟨gbz1, 3, none⟩ = some (.slice A1_3 l1_3.length c1_3) := (blk_cell BKz1.out 3).trans rfl) | (go_at_call 23; (with_reducible refine (laws_equalInts.calls k _ _ l0_3 _ _ l1_3 tz0 _ ?side1 ?side2 ?side3 ?side4 A6.out).mono ?_); (case side1 => repeat (exact (Kd.C_below HR0_3.out HB.out))); (case side2 => exact HC0_3.out); (case side3 => repeat (exact (Kd.C_below HR1_3.out HB.out))); (case side4 => exact HC1_3.out); rintro e w' ⟨rfl, ⟨nd, rfl⟩⟩))
    go_ret
    exact ⟨by rfl, by repeat (with_reducible first | exact HB.out | apply pw_below_drewN)⟩
   rw [if_neg c5] at H
   have c5b0 : (a0_2 == a1_2) = false := beq_eq_false_iff_ne.mpr c5
   obtain rfl := Option.some.inj H
   go_enter Try.func43, Try.ntmps43
   go_wp2_with (first | ((with_reducible refine gate_dst (N := 2) rfl ?_); refine box_event (by rfl) (N := 2) (by rfl) (cs := #[.int .i64 a0_0, .int .i64 a0_1, .int .i64 a0_2, .slice A0_3 l0_3.length c0_3]) (t := 28) (by go_simp; done) ?_; intro gbz0 hg w12 hbox hb; replace HB := mk (below_step HB.out hb); have BKz0 := mk (hbox); clear hb hbox hg) | ((with_reducible refine gate_dst (N := 3) rfl ?_); refine box_event (by rfl) (N := 3) (by rfl) (cs := #[.int .i64 a1_0, .int .i64 a1_1, .int .i64 a1_2, .slice A1_3 l1_3.length c1_3]) (t := 28) (by go_simp; done) ?_; intro gbz1 hg w13 hbox hb; replace BKz0 := mk (blk_below BKz0.out hb); replace HB := mk (below_step HB.out hb); have BKz1 := mk (hbox); clear hb hbox hg; have hcz15_0 : w13.cell? ⟨gbz0, 0, none⟩ = some (.int .i64 a0_0) := (blk_cell BKz0.out 0).trans rfl; have hcz15_1 : w13.cell? ⟨gbz0, 1, none⟩ = some (.int .i64 a0_1) := (blk_cell BKz0.out 1).trans rfl; have hcz15_2 : w13.cell? ⟨gbz0, 2, none⟩ = some (.int .i64 a0_2) := (blk_cell BKz0.out 2).trans rfl; have hcz16_0 : w13.cell? ⟨gbz1, 0, none⟩ = some (.int .i64 a1_0) := (blk_cell BKz1.out 0).trans rfl; have hcz16_1 : w13.cell? ⟨gbz1, 1, none⟩ = some (.int .i64 a1_1) := (blk_cell BKz1.out 1).trans rfl; have hcz16_2 : w13.cell? ⟨gbz1, 2, none⟩ = some (.int .i64 a1_2) := (blk_cell BKz1.out 2).trans rfl))
   go_ret
   exact ⟨by rfl, by exact HB.out⟩
  rw [if_neg c4] at H
  have c4b0 : (a0_1 == a1_1) = false := beq_eq_false_iff_ne.mpr c4
  obtain rfl := Option.some.inj H
  go_enter Try.func43, Try.ntmps43
  go_wp2_with (first | ((with_reducible refine gate_dst (N := 2) rfl ?_); refine box_event (by rfl) (N := 2) (by rfl) (cs := #[.int .i64 a0_0, .int .i64 a0_1, .int .i64 a0_2, .slice A0_3 l0_3.length c0_3]) (t := 28) (by go_simp; done) ?_; intro gbz0 hg w17 hbox hb; replace HB := mk (below_step HB.out hb); have BKz0 := mk (hbox); clear hb hbox hg) | ((with_reducible refine gate_dst (N := 3) rfl ?_); refine box_event (by rfl) (N := 3) (by rfl) (cs := #[.int .i64 a1_0, .int .i64 a1_1, .int .i64 a1_2, .slice A1_3 l1_3.length c1_3]) (t := 28) (by go_simp; done) ?_; intro gbz1 hg w18 hbox hb; replace BKz0 := mk (blk_below BKz0.out hb); replace HB := mk (below_step HB.out hb); have BKz1 := mk (hbox); clear hb hbox hg; have hcz20_0 : w18.cell? ⟨gbz0, 0, none⟩ = some (.int .i64 a0_0) := (blk_cell BKz0.out 0).trans rfl; have hcz20_1 : w18.cell? ⟨gbz0, 1, none⟩ = some (.int .i64 a0_1) := (blk_cell BKz0.out 1).trans rfl; have hcz21_0 : w18.cell? ⟨gbz1, 0, none⟩ = some (.int .i64 a1_0) := (blk_cell BKz1.out 0).trans rfl; have hcz21_1 : w18.cell? ⟨gbz1, 1, none⟩ = some (.int .i64 a1_1) := (blk_cell BKz1.out 1).trans rfl))
  go_ret
  exact ⟨by rfl, by exact HB.out⟩
 rw [if_neg c3] at H
 have c3b0 : (a0_0 == a1_0) = false := beq_eq_false_iff_ne.mpr c3
 obtain rfl := Option.some.inj H
 go_enter Try.func43, Try.ntmps43
 go_wp2_with (first | ((with_reducible refine gate_dst (N := 2) rfl ?_); refine box_event (by rfl) (N := 2) (by rfl) (cs := #[.int .i64 a0_0, .int .i64 a0_1, .int .i64 a0_2, .slice A0_3 l0_3.length c0_3]) (t := 28) (by go_simp; done) ?_; intro gbz0 hg w22 hbox hb; replace HB := mk (below_step HB.out hb); have BKz0 := mk (hbox); clear hb hbox hg) | ((with_reducible refine gate_dst (N := 3) rfl ?_); refine box_event (by rfl) (N := 3) (by rfl) (cs := #[.int .i64 a1_0, .int .i64 a1_1, .int .i64 a1_2, .slice A1_3 l1_3.length c1_3]) (t := 28) (by go_simp; done) ?_; intro gbz1 hg w23 hbox hb; replace BKz0 := mk (blk_below BKz0.out hb); replace HB := mk (below_step HB.out hb); have BKz1 := mk (hbox); clear hb hbox hg; have hcz25_0 : w23.cell? ⟨gbz0, 0, none⟩ = some (.int .i64 a0_0) := (blk_cell BKz0.out 0).trans rfl; have hcz26_0 : w23.cell? ⟨gbz1, 0, none⟩ = some (.int .i64 a1_0) := (blk_cell BKz1.out 0).trans rfl))
 go_ret
 exact ⟨by rfl, by exact HB.out⟩

end Go.Proofs.Ytbgohbinonkhfaa.Q

/- Plain words: numbers that do not wrap, elements of lists, rounds that are enough. -/
namespace Go.Proofs.Ytbgohbinonkhfaa.Pure
open Go.RowKit Go.Proofs.Ytbgohbinonkhfaa.Q Go.Proofs.YtbgohbinonkhfaaW.PrintWords Go.Proofs.YtbgohbinonkhfaaW.PrintLast Go.Proofs.YtbgohbinonkhfaaW.PrintMore
set_option linter.unusedVariables false
set_option linter.unusedSimpArgs false

theorem w64 {x : Int} (h1 : -9223372036854775808 ≤ x) (h2 : x ≤ 9223372036854775807) : wrap64 x = x := by unfold wrap64; omega
theorem w64n (n : Nat) (h : n < 9223372036854775807) : wrap64 ((n : Int) + 1) = ((n + 1 : Nat) : Int) := by unfold wrap64; omega
theorem rd_nat (l : List Int) (i : Nat) (h : i < l.length) : rd l (i : Int) = l[i] := by simp [rd, h]
theorem tdiv_nn (a b : Int) (h : 0 ≤ a) : Int.tdiv a b = a / b := Int.tdiv_eq_ediv_of_nonneg h
theorem tmod_nn (a b : Int) (h : 0 ≤ a) : Int.tmod a b = a % b := Int.tmod_eq_emod_of_nonneg h
theorem ev_of {α : Type} {g : Nat → Option α} {r : α} (K : Nat) (h : ∀ k, K < k → g k = some r) : Ev g r := ⟨K + 1, fun k hk => h k (by omega)⟩
theorem ev_const {α : Type} {o : Option α} {r : α} (h : o = some r) : Ev (fun _ => o) r := ⟨0, fun _ _ => h⟩
theorem ev_bind {α β : Type} {g : Nat → Option α} {f : Nat → α → Option β} {a : α} {r : β} (h : Ev g a) (k : Ev (fun n => f n a) r) : Ev (fun n => (g n).bind (f n)) r := Ev.bind h k
theorem ev_now {α β : Type} {o : Option α} {f : Nat → α → Option β} {a : α} {r : β} (h : o = some a) (k : Ev (fun n => f n a) r) : Ev (fun n => o.bind (f n)) r := Ev.bind (ev_const h) k
theorem ev_pos {α : Type} {c : Prop} [Decidable c] {f g : Nat → Option α} {r : α} (h : c) (k : Ev f r) : Ev (fun n => if c then f n else g n) r := by
 simpa [h] using k
theorem ev_neg {α : Type} {c : Prop} [Decidable c] {f g : Nat → Option α} {r : α} (h : ¬ c) (k : Ev g r) : Ev (fun n => if c then f n else g n) r := by
 simpa [h] using k
theorem mn_def (a b : Int) : mn a b = min a b := by unfold mn; omega
theorem mx_def (a b : Int) : mx a b = max a b := by unfold mx; omega
theorem loop_up {σ ρ : Type} (K n : Nat) (L : Nat → Nat → σ → Option ρ) (Inv : Nat → σ → Prop) (F : Nat → σ → ρ)
  (step : ∀ i s k, i < n → Inv i s → K ≤ k → (L (k + 1) i s = some (F i s)) ∨ ∃ s', L (k + 1) i s = L k (i + 1) s' ∧ Inv (i + 1) s' ∧ F (i + 1) s' = F i s)
  (last : ∀ s k, Inv n s → K ≤ k → L (k + 1) n s = some (F n s)) :
  ∀ d i s k, i + d = n → Inv i s → K + d < k → L k i s = some (F i s) := by
 intro d
 induction d with
 | zero =>
  intro i s k hi hinv hk
  obtain ⟨k, rfl⟩ : ∃ m, k = m + 1 := ⟨k - 1, by omega⟩
  have : i = n := by omega
  subst this
  exact last s k hinv (by omega)
 | succ d ih =>
  intro i s k hi hinv hk
  obtain ⟨k, rfl⟩ : ∃ m, k = m + 1 := ⟨k - 1, by omega⟩
  rcases step i s k (by omega) hinv (by omega) with h | ⟨s', h, hi', hF⟩
  ·exact h
  ·rw [h, ih (i + 1) s' k (by omega) hi' (by omega), hF]
theorem ev_up {σ ρ : Type} (n : Nat) (L : Nat → Nat → σ → Option ρ) (Inv : Nat → σ → Prop) (F : Nat → σ → ρ)
  (step : ∀ i s, i < n → Inv i s → Ev (fun k => L k i s) (F i s) ∨ ∃ s', (∀ k, L (k + 1) i s = L k (i + 1) s') ∧ Inv (i + 1) s' ∧ F (i + 1) s' = F i s)
  (last : ∀ s, Inv n s → Ev (fun k => L k n s) (F n s)) :
  ∀ d i s, i + d = n → Inv i s → Ev (fun k => L k i s) (F i s) := by
 intro d
 induction d with
 | zero =>
  intro i s hi hinv
  have : i = n := by omega
  subst this
  exact last s hinv
 | succ d ih =>
  intro i s hi hinv
  rcases step i s (by omega) hinv with h | ⟨s', h, hi', hF⟩
  ·exact h
  ·rw [← hF]
   exact Ev.step h (ih (i + 1) s' (by omega) hi')
theorem ev_up2 {σ ρ : Type} (n : Nat) (L : Nat → Nat → σ → Option ρ) (Inv : Nat → σ → Prop) (F : Nat → σ → ρ)
  (step : ∀ i s, i < n → Inv i s → Ev (fun k => L k i s) (F i s) ∨ ∃ s', (∀ r, Ev (fun k => L k (i + 1) s') r → Ev (fun k => L k i s) r) ∧ Inv (i + 1) s' ∧ F (i + 1) s' = F i s)
  (last : ∀ s, Inv n s → Ev (fun k => L k n s) (F n s)) :
  ∀ d i s, i + d = n → Inv i s → Ev (fun k => L k i s) (F i s) := by
 intro d
 induction d with
 | zero =>
  intro i s hi hinv
  have : i = n := by omega
  subst this
  exact last s hinv
 | succ d ih =>
  intro i s hi hinv
  rcases step i s (by omega) hinv with h | ⟨s', h, hi', hF⟩
  ·exact h
  ·rw [← hF]
   exact h _ (ih (i + 1) s' (by omega) hi')
theorem ev_val {α : Type} {g : Nat → Option α} {r r' : α} (h : Ev g r) (e : r = r') : Ev g r' := e ▸ h
theorem take_set {α : Type} (s : List α) (i : Nat) (c : α) (h : i < s.length) : (s.set i c).take (i + 1) = s.take i ++ [c] := by
 rw [List.take_succ_eq_append_getElem (by simpa using h), List.take_set_of_le (Nat.le_refl i)]
 simp

/- Images: valid ones, as the program and the reference have it; copies of lists of numbers. -/

def byteI (n : Int) : Bool := decide (0 ≤ n) && decide (n ≤ 255)
def shapeI (w h p : Int) : Bool := decide (1 ≤ w ∧ w ≤ 16 ∧ 1 ≤ h ∧ h ≤ 16 ∧ 1 ≤ p ∧ p ≤ 4)
theorem shapeI_iff (w h p : Int) : shapeI w h p = true ↔ 1 ≤ w ∧ w ≤ 16 ∧ 1 ≤ h ∧ h ≤ 16 ∧ 1 ≤ p ∧ p ≤ 4 := by simp [shapeI]
def validI (w h p : Int) (d : List Int) : Bool := shapeI w h p && (decide ((d.length : Int) = w * h * p) && d.all byteI)
theorem validI_iff (w h p : Int) (d : List Int) : validI w h p d = true ↔ (1 ≤ w ∧ w ≤ 16 ∧ 1 ≤ h ∧ h ≤ 16 ∧ 1 ≤ p ∧ p ≤ 4) ∧ (d.length : Int) = w * h * p ∧ ∀ n ∈ d, 0 ≤ n ∧ n ≤ 255 := by
 simp [validI, shapeI_iff, byteI, and_assoc]
theorem shape_prod {w h p : Int} (hs : 1 ≤ w ∧ w ≤ 16 ∧ 1 ≤ h ∧ h ≤ 16 ∧ 1 ≤ p ∧ p ≤ 4) : 0 ≤ w * h ∧ w * h ≤ 256 ∧ 0 ≤ w * h * p ∧ w * h * p ≤ 1024 := by
 have h1 : 0 ≤ w * h := Int.mul_nonneg (by omega) (by omega)
 have h2 : w * h ≤ 16 * 16 := Int.mul_le_mul (by omega) (by omega) (by omega) (by omega)
 have h3 : 0 ≤ w * h * p := Int.mul_nonneg h1 (by omega)
 have h4 : w * h * p ≤ 256 * 4 := Int.mul_le_mul (by omega) (by omega) (by omega) (by omega)
 omega
theorem shape_wrap {w h p : Int} (hs : 1 ≤ w ∧ w ≤ 16 ∧ 1 ≤ h ∧ h ≤ 16 ∧ 1 ≤ p ∧ p ≤ 4) : wrap64 (wrap64 (w * h) * p) = w * h * p := by
 have := shape_prod hs
 rw [w64 (x := w * h) (by omega) (by omega), w64 (by omega) (by omega)]
theorem impl_isSide_eq (a : Int) : impl_isSide.f a = some (decide (1 ≤ a ∧ a ≤ 16)) := by
 unfold impl_isSide.f
 by_cases c : a ≥ 1
 ·rw [if_pos c]; congr 1; rw [decide_eq_decide]; omega
 ·rw [if_neg c, decide_eq_false (by omega)]
theorem impl_isShape_eq (w h p : Int) : impl_isShape.f w h p = some (shapeI w h p) := by
 unfold impl_isShape.f shapeI
 rw [impl_isSide_eq, impl_isSide_eq]
 simp only [Option.bind_some]
 by_cases c1 : 1 ≤ w ∧ w ≤ 16
 ·rw [if_pos (by simpa using c1)]
  by_cases c2 : 1 ≤ h ∧ h ≤ 16
  ·rw [if_pos (by simpa using c2)]
   by_cases c3 : p ≥ 1
   ·rw [if_pos c3]; congr 1; rw [decide_eq_decide]; omega
   ·rw [if_neg c3, decide_eq_false (by omega)]
  ·rw [if_neg (by simpa using c2), decide_eq_false (by omega)]
 ·rw [if_neg (by simpa using c1), decide_eq_false (by omega)]
theorem areBytesI_eq (l : List Int) : impl_areBytes.f l = some (l.all byteI) := by
 unfold impl_areBytes.f
 congr 1
 rw [List.not_any_eq_all_not]
 congr 1
 funext n
 unfold notByte byteI
 rw [Bool.eq_iff_iff]
 simp
theorem impl_isImage_eq (w h p : Int) (d : List Int) : impl_isImage.f w h p d = some (validI w h p d) := by
 unfold impl_isImage.f validI
 rw [impl_isShape_eq, areBytesI_eq]
 simp only [Option.bind_some]
 by_cases c : shapeI w h p = true
 ·rw [if_pos c, shape_wrap ((shapeI_iff w h p).1 c), c]
  by_cases e : (d.length : Int) = w * h * p
  ·rw [if_pos e, decide_eq_true e]; rfl
  ·rw [if_neg e, decide_eq_false e]; rfl
 ·rw [if_neg c, Bool.eq_false_iff.2 c]; rfl
theorem spec_inRangeI_eq (n a b : Int) : spec_inRange.f n a b = some (decide (a ≤ n) && decide (n ≤ b)) := by
 unfold spec_inRange.f
 by_cases c : a ≤ n
 ·rw [if_pos c, decide_eq_true c, Bool.true_and]
 ·rw [if_neg c, decide_eq_false c, Bool.false_and]
theorem spec_validShape_eq (w h p : Int) : spec_validShape.f w h p = some (shapeI w h p) := by
 unfold spec_validShape.f shapeI
 rw [spec_inRangeI_eq, spec_inRangeI_eq, spec_inRangeI_eq]
 simp only [Option.bind_some]
 by_cases c1 : 1 ≤ w ∧ w ≤ 16
 ·rw [if_pos (by simpa using c1)]
  by_cases c2 : 1 ≤ h ∧ h ≤ 16
  ·rw [if_pos (by simpa using c2)]; congr 1; rw [Bool.eq_iff_iff]; simp; omega
  ·rw [if_neg (by simpa using c2), decide_eq_false (by omega)]
 ·rw [if_neg (by simpa using c1), decide_eq_false (by omega)]
theorem spec_allInI_ev (l : List Int) (hl : l.length ≤ 1000000000000) : Ev (fun k => spec_allIn.f k l 0 255) (l.all byteI) := by
 have key := ev_up l.length (fun k i (_ : Unit) => spec_allIn.l0 k l 0 255 (i : Int)) (fun _ _ => True) (fun i _ => (l.drop i).all byteI)
  (by
   intro i s hi _
   have hd : (l.drop i).all byteI = (byteI l[i] && (l.drop (i + 1)).all byteI) := by rw [List.drop_eq_getElem_cons hi, List.all_cons]
   cases hb : byteI l[i] with
   | true =>
    right
    refine ⟨(), fun k => ?_, trivial, by rw [hd, hb, Bool.true_and]⟩
    simp only [spec_allIn.l0]
    rw [if_pos (by omega), if_pos (by omega), rd_nat l i hi, spec_inRangeI_eq]
    simp only [Option.bind_some]
    rw [if_pos (show (decide (0 ≤ l[i]) && decide (l[i] ≤ 255)) = true from hb), w64n i (by omega)]
   | false =>
    left
    rw [hd, hb, Bool.false_and]
    refine Ev.step (f := fun _ => some false) (fun k => ?_) (Ev.now false)
    simp only [spec_allIn.l0]
    rw [if_pos (by omega), if_pos (by omega), rd_nat l i hi, spec_inRangeI_eq]
    simp only [Option.bind_some]
    rw [if_neg (Bool.eq_false_iff.1 (show (decide (0 ≤ l[i]) && decide (l[i] ≤ 255)) = false from hb))])
  (by
   intro s _
   rw [List.drop_length]
   refine Ev.step (f := fun _ => some true) (fun k => ?_) (Ev.now true)
   simp only [spec_allIn.l0]
   rw [if_neg (by omega)])
  l.length 0 () (by omega) trivial
 unfold spec_allIn.f
 simpa using key
theorem spec_validImage_ev (w h p : Int) (d : List Int) (hl : d.length ≤ 1000000000000) : Ev (fun k => spec_validImage.f k w h p d) (validI w h p d) := by
 unfold spec_validImage.f validI
 refine ev_now (spec_validShape_eq w h p) ?_
 by_cases c : shapeI w h p = true
 ·refine ev_pos c ?_
  rw [shape_wrap ((shapeI_iff w h p).1 c), c, Bool.true_and]
  by_cases e : (d.length : Int) = w * h * p
  ·refine ev_pos e ?_
   rw [decide_eq_true e, Bool.true_and]
   exact ev_bind (spec_allInI_ev d hl) (Ev.now _)
  ·refine ev_neg e ?_
   rw [decide_eq_false e]
   exact Ev.now _
 ·refine ev_neg c ?_
  rw [Bool.eq_false_iff.2 c]
  exact Ev.now _

/- Two images of the same shape. -/

def sameV (w h p : Int) (d : List Int) (w' h' p' : Int) (d' : List Int) : Bool := validI w h p d && (validI w' h' p' d' && decide (w = w' ∧ h = h' ∧ p = p'))
theorem sameV_iff (w h p : Int) (d : List Int) (w' h' p' : Int) (d' : List Int) : sameV w h p d w' h' p' d' = true ↔ validI w h p d = true ∧ validI w' h' p' d' = true ∧ w = w' ∧ h = h' ∧ p = p' := by
 simp [sameV]
theorem alikeB (w h p w' h' p' : Int) : (if w = w' then (if h = h' then (some (p == p')) else (some false)) else (some false)) = some (decide (w = w' ∧ h = h' ∧ p = p')) := by
 by_cases c1 : w = w'
 ·rw [if_pos c1]
  by_cases c2 : h = h'
  ·rw [if_pos c2]
   by_cases c3 : p = p'
   ·rw [decide_eq_true (show w = w' ∧ h = h' ∧ p = p' from ⟨c1, c2, c3⟩), beq_iff_eq.2 c3]
   ·rw [decide_eq_false (by simp [c3]), beq_eq_false_iff_ne.2 c3]
  ·rw [if_neg c2, decide_eq_false (by simp [c2])]
 ·rw [if_neg c1, decide_eq_false (by simp [c1])]
theorem impl_alike_eq (w h p : Int) (d : List Int) (w' h' p' : Int) (d' : List Int) : impl_alikeImages.f w h p d w' h' p' d' = some (decide (w = w' ∧ h = h' ∧ p = p')) := by
 unfold impl_alikeImages.f
 exact alikeB w h p w' h' p'
theorem spec_sameShape_ev (w h p : Int) (d : List Int) (w' h' p' : Int) (d' : List Int) (hl : d.length ≤ 1000000000000) (hl' : d'.length ≤ 1000000000000) : Ev (fun k => spec_sameShape.f k w h p d w' h' p' d') (sameV w h p d w' h' p' d') := by
 unfold spec_sameShape.f sameV
 refine ev_bind (spec_validImage_ev w h p d hl) ?_
 by_cases c : validI w h p d = true
 ·rw [c, Bool.true_and]
  refine ev_pos rfl (ev_bind (spec_validImage_ev w' h' p' d' hl') ?_)
  by_cases c' : validI w' h' p' d' = true
  ·rw [c', Bool.true_and]
   exact ev_pos rfl (ev_const (alikeB w h p w' h' p'))
  ·rw [Bool.eq_false_iff.2 c', Bool.false_and]
   exact ev_neg (by simp) (Ev.now _)
 ·rw [Bool.eq_false_iff.2 c, Bool.false_and]
  exact ev_neg (by simp) (Ev.now _)

/- Runs: what the program and the reference take for a region. -/

abbrev Run := S47
theorem rdRun (l : List Run) (i : Nat) (h : i < l.length) : rd_T47 l (i : Int) = l[i] := by simp [rd_T47, h]
def runOK (r : Run) : Bool := decide (0 ≤ r.f0) && decide (r.f0 < 16) && decide (0 ≤ r.f1) && decide (r.f1 < r.f2) && decide (r.f2 ≤ 16)
theorem runOK_iff (r : Run) : runOK r = true ↔ 0 ≤ r.f0 ∧ r.f0 < 16 ∧ 0 ≤ r.f1 ∧ r.f1 < r.f2 ∧ r.f2 ≤ 16 := by
 simp [runOK, and_assoc]
def runAfter (p r : Run) : Bool := decide (p.f0 < r.f0) || (decide (p.f0 = r.f0) && decide (p.f2 < r.f1))
theorem runAfter_iff (p r : Run) : runAfter p r = true ↔ p.f0 < r.f0 ∨ (p.f0 = r.f0 ∧ p.f2 < r.f1) := by
 simp [runAfter]
def validFrom : Option Run → List Run → Bool
 | _, [] => true
 | none, r :: rs => runOK r && validFrom (some r) rs
 | some p, r :: rs => (runOK r && runAfter p r) && validFrom (some r) rs
def validR (l : List Run) : Bool := validFrom none l
def before (l : List Run) (i : Nat) : Option Run := if i = 0 then none else l[i - 1]?
theorem validFrom_ok (l : List Run) : ∀ p, validFrom p l = true → ∀ r ∈ l, runOK r = true := by
 induction l with
 | nil => intro p _ r hr; cases hr
 | cons x xs ih =>
  intro p h r hr
  have h2 : runOK x = true ∧ validFrom (some x) xs = true := by
   cases p with
   | none => simpa [validFrom] using h
   | some p => simp [validFrom] at h; exact ⟨h.1.1, h.2⟩
  rcases List.mem_cons.1 hr with rfl | hr
  ·exact h2.1
  ·exact ih _ h2.2 r hr
theorem valid_ok {l : List Run} (h : validR l = true) : ∀ r ∈ l, runOK r = true := validFrom_ok l none h
theorem valid_ranges {l : List Run} (h : validR l = true) : ∀ r ∈ l, 0 ≤ r.f0 ∧ r.f0 < 16 ∧ 0 ≤ r.f1 ∧ r.f2 ≤ 16 := by
 intro r hr
 have := (runOK_iff r).1 (valid_ok h r hr)
 omega

/- Areas and bounds of regions, as the program and the reference have them. -/

def leftR (l : List Run) (s : Int) : Int := l.foldl (fun a r => min a r.f1) s
def rightR (l : List Run) (s : Int) : Int := l.foldl (fun a r => max a r.f2) s
theorem left_range (l : List Run) (h : ∀ r ∈ l, runOK r = true) : ∀ s, 0 ≤ s → s ≤ 16 → 0 ≤ leftR l s ∧ leftR l s ≤ 16 := by
 induction l with
 | nil => intro s h0 h1; exact ⟨h0, h1⟩
 | cons x xs ih =>
  intro s h0 h1
  have h2 := (runOK_iff x).1 (h x (by simp))
  exact ih (fun r hr => h r (by simp [hr])) (min s x.f1) (by omega) (by omega)
theorem right_range (l : List Run) (h : ∀ r ∈ l, runOK r = true) : ∀ s, 0 ≤ s → s ≤ 16 → 0 ≤ rightR l s ∧ rightR l s ≤ 16 := by
 induction l with
 | nil => intro s h0 h1; exact ⟨h0, h1⟩
 | cons x xs ih =>
  intro s h0 h1
  have h2 := (runOK_iff x).1 (h x (by simp))
  exact ih (fun r hr => h r (by simp [hr])) (max s x.f2) (by omega) (by omega)
def boundsR (l : List Run) : Int × Int × Int × Int :=
 (leftR l 16, (l.headD z47).f0, rightR l 0 - leftR l 16, (l.getLastD z47).f0 - (l.headD z47).f0 + 1)
theorem last_wrap (l : List Run) (hn : l ≠ []) (hl : l.length ≤ 1000000000) (h : ∀ r ∈ l, runOK r = true) :
  (if 0 < (l.length : Int) then (if 0 ≤ (wrap64 ((l.length : Int) - 1)) then (if (wrap64 ((l.length : Int) - 1)) < (l.length : Int) then (some (leftR l 16, (rd_T47 l 0).f0, wrap64 (rightR l 0 - leftR l 16), wrap64 ((wrap64 (((rd_T47 l (wrap64 ((l.length : Int) - 1))).f0) - ((rd_T47 l 0).f0))) + 1))) else (none)) else (none)) else (none)) = some (boundsR l) := by
 have hp : 0 < l.length := List.length_pos_iff.2 hn
 have h1 := left_range l h 16 (by omega) (by omega)
 have h2 := right_range l h 0 (by omega) (by omega)
 have e0 : rd_T47 l 0 = l[0] := by simpa using rdRun l 0 hp
 have e1 : wrap64 ((l.length : Int) - 1) = ((l.length - 1 : Nat) : Int) := by rw [w64 (by omega) (by omega)]; omega
 have ha := (runOK_iff _).1 (h l[0] (List.getElem_mem hp))
 have hb := (runOK_iff _).1 (h (l[l.length - 1]'(by omega)) (List.getElem_mem (by omega)))
 rw [if_pos (by omega), e1, if_pos (by omega), if_pos (by omega), rdRun l (l.length - 1) (by omega), e0, w64 (x := rightR l 0 - leftR l 16) (by omega) (by omega), w64 (x := (l[l.length - 1]'(by omega)).f0 - l[0].f0) (by omega) (by omega), w64 (by omega) (by omega)]
 unfold boundsR
 have f1 : l.headD z47 = l[0] := by cases l with
  | nil => exact absurd rfl hn
  | cons x xs => rfl
 have f2 : l.getLastD z47 = l[l.length - 1]'(by omega) := by
  rw [← List.getLast_eq_getElem hn, List.getLastD_eq_getLast?, List.getLast?_eq_some_getLast hn]; rfl
 rw [f1, f2]
theorem foldl_drop {α β : Type} (f : β → α → β) (l : List α) (i : Nat) (h : i < l.length) (s : β) : (l.drop i).foldl f s = (l.drop (i + 1)).foldl f (f s l[i]) := by
 rw [List.drop_eq_getElem_cons h]; rfl
theorem impl_bounds_eq (l : List Run) (hn : l ≠ []) (hl : l.length ≤ 1000000000) (h : ∀ r ∈ l, runOK r = true) (k : Nat) (hk : l.length < k) : impl_bounds.f k l = some (boundsR l) := by
 unfold impl_bounds.f
 have hh := loop_up 0 l.length (fun k i (s : Int × Int) => impl_bounds.l0 k l s.1 s.2 l (l.length : Int) (i : Int)) (fun i s => leftR (l.drop i) s.1 = leftR l 16 ∧ rightR (l.drop i) s.2 = rightR l 0) (fun _ _ => boundsR l)
  (by
   intro i s k hi hs _
   refine .inr ⟨(mn s.1 l[i].f1, mx s.2 l[i].f2), ?_, ?_, rfl⟩
   ·simp only [impl_bounds.l0]
    rw [if_pos (by omega), if_pos (by omega), if_pos (by omega), rdRun l i hi, w64n i (by omega)]
   ·obtain ⟨q1, q2⟩ := hs
    unfold leftR at q1 ⊢
    unfold rightR at q2 ⊢
    rw [foldl_drop _ l i hi] at q1 q2
    rw [mn_def, mx_def]
    exact ⟨q1, q2⟩)
  (by
   intro s k hs _
   rw [List.drop_length] at hs
   simp only [impl_bounds.l0]
   rw [if_neg (by omega)]
   have q1 : s.1 = leftR l 16 := hs.1
   have q2 : s.2 = rightR l 0 := hs.2
   rw [q1, q2]
   exact last_wrap l hn hl h)
  l.length 0 (16, 0) k (by omega) ⟨rfl, rfl⟩ (by omega)
 exact hh
theorem spec_boundsOf_eq (l : List Run) (hn : l ≠ []) (hl : l.length ≤ 1000000000) (h : ∀ r ∈ l, runOK r = true) (k : Nat) (hk : l.length < k) : spec_boundsOf.f k l = some (boundsR l) := by
 have hp : 0 < l.length := List.length_pos_iff.2 hn
 have e0 : rd_T47 l 0 = l[0] := by simpa using rdRun l 0 hp
 have ha := (runOK_iff _).1 (h l[0] (List.getElem_mem hp))
 unfold spec_boundsOf.f
 rw [if_pos (by omega), e0]
 have s1 : leftR l l[0].f1 = leftR l 16 := by
  cases l with
  | nil => exact absurd rfl hn
  | cons x xs =>
   simp only [List.getElem_cons_zero] at ha ⊢
   show leftR xs (min x.f1 x.f1) = leftR xs (min 16 x.f1)
   congr 1; omega
 have s2 : rightR l l[0].f2 = rightR l 0 := by
  cases l with
  | nil => exact absurd rfl hn
  | cons x xs =>
   simp only [List.getElem_cons_zero] at ha ⊢
   show rightR xs (max x.f2 x.f2) = rightR xs (max 0 x.f2)
   congr 1; omega
 have hh := loop_up 0 l.length (fun k i (s : Int × Int) => spec_boundsOf.l0 k l s.1 s.2 (i : Int)) (fun i s => leftR (l.drop i) s.1 = leftR l 16 ∧ rightR (l.drop i) s.2 = rightR l 0) (fun _ _ => boundsR l)
  (by
   intro i s k hi hs _
   refine .inr ⟨(mn s.1 l[i].f1, mx s.2 l[i].f2), ?_, ?_, rfl⟩
   ·simp only [spec_boundsOf.l0]
    rw [if_pos (by omega), if_pos (by omega), rdRun l i hi, w64n i (by omega)]
   ·obtain ⟨q1, q2⟩ := hs
    unfold leftR at q1 ⊢
    unfold rightR at q2 ⊢
    rw [foldl_drop _ l i hi] at q1 q2
    rw [mn_def, mx_def]
    exact ⟨q1, q2⟩)
  (by
   intro s k hs _
   rw [List.drop_length] at hs
   simp only [spec_boundsOf.l0]
   rw [if_neg (by omega)]
   have q1 : s.1 = leftR l 16 := hs.1
   have q2 : s.2 = rightR l 0 := hs.2
   rw [q1, q2]
   exact last_wrap l hn hl h)
  l.length 0 (l[0].f1, l[0].f2) k (by omega) ⟨s1, s2⟩ (by omega)
 exact hh

/- Grids and their runs, as the reference has them: lists of 256 bools. -/

def tab (g : Nat → Bool) : List Bool := (List.range 256).map g
theorem tab_length (g : Nat → Bool) : (tab g).length = 256 := by simp [tab]
theorem tab_get (g : Nat → Bool) (i : Nat) (h : i < 256) : rdOf false (tab g) (i : Int) = g i := by
 simp [rdOf, tab, List.getD_eq_getElem?_getD, h]
theorem tab_set (g : Nat → Bool) (i : Nat) (b : Bool) : (tab g).set i b = tab (fun p => if p = i then b else g p) := by
 apply List.ext_getElem
 ·simp [tab]
 ·intro j h1 h2
  rw [List.getElem_set]
  simp only [tab, List.getElem_map, List.getElem_range]
  by_cases e : i = j
  ·rw [if_pos e, if_pos e.symm]
  ·rw [if_neg e, if_neg (fun h => e h.symm)]
theorem tab_congr {g g' : Nat → Bool} (h : ∀ p, p < 256 → g p = g' p) : tab g = tab g' := by
 unfold tab
 apply List.map_congr_left
 intro p hp
 exact h p (by simpa using hp)
theorem tab_false : List.replicate 256 false = tab (fun _ => false) := by
 refine List.ext_getElem (by rw [List.length_replicate, tab_length]) (fun j h1 h2 => ?_)
 rw [List.getElem_replicate]
 simp only [tab, List.getElem_map]
theorem endAt_congr {g g' : Nat → Bool} (h : ∀ p, p < 256 → g p = g' p) (y : Nat) (hy : y < 16) : ∀ n x, endAt g y n x = endAt g' y n x := by
 intro n
 induction n with
 | zero => intro x; rfl
 | succ n ih =>
  intro x
  unfold endAt
  by_cases hx : x < 16
  ·rw [h (y * 16 + x) (by omega), ih (x + 1)]
  ·rw [if_neg (fun c => hx c.1), if_neg (fun c => hx c.1)]
theorem scan_congr {g g' : Nat → Bool} (h : ∀ p, p < 256 → g p = g' p) (y : Nat) (hy : y < 16) : ∀ d x, 17 ≤ x + d → scanRow g y x = scanRow g' y x := by
 intro d
 induction d with
 | zero => intro x hx; rw [scan_end g y x (by omega), scan_end g' y x (by omega)]
 | succ d ih =>
  intro x hx
  by_cases h16 : x < 16
  ·cases hv : g (y * 16 + x) with
   | true =>
    have hv' : g' (y * 16 + x) = true := by rw [← h _ (by omega)]; exact hv
    have := endAt_ge g y (16 - x) x
    rw [scan_true g y x h16 hv, scan_true g' y x h16 hv', endAt_congr h y hy, ih _ (by rw [← endAt_congr h y hy]; omega)]
   | false =>
    have hv' : g' (y * 16 + x) = false := by rw [← h _ (by omega)]; exact hv
    rw [scan_false g y x h16 hv, scan_false g' y x h16 hv', ih _ (by omega)]
  ·rw [scan_end g y x (by omega), scan_end g' y x (by omega)]
theorem runsL_congr {g g' : Nat → Bool} (h : ∀ p, p < 256 → g p = g' p) : runsL g = runsL g' := by
 unfold runsL runsTo
 rw [List.flatMap_def, List.flatMap_def]
 congr 1
 apply List.map_congr_left
 intro y hy
 exact scan_congr h y (by simpa using hy) 17 0 (by omega)
/-! the reference's grid -/
theorem spec_gridOf_ev (l : List Run) (hl : l.length ≤ 1000000000) (hok : ∀ r ∈ l, 0 ≤ r.f0 ∧ r.f0 < 16 ∧ 0 ≤ r.f1 ∧ r.f2 ≤ 16) : Ev (fun k => spec_gridOf.f k l) (tab (gridF l)) := by
 have key := ev_up2 l.length (fun k i (s : List Bool) => spec_gridOf.l0 k l s (i : Int)) (fun i s => s = tab (gridF (l.take i))) (fun _ _ => tab (gridF l))
  (by
   intro i s hi hs
   right
   have ho := hok l[i] (List.getElem_mem hi)
   refine ⟨tab (gridF (l.take (i + 1))), fun r hr => ?_, rfl, rfl⟩
   have inner : ∀ d x : Nat, l[i].f1 ≤ (x : Int) → ((x : Int) + d = l[i].f2 ∨ (d = 0 ∧ l[i].f2 ≤ x ∧ (x : Int) = l[i].f1)) →
     Ev (fun k => spec_gridOf.l1 k l (tab (fun p => gridF (l.take i) p || runTo l[i] x p)) (i : Int) (x : Int)) r := by
    intro d
    induction d with
    | zero =>
     intro x hx hd
     have he : tab (fun p => gridF (l.take i) p || runTo l[i] x p) = tab (gridF (l.take (i + 1))) := by
      apply tab_congr
      intro p _
      rw [gridF_succ l i hi]
      congr 1
      unfold runTo runIn
      by_cases c : l[i].f1 ≤ ((p % 16 : Nat) : Int)
      ·congr 1
       rw [decide_eq_decide]
       omega
      ·rw [decide_eq_false c, Bool.and_false, Bool.false_and, Bool.false_and]
     refine Ev.step (fun k => ?_) hr
     simp only [spec_gridOf.l1]
     rw [if_pos (by omega), if_pos (by omega), rdRun l i hi, if_neg (by omega), w64n i (by omega), he]
    | succ d ih =>
     intro x hx hd
     have hx16 : x < 16 := by omega
     obtain ⟨Y, hY⟩ := Int.eq_ofNat_of_zero_le ho.1
     have hs' : (tab (fun p => gridF (l.take i) p || runTo l[i] x p)).set (Y * 16 + x) true = tab (fun p => gridF (l.take i) p || runTo l[i] (x + 1) p) := by
      rw [tab_set]
      exact tab_congr (fun p _ => runTo_step l[i] Y x hY hx16 hx _ p)
     have hn := ih (x + 1) (by omega) (by omega)
     refine Ev.step (fun k => ?_) hn
     simp only [spec_gridOf.l1]
     have e1 : wrap64 (wrap64 (l[i].f0 * 16) + (x : Int)) = ((Y * 16 + x : Nat) : Int) := by
      rw [hY, w64 (x := (Y : Int) * 16) (by omega) (by omega), w64 (x := (Y : Int) * 16 + (x : Int)) (by omega) (by omega)]; omega
     rw [if_pos (by omega), if_pos (by omega), rdRun l i hi, if_pos (by omega), e1, if_pos (by omega), tab_length, if_pos (by omega), Int.toNat_natCast, hs', w64n x (by omega)]
   obtain ⟨F, hF⟩ := Int.eq_ofNat_of_zero_le ho.2.2.1
   have h0 : Ev (fun k => spec_gridOf.l1 k l (tab (fun p => gridF (l.take i) p || runTo l[i] F p)) (i : Int) (F : Int)) r := by
    by_cases c : l[i].f1 ≤ l[i].f2
    ·exact inner (l[i].f2 - l[i].f1).toNat F (by omega) (.inl (by omega))
    ·exact inner 0 F (by omega) (.inr ⟨rfl, by omega, by omega⟩)
   have he : tab (fun p => gridF (l.take i) p || runTo l[i] F p) = s := by
    rw [hs]
    apply tab_congr
    intro p _
    have : runTo l[i] F p = false := by
     unfold runTo
     rw [hF]
     by_cases c : ((F : Nat) : Int) ≤ ((p % 16 : Nat) : Int)
     ·rw [decide_eq_false (show ¬ p % 16 < F by omega), Bool.and_false]
     ·rw [decide_eq_false c, Bool.and_false, Bool.false_and]
    rw [this, Bool.or_false]
   rw [he] at h0
   refine Ev.step (fun k => ?_) h0
   simp only [spec_gridOf.l0]
   rw [if_pos (by omega), if_pos (by omega), rdRun l i hi, hF])
  (by
   intro s hs
   refine Ev.step (f := fun _ => some s) (fun k => ?_) (ev_val (Ev.now s) (by rw [hs, List.take_length]))
   simp only [spec_gridOf.l0]
   rw [if_neg (by omega)])
  l.length 0 (tab (gridF (l.take 0))) (by omega) rfl
 unfold spec_gridOf.f
 refine Ev.congr (fun k => ?_) key
 rw [if_pos (by omega), tab_false]
 rfl
/-! the reference's runs -/
def rowRest (g : Nat → Bool) (y x : Nat) (from_ : Int) : List Run :=
 if from_ < 0 then scanRow g y x else ⟨(y : Int), from_, (endAt g y (16 - x) x : Nat)⟩ :: scanRow g y (endAt g y (16 - x) x + 1)
theorem spec_runsOf_ev (g : Nat → Bool) : Ev (fun k => spec_runsOf.f k (tab g)) (runsL g) := by
 have key := ev_up2 16 (fun k y (s : List Run) => spec_runsOf.l0 k (tab g) s (y : Int)) (fun y s => s = runsTo g y ∧ s.length ≤ 17 * y) (fun _ _ => runsL g)
  (by
   intro y s hy hs
   right
   have inner : ∀ r, (∀ acc : List Run, acc = runsTo g (y + 1) → acc.length ≤ 17 * (y + 1) → Ev (fun k => spec_runsOf.l0 k (tab g) acc ((y + 1 : Nat) : Int)) r) →
     Ev (fun k => spec_runsOf.l1 k (tab g) s (y : Int) (-1) 0) r := by
    intro r hnext
    have h := ev_up2 17 (fun k x (q : List Run × Int) => spec_runsOf.l1 k (tab g) q.1 (y : Int) q.2 (x : Int))
     (fun x q => q.1 ++ rowRest g y x q.2 = runsTo g (y + 1) ∧ q.1.length ≤ 17 * y + x ∧ (q.2 = -1 ∨ (0 ≤ q.2 ∧ q.2 < x ∧ x ≤ 16))) (fun _ _ => r)
     (by
      intro x q hx hq
      obtain ⟨acc, fr⟩ := q
      obtain ⟨h1, h2, h3⟩ := hq
      simp only at h1 h2 h3
      right
      have j3 : ∀ (b : Bool), (x < 16 → b = g (y * 16 + x)) → (x = 16 → b = false) → ∃ s' : List Run × Int,
        (∀ r, Ev (fun k => spec_runsOf.l1 k (tab g) s'.1 (y : Int) s'.2 ((x + 1 : Nat) : Int)) r → Ev (fun k => spec_runsOf.j2 k (tab g) acc (y : Int) fr (x : Int) b) r) ∧
        (s'.1 ++ rowRest g y (x + 1) s'.2 = runsTo g (y + 1) ∧ s'.1.length ≤ 17 * y + (x + 1) ∧ (s'.2 = -1 ∨ (0 ≤ s'.2 ∧ s'.2 < ((x + 1 : Nat) : Int) ∧ x + 1 ≤ 16))) := by
       intro b hb hb16
       rcases h3 with h3 | h3
       ·subst h3
        cases b with
        | true =>
         have hx16 : x < 16 := by
          by_cases c : x = 16
          ·have := hb16 c; cases this
          ·omega
         refine ⟨(acc, (x : Int)), fun r hr => ?_, ?_, by simp only; omega, .inr (by simp only; omega)⟩
         ·refine Ev.step (f := fun k => spec_runsOf.j3 k (tab g) acc (y : Int) (-1) (x : Int) true true) (fun k => ?_) (Ev.step (fun k => ?_) hr)
          ·simp only [spec_runsOf.j2]; simp
          ·simp only [spec_runsOf.j3]
           rw [if_pos trivial, if_pos trivial, w64n x (by omega)]
         ·have hv := (hb hx16).symm
          rw [← h1]
          show acc ++ rowRest g y (x + 1) (x : Int) = acc ++ rowRest g y x (-1)
          unfold rowRest
          rw [if_neg (by omega), if_pos (by omega), scan_true g y x hx16 hv, endAt_step g y x hx16 hv]
        | false =>
         refine ⟨(acc, -1), fun r hr => ?_, ?_, by simp only; omega, .inl rfl⟩
         ·refine Ev.step (f := fun k => spec_runsOf.j3 k (tab g) acc (y : Int) (-1) (x : Int) false false) (fun k => ?_) (Ev.step (fun k => ?_) hr)
          ·simp only [spec_runsOf.j2]; simp
          ·simp only [spec_runsOf.j3]
           rw [if_neg (by simp), if_neg (by simp), if_neg (by omega), w64n x (by omega)]
         ·rw [← h1]
          show acc ++ rowRest g y (x + 1) (-1) = acc ++ rowRest g y x (-1)
          unfold rowRest
          rw [if_pos (by omega), if_pos (by omega)]
          by_cases c : x < 16
          ·rw [scan_false g y x c (hb c).symm]
          ·rw [scan_end g y x (by omega), scan_end g y (x + 1) (by omega)]
       ·cases b with
        | true =>
         have hx16 : x < 16 := by
          by_cases c : x = 16
          ·have := hb16 c; cases this
          ·omega
         refine ⟨(acc, fr), fun r hr => ?_, ?_, by simp only; omega, .inr (by simp only; omega)⟩
         ·refine Ev.step (f := fun k => spec_runsOf.j3 k (tab g) acc (y : Int) fr (x : Int) true false) (fun k => ?_) (Ev.step (fun k => ?_) hr)
          ·simp only [spec_runsOf.j2]
           rw [if_pos trivial, decide_eq_false (show ¬ fr < 0 by omega)]
          ·simp only [spec_runsOf.j3]
           rw [if_neg (by simp), if_pos trivial, w64n x (by omega)]
         ·have hv := (hb hx16).symm
          rw [← h1]
          show acc ++ rowRest g y (x + 1) fr = acc ++ rowRest g y x fr
          unfold rowRest
          rw [if_neg (by omega), if_neg (by omega), endAt_step g y x hx16 hv]
        | false =>
         refine ⟨(acc ++ [⟨(y : Int), fr, (x : Int)⟩], -1), fun r hr => ?_, ?_, by simp; omega, .inl rfl⟩
         ·refine Ev.step (f := fun k => spec_runsOf.j3 k (tab g) acc (y : Int) fr (x : Int) false false) (fun k => ?_) (Ev.step (fun k => ?_) hr)
          ·simp only [spec_runsOf.j2]; simp
          ·simp only [spec_runsOf.j3]
           rw [if_neg (by simp), if_neg (by simp), if_pos (by omega), if_pos (by omega), w64n x (by omega)]
         ·rw [← h1]
          show acc ++ [⟨(y : Int), fr, (x : Int)⟩] ++ rowRest g y (x + 1) (-1) = acc ++ rowRest g y x fr
          unfold rowRest
          have hst : endAt g y (16 - x) x = x := endAt_stop g y x (by
           by_cases c : x < 16
           ·right; exact (hb c).symm
           ·left; omega)
          rw [if_pos (by omega), if_neg (by omega), hst]
          simp
      by_cases hx16 : x < 16
      ·obtain ⟨s', e1, e2⟩ := j3 (g (y * 16 + x)) (fun _ => rfl) (fun c => by omega)
       refine ⟨s', fun r hr => ?_, e2, rfl⟩
       refine Ev.step (fun k => ?_) (e1 r hr)
       simp only [spec_runsOf.l1]
       have e3 : wrap64 (wrap64 ((y : Int) * 16) + (x : Int)) = ((y * 16 + x : Nat) : Int) := by
        rw [w64 (x := (y : Int) * 16) (by omega) (by omega), w64 (x := (y : Int) * 16 + (x : Int)) (by omega) (by omega)]; omega
       rw [if_pos (by omega), if_pos (by omega), e3, if_pos (by omega), tab_length, if_pos (by omega), tab_get g _ (by omega)]
      ·obtain ⟨s', e1, e2⟩ := j3 false (fun c => by omega) (fun _ => rfl)
       refine ⟨s', fun r hr => ?_, e2, rfl⟩
       refine Ev.step (fun k => ?_) (e1 r hr)
       simp only [spec_runsOf.l1]
       rw [if_pos (by omega), if_neg (by omega)])
     (by
      intro q hq
      obtain ⟨acc, fr⟩ := q
      obtain ⟨h1, h2, h3⟩ := hq
      simp only at h1 h2 h3
      have hf : fr = -1 := by omega
      subst hf
      have he : acc = runsTo g (y + 1) := by
       rw [← h1]
       unfold rowRest
       rw [if_pos (by omega), scan_end g y 17 (by omega), List.append_nil]
      refine Ev.step (fun k => ?_) (hnext acc he (by omega))
      simp only [spec_runsOf.l1]
      rw [if_neg (by omega), w64n y (by omega)])
     17 0 (s, -1) (by omega) ⟨by
      unfold rowRest
      rw [if_pos (by omega), hs.1, ← runsTo_succ], by have := hs.2; simp only; omega, .inl rfl⟩
    exact h
   have hlen : (runsTo g (y + 1)).length ≤ 17 * (y + 1) := by
    rw [runsTo_succ, List.length_append]
    have hsc : ∀ d x, 17 ≤ x + d → (scanRow g y x).length ≤ 17 - x := by
     intro d
     induction d with
     | zero => intro x hx; rw [scan_end g y x (by omega)]; simp
     | succ d ih =>
      intro x hx
      by_cases h16 : x < 16
      ·cases hv : g (y * 16 + x) with
       | true =>
        have := endAt_ge g y (16 - x) x
        rw [scan_true g y x h16 hv, List.length_cons]
        have := ih (endAt g y (16 - x) x + 1) (by omega)
        omega
       | false =>
        rw [scan_false g y x h16 hv]
        have := ih (x + 1) (by omega)
        omega
      ·rw [scan_end g y x (by omega)]; simp
    have h1 := hsc 17 0 (by omega)
    have h2 := hs.2
    rw [hs.1] at h2
    omega
   refine ⟨runsTo g (y + 1), fun r hr => ?_, ⟨rfl, hlen⟩, rfl⟩
   refine Ev.step (fun k => ?_) (inner r (fun acc ha _ => by rw [ha]; exact hr))
   simp only [spec_runsOf.l0]
   rw [if_pos (by omega)])
  (by
   intro s hs
   refine Ev.step (f := fun _ => some s) (fun k => ?_) (ev_val (Ev.now s) hs.1)
   simp only [spec_runsOf.l0]
   rw [if_neg (by omega)])
  16 0 [] (by omega) ⟨by simp [runsTo], by simp⟩
 exact key

/- Neighbours of a grid's pixels, by their numbers; a loop that fills a grid. -/

theorem gso_at (so : Nat → Nat → Bool) (p : Nat) (h : p < 256) : gso so 256 p = so (p % 16) (p / 16) := by
 unfold gso; rw [decide_eq_true h, Bool.true_and]
def rdT (g : Nat → Bool) (i : Int) : Bool := rdOf false (tab g) i
theorem rdT_nat (g : Nat → Bool) (i : Nat) (h : i < 256) : rdT g (i : Int) = g i := tab_get g i h
theorem hasP_no (g : Nat → Bool) (x y : Int) (h : x < 0 ∨ 16 ≤ x ∨ y < 0 ∨ 16 ≤ y) : hasP g x y = false := by
 rw [← Bool.not_eq_true, hasP_iff]; omega
theorem fill_ev {ρ : Type} (f : Nat → Bool) (init : Nat → Bool) (L : Nat → List Bool → Nat → Option ρ) (r : ρ)
  (step : ∀ k s p, p < 256 → s = tab (fun q => if q < p then f q else init q) → L (k + 1) s p = L k (s.set p (f p)) (p + 1))
  (last : Ev (fun k => L k (tab f) 256) r) : Ev (fun k => L k (tab init) 0) r := by
 have key := ev_up 256 (fun k p s => L k s p) (fun p s => s = tab (fun q => if q < p then f q else init q)) (fun _ _ => r)
  (by
   intro p s hp hs
   right
   refine ⟨s.set p (f p), fun k => step k s p hp hs, ?_, rfl⟩
   rw [hs, tab_set]
   apply tab_congr
   intro q _
   by_cases e : q = p
   ·subst e; rw [if_pos rfl, if_pos (by omega)]
   ·rw [if_neg e]
    by_cases h1 : q < p
    ·rw [if_pos h1, if_pos (by omega)]
    ·rw [if_neg h1, if_neg (by omega)])
  (by
   intro s hs
   have : s = tab f := by rw [hs]; exact tab_congr (fun q hq => by rw [if_pos hq])
   rw [this]; exact last)
  256 0 (tab init) (by omega) (tab_congr (fun q _ => by rw [if_neg (by omega)]))
 exact key

/- Copies of a list of Box: they are the list. -/

abbrev Box := S60

/- The reader of draws: whatever the code's bytes are, it answers, in range. -/

/-- What a reader reads from: at most 2000 bytes. -/
def Bytes (b : List Int) : Prop := b.length ≤ 2000 ∧ ∀ x ∈ b, 0 ≤ x ∧ x ≤ 255
theorem Bytes.rd_ {b : List Int} (h : Bytes b) (i : Int) : 0 ≤ rd b i ∧ rd b i ≤ 255 := by
  unfold rd
  by_cases c : i.toNat < b.length
  · rw [List.getD_eq_getElem?_getD, List.getElem?_eq_getElem c]; exact h.2 _ (List.getElem_mem c)
  · rw [List.getD_eq_getElem?_getD, List.getElem?_eq_none (by omega)]; simp
theorem xor_nn (a b : Int) (ha : 0 ≤ a) (ha' : a < 4611686018427387904) (hb : 0 ≤ b) (hb' : b < 4611686018427387904) : 0 ≤ Go.bits .xor .i64 a b := by
  obtain ⟨a, rfl⟩ := Int.eq_ofNat_of_zero_le ha
  obtain ⟨b, rfl⟩ := Int.eq_ofNat_of_zero_le hb
  have ha2 : a < 2 ^ 62 := by have : (2 : Nat) ^ 62 = 4611686018427387904 := by decide +kernel
                              omega
  have hb2 : b < 2 ^ 62 := by have : (2 : Nat) ^ 62 = 4611686018427387904 := by decide +kernel
                              omega
  have e64 : IntKind.bits .i64 = 64 := rfl
  have hx := Nat.xor_lt_two_pow ha2 hb2
  have h62 : (2 : Nat) ^ 62 = 4611686018427387904 := by decide +kernel
  have h64 : (2 : Nat) ^ 64 = 18446744073709551616 := by decide +kernel
  simp only [Go.bits, BitVec.ofInt_natCast, BitVec.toNat_xor, BitVec.toNat_ofNat, e64]
  rw [Nat.mod_eq_of_lt (by omega), Nat.mod_eq_of_lt (by omega), IntKind.wrap_i64]
  generalize a ^^^ b = z at *
  omega
theorem tmod_range (x n : Int) (hx : 0 ≤ x) (hn : 1 ≤ n) : 0 ≤ Int.tmod x n ∧ Int.tmod x n < n := by
  rw [tmod_nn _ _ hx]
  exact ⟨Int.emod_nonneg _ (by omega), Int.emod_lt_of_pos _ (by omega)⟩
theorem pick_at (b : List Int) (p n : Int) (hb : Bytes b) (hp0 : 0 ≤ p) (hp : p ≤ 1000000000000) :
    ∃ v, (∀ k, 0 < k → spec_reader_pick.f k b p n = some (v, p + 1)) ∧ 0 ≤ v ∧ (1 ≤ n → v < n) ∧ (n < 1 → v = 0) := by
  by_cases hn : n < 1
  · refine ⟨0, fun k hk => ?_, by omega, by omega, fun _ => rfl⟩
    obtain ⟨k, rfl⟩ : ∃ m, k = m + 1 := ⟨k - 1, by omega⟩
    unfold spec_reader_pick.f
    rw [if_pos hn, w64 (by omega) (by omega)]
    simp only [spec_reader_pick.j0, if_true]
  by_cases he : b.length = 0
  · refine ⟨0, fun k hk => ?_, by omega, by omega, fun _ => rfl⟩
    obtain ⟨k, rfl⟩ : ∃ m, k = m + 1 := ⟨k - 1, by omega⟩
    unfold spec_reader_pick.f
    rw [if_neg hn, w64 (by omega) (by omega)]
    simp only [spec_reader_pick.j0, he]; simp
  have hlen := hb.1
  by_cases hlt : p < (b.length : Int)
  · have hr := hb.rd_ p
    have ht := tmod_range (rd b p) n hr.1 (by omega)
    refine ⟨Int.tmod (rd b p) n, fun k hk => ?_, ht.1, fun _ => ht.2, by omega⟩
    obtain ⟨k, rfl⟩ : ∃ m, k = m + 1 := ⟨k - 1, by omega⟩
    unfold spec_reader_pick.f
    rw [if_neg hn, w64 (x := p + 1) (by omega) (by omega)]
    simp only [spec_reader_pick.j0]
    rw [if_neg (by simp only [beq_iff_eq]; omega), w64 (x := p + 1 - 1) (by omega) (by omega), show p + 1 - 1 = p by omega, if_pos hlt, if_pos hp0, if_neg (by omega), w64 (x := rd b p) (by omega) (by omega)]
  · have h1 := tmod_range p (b.length : Int) hp0 (by omega)
    have h2 := tmod_range (p * 7 + 3) (b.length : Int) (by omega) (by omega)
    have r1 := hb.rd_ (Int.tmod p (b.length : Int))
    have r2 := hb.rd_ (Int.tmod (p * 7 + 3) (b.length : Int))
    have hd : 0 ≤ Int.tdiv p (b.length : Int) ∧ Int.tdiv p (b.length : Int) ≤ p := by
      rw [tdiv_nn _ _ hp0]
      exact ⟨Int.ediv_nonneg hp0 (by omega), Int.ediv_le_self _ hp0⟩
    generalize h1e : Int.tmod p (b.length : Int) = t1 at *
    generalize h2e : Int.tmod (p * 7 + 3) (b.length : Int) = t2 at *
    generalize hde : Int.tdiv p (b.length : Int) = d at *
    generalize hr1e : rd b t1 = x1 at *
    generalize hr2e : rd b t2 = x2 at *
    have hx := xor_nn (x1 * 131 + x2 * 1117 + p * 29 + d * 53) ((x1 * 131 + x2 * 1117 + p * 29 + d * 53) / 64) (by omega) (by omega) (by omega) (by omega)
    have ht := tmod_range _ n hx (by omega)
    refine ⟨Int.tmod (Go.bits .xor .i64 (x1 * 131 + x2 * 1117 + p * 29 + d * 53) ((x1 * 131 + x2 * 1117 + p * 29 + d * 53) / 64)) n, fun k hk => ?_, ht.1, fun _ => ht.2, by omega⟩
    obtain ⟨k, rfl⟩ : ∃ m, k = m + 1 := ⟨k - 1, by omega⟩
    unfold spec_reader_pick.f
    rw [if_neg hn, w64 (x := p + 1) (by omega) (by omega)]
    simp only [spec_reader_pick.j0]
    rw [if_neg (by simp only [beq_iff_eq]; omega), w64 (x := p + 1 - 1) (by omega) (by omega), show p + 1 - 1 = p by omega, if_neg hlt, if_neg (by omega),
      w64 (x := p * 7) (by omega) (by omega), w64 (x := p * 7 + 3) (by omega) (by omega), h1e, h2e, hde, hr1e, hr2e, if_pos (by omega), if_pos (by omega), if_pos (by omega), if_pos (by omega), if_neg (by omega),
      w64 (x := x1) (by omega) (by omega), w64 (x := x2) (by omega) (by omega), w64 (x := d) (by omega) (by omega), w64 (x := x1 * 131) (by omega) (by omega), w64 (x := x2 * 1117) (by omega) (by omega), w64 (x := p * 29) (by omega) (by omega), w64 (x := d * 53) (by omega) (by omega),
      w64 (x := x1 * 131 + x2 * 1117) (by omega) (by omega), w64 (x := x1 * 131 + x2 * 1117 + p * 29) (by omega) (by omega), w64 (x := x1 * 131 + x2 * 1117 + p * 29 + d * 53) (by omega) (by omega), tdiv_nn _ 64 (by omega),
      w64 (x := (x1 * 131 + x2 * 1117 + p * 29 + d * 53) / 64) (by omega) (by omega)]
theorem one_at (b : List Int) (p : Int) (l : List Int) (hl : 0 < l.length) (hl' : l.length ≤ 1000) (hb : Bytes b) (hp0 : 0 ≤ p) (hp : p ≤ 1000000000000) :
    ∃ v, (∀ k, 0 < k → spec_reader_one.f k b p l = some (v, p + 1)) ∧ v ∈ l := by
  obtain ⟨v, hv, h0, h1, _⟩ := pick_at b p (l.length : Int) hb hp0 hp
  have h1' := h1 (by omega)
  obtain ⟨v, rfl⟩ := Int.eq_ofNat_of_zero_le h0
  refine ⟨l[v]'(by omega), fun k hk => ?_, List.getElem_mem _⟩
  unfold spec_reader_one.f
  rw [hv k hk]
  simp only [Option.bind_some]
  rw [if_pos (by omega), if_pos (by omega), rd_nat l v (by omega)]
theorem newReader_at (l : List Int) (h : ∀ x ∈ l, 0 ≤ x ∧ x ≤ 255) : ∃ b, spec_newReader.f l = some (b, 0) ∧ Bytes b := by
  unfold spec_newReader.f
  by_cases c : (l.length : Int) > 2000
  · rw [if_pos c, if_pos (by omega)]
    exact ⟨_, rfl, by rw [List.length_take]; omega, fun x hx => h x (List.mem_of_mem_take hx)⟩
  · rw [if_neg c]
    exact ⟨_, rfl, by omega, h⟩
/-- What a law is told of its code: bytes. -/
theorem code_bytes (l : List Int) (h : ∀ x ∈ l, (Lit.int .u8 x).wf = true) : ∀ x ∈ l, 0 ≤ x ∧ x ≤ 255 := by
  intro x hx
  have := h x hx
  simp only [Lit.wf, Bool.and_eq_true, decide_eq_true_eq] at this
  have e1 : IntKind.min .u8 = 0 := by decide
  have e2 : IntKind.max .u8 = 255 := by decide
  omega

/- Images that are drawn from bytes. -/

theorem one_in (b : List Int) (p : Int) (l : List Int) (hl : 0 < l.length) (hl' : l.length ≤ 1000) (hb : Bytes b) (hp0 : 0 ≤ p) (hp : p ≤ 1000000000000) : ∃ v, Ev (fun k => spec_reader_one.f k b p l) (v, p + 1) ∧ v ∈ l := by
 obtain ⟨v, h, hv⟩ := one_at b p l hl hl' hb hp0 hp
 exact ⟨v, ev_of 0 h, hv⟩
theorem pick_in (b : List Int) (p n : Int) (hn : 1 ≤ n) (hb : Bytes b) (hp0 : 0 ≤ p) (hp : p ≤ 1000000000000) : ∃ v, Ev (fun k => spec_reader_pick.f k b p n) (v, p + 1) ∧ 0 ≤ v ∧ v < n := by
 obtain ⟨v, h, h0, h1, _⟩ := pick_at b p n hb hp0 hp
 exact ⟨v, ev_of 0 h, h0, h1 hn⟩
theorem newImage_eq (w h p : Int) (hs : 1 ≤ w ∧ w ≤ 16 ∧ 1 ≤ h ∧ h ≤ 16 ∧ 1 ≤ p ∧ p ≤ 4) : spec_newImage.f w h p = some (w, h, p, List.replicate (w * h * p).toNat 0) := by
 have := shape_prod hs
 unfold spec_newImage.f
 rw [shape_wrap hs, if_pos (by omega), if_pos (by omega)]
theorem randomLoop (b : List Int) (hb : Bytes b) (m : Int) (w h p : Int) : ∀ (n i : Nat) (x pos : Int) (d : List Int), i + n = d.length → 0 ≤ pos → pos + n ≤ 1000000000000 → d.length ≤ 1000000 →
  ∃ (d' : List Int) (q : Int), d'.length = d.length ∧ pos ≤ q ∧ q ≤ pos + n ∧ Ev (fun k => spec_randomImage.l0 k m x (i : Int) b pos w h p d) (w, h, p, d', q) := by
 intro n
 induction n with
 | zero =>
  intro i x pos d hi h0 h1 h2
  refine ⟨d, pos, rfl, by omega, by omega, ?_⟩
  refine Ev.step (f := fun _ => some (w, h, p, d, pos)) (fun k => ?_) (Ev.now _)
  simp only [spec_randomImage.l0]
  rw [if_neg (by omega)]
 | succ n ih =>
  intro i x pos d hi h0 h1 h2
  have go : ∀ (v x' pos' : Int), pos ≤ pos' → pos' ≤ pos + 1 → ∃ (d' : List Int) (q : Int), d'.length = d.length ∧ pos ≤ q ∧ q ≤ pos + ((n + 1 : Nat) : Int) ∧ Ev (fun k => spec_randomImage.l0 k m x' ((i + 1 : Nat) : Int) b pos' w h p (d.set i v)) (w, h, p, d', q) := by
   intro v x' pos' a1 a2
   obtain ⟨d', q, e1, e2, e3, e4⟩ := ih (i + 1) x' pos' (d.set i v) (by rw [List.length_set]; omega) (by omega) (by omega) (by rw [List.length_set]; omega)
   exact ⟨d', q, by rw [e1, List.length_set], by omega, by omega, e4⟩
  by_cases c0 : m = 0
  ·obtain ⟨v, hv, _, _⟩ := pick_in b pos 256 (by omega) hb h0 (by omega)
   obtain ⟨d', q, e1, e2, e3, e4⟩ := go v v (pos + 1) (by omega) (by omega)
   refine ⟨d', q, e1, e2, e3, ?_⟩
   refine Ev.step (f := fun k => (spec_reader_pick.f k b pos 256).bind fun bt => if 0 ≤ (i : Int) then spec_randomImage.l0 k m bt.1 (wrap64 ((i : Int) + 1)) b bt.2 w h p (d.set (i : Int).toNat bt.1) else none) (fun k => ?_) ?_
   ·simp only [spec_randomImage.l0]
    rw [if_pos (by omega), if_pos c0]
   ·refine ev_bind hv (ev_pos (by omega) ?_)
    simp only [Int.toNat_natCast, w64n i (by omega)]
    exact e4
  ·by_cases c1 : m = 1
   ·obtain ⟨v, hv, _, _⟩ := pick_in b pos 5 (by omega) hb h0 (by omega)
    obtain ⟨d', q, e1, e2, e3, e4⟩ := go (Int.tmod (wrap64 ((wrap64 (x + v)) + 254)) 256) (Int.tmod (wrap64 ((wrap64 (x + v)) + 254)) 256) (pos + 1) (by omega) (by omega)
    refine ⟨d', q, e1, e2, e3, ?_⟩
    refine Ev.step (f := fun k => (spec_reader_pick.f k b pos 5).bind fun bt => if 0 ≤ (i : Int) then spec_randomImage.l0 k m (Int.tmod (wrap64 ((wrap64 (x + bt.1)) + 254)) 256) (wrap64 ((i : Int) + 1)) b bt.2 w h p (d.set (i : Int).toNat (Int.tmod (wrap64 ((wrap64 (x + bt.1)) + 254)) 256)) else none) (fun k => ?_) ?_
    ·simp only [spec_randomImage.l0]
     rw [if_pos (by omega), if_neg c0, if_pos c1]
    ·refine ev_bind hv (ev_pos (by omega) ?_)
     simp only [Int.toNat_natCast, w64n i (by omega)]
     exact e4
   ·by_cases c2 : m = 2
    ·obtain ⟨v, hv, _, _⟩ := pick_in b pos 4 (by omega) hb h0 (by omega)
     obtain ⟨d', q, e1, e2, e3, e4⟩ := go (wrap64 (60 * v)) (wrap64 (60 * v)) (pos + 1) (by omega) (by omega)
     refine ⟨d', q, e1, e2, e3, ?_⟩
     refine Ev.step (f := fun k => (spec_reader_pick.f k b pos 4).bind fun bt => if 0 ≤ (i : Int) then spec_randomImage.l0 k m (wrap64 (60 * bt.1)) (wrap64 ((i : Int) + 1)) b bt.2 w h p (d.set (i : Int).toNat (wrap64 (60 * bt.1))) else none) (fun k => ?_) ?_
     ·simp only [spec_randomImage.l0]
      rw [if_pos (by omega), if_neg c0, if_neg c1, if_pos c2]
     ·refine ev_bind hv (ev_pos (by omega) ?_)
      simp only [Int.toNat_natCast, w64n i (by omega)]
      exact e4
    ·obtain ⟨d', q, e1, e2, e3, e4⟩ := go x x pos (by omega) (by omega)
     refine ⟨d', q, e1, e2, e3, Ev.step (fun k => ?_) e4⟩
     simp only [spec_randomImage.l0]
     rw [if_pos (by omega), if_neg c0, if_neg c1, if_neg c2, if_pos (by omega), Int.toNat_natCast, w64n i (by omega)]
theorem randomImage_ev (b : List Int) (pos p : Int) (hb : Bytes b) (h0 : 0 ≤ pos) (h1 : pos ≤ 100000000) (hp : 1 ≤ p ∧ p ≤ 4) :
  ∃ (w h : Int) (d : List Int) (q : Int), 1 ≤ w ∧ w ≤ 8 ∧ 1 ≤ h ∧ h ≤ 8 ∧ (d.length : Int) = w * h * p ∧ 1 ≤ d.length ∧ d.length ≤ 1024 ∧ pos ≤ q ∧ q ≤ pos + 2000 ∧ Ev (fun k => spec_randomImage.f k b pos p) (w, h, p, d, q) := by
 obtain ⟨w, hw, mw⟩ := one_in b pos [3, 4, 2, 5, 1, 8, 6] (by simp) (by simp) hb h0 (by omega)
 obtain ⟨h, hh, mh⟩ := one_in b (pos + 1) [3, 2, 4, 1, 5, 8] (by simp) (by simp) hb (by omega) (by omega)
 obtain ⟨m, hm, _, _⟩ := pick_in b (pos + 1 + 1) 4 (by omega) hb (by omega) (by omega)
 obtain ⟨x, hx, _, _⟩ := pick_in b (pos + 1 + 1 + 1) 256 (by omega) hb (by omega) (by omega)
 have bw : 1 ≤ w ∧ w ≤ 8 := by simp only [List.mem_cons, List.not_mem_nil, or_false] at mw; omega
 have bh : 1 ≤ h ∧ h ≤ 8 := by simp only [List.mem_cons, List.not_mem_nil, or_false] at mh; omega
 have hs : 1 ≤ w ∧ w ≤ 16 ∧ 1 ≤ h ∧ h ≤ 16 ∧ 1 ≤ p ∧ p ≤ 4 := by omega
 have hpr := shape_prod hs
 have hpos : 1 ≤ w * h * p := by
  have e1 : 1 * 1 ≤ w * h := Int.mul_le_mul (by omega) (by omega) (by omega) (by omega)
  have e2 : 1 * 1 ≤ w * h * p := Int.mul_le_mul (by omega) (by omega) (by omega) (by omega)
  omega
 have hlen : (List.replicate (w * h * p).toNat (0 : Int)).length = (w * h * p).toNat := List.length_replicate
 obtain ⟨d', q, e1, e2, e3, e4⟩ := randomLoop b hb m w h p (w * h * p).toNat 0 x (pos + 1 + 1 + 1 + 1) (List.replicate (w * h * p).toNat 0) (by omega) (by omega) (by omega) (by omega)
 refine ⟨w, h, d', q, bw.1, bw.2, bh.1, bh.2, by omega, by omega, by omega, by omega, by omega, ?_⟩
 unfold spec_randomImage.f
 exact ev_bind hw (ev_bind hh (ev_now (newImage_eq w h p hs) (ev_bind hm (ev_bind hx e4))))
theorem anyPlanes_ev (b : List Int) (pos : Int) (hb : Bytes b) (h0 : 0 ≤ pos) (h1 : pos ≤ 100000000) : ∃ p, 1 ≤ p ∧ p ≤ 4 ∧ Ev (fun k => spec_anyPlanes.f k b pos) (p, pos + 1) := by
 obtain ⟨p, hp, mp⟩ := one_in b pos [1, 3, 1, 4, 2] (by simp) (by simp) hb h0 (by omega)
 simp only [List.mem_cons, List.not_mem_nil, or_false] at mp
 refine ⟨p, by omega, by omega, ?_⟩
 unfold spec_anyPlanes.f
 exact ev_bind hp (Ev.now _)
theorem spoilImage_ev (b : List Int) (pos : Int) (w h p : Int) (d : List Int) (hb : Bytes b) (h0 : 0 ≤ pos) (h1 : pos ≤ 100000000) (hd : 1 ≤ d.length) :
  ∃ (w' h' p' : Int) (d' : List Int) (q : Int), d'.length ≤ d.length ∧ pos ≤ q ∧ q ≤ pos + 2 ∧ Ev (fun k => spec_spoilImage.f k b pos w h p d) (w', h', p', d', q) := by
 obtain ⟨v, hv, _, _⟩ := pick_in b pos 40 (by omega) hb h0 (by omega)
 unfold spec_spoilImage.f
 by_cases c0 : v = 0
 ·obtain ⟨x, hx, _⟩ := one_in b (pos + 1) [0, 17, wrap64 (w + 1)] (by simp) (by simp) hb (by omega) (by omega)
  exact ⟨x, h, p, d, pos + 1 + 1, by omega, by omega, by omega, ev_bind hv (ev_pos c0 (ev_bind hx (Ev.now _)))⟩
 ·by_cases c1 : v = 1
  ·exact ⟨w, h, p, d.drop (1 : Int).toNat, pos + 1, by rw [List.length_drop]; omega, by omega, by omega, ev_bind hv (ev_neg c0 (ev_pos c1 (ev_pos (by omega) (Ev.now _))))⟩
  ·by_cases c2 : v = 2
   ·obtain ⟨x, hx, _⟩ := one_in b (pos + 1) [(-1), 256] (by simp) (by simp) hb (by omega) (by omega)
    exact ⟨w, h, p, d.set (0 : Int).toNat x, pos + 1 + 1, by rw [List.length_set]; omega, by omega, by omega, ev_bind hv (ev_neg c0 (ev_neg c1 (ev_pos c2 (ev_bind hx (ev_pos (by omega) (Ev.now _))))))⟩
   ·by_cases c3 : v = 3
    ·obtain ⟨x, hx, _⟩ := one_in b (pos + 1) [0, 5] (by simp) (by simp) hb (by omega) (by omega)
     exact ⟨w, h, x, d, pos + 1 + 1, by omega, by omega, by omega, ev_bind hv (ev_neg c0 (ev_neg c1 (ev_neg c2 (ev_pos c3 (ev_bind hx (Ev.now _))))))⟩
    ·exact ⟨w, h, p, d, pos + 1, by omega, by omega, by omega, ev_bind hv (ev_neg c0 (ev_neg c1 (ev_neg c2 (ev_neg c3 (Ev.now _)))))⟩
theorem anyImage_ev (b : List Int) (pos : Int) (hb : Bytes b) (h0 : 0 ≤ pos) (h1 : pos ≤ 90000000) :
  ∃ (w h p : Int) (d : List Int) (q : Int), d.length ≤ 1024 ∧ pos ≤ q ∧ q ≤ pos + 3000 ∧ Ev (fun k => spec_anyImage.f k b pos) (w, h, p, d, q) := by
 obtain ⟨p, p1, p2, hp⟩ := anyPlanes_ev b pos hb h0 (by omega)
 obtain ⟨w, h, d, q, _, _, _, _, _, d1, d2, q1, q2, hr⟩ := randomImage_ev b (pos + 1) p hb (by omega) (by omega) ⟨p1, p2⟩
 obtain ⟨w', h', p', d', q', d3, q3, q4, hs⟩ := spoilImage_ev b q w h p d hb (by omega) (by omega) d1
 refine ⟨w', h', p', d', q', by omega, by omega, by omega, ?_⟩
 unfold spec_anyImage.f
 exact ev_bind hp (ev_bind hr (ev_bind hs (Ev.now _)))

/- Two images that are drawn from bytes. -/

theorem copyI_eq (l : List Int) (hl : l.length ≤ 1000000) : spec_copyInts.f l = some l := by
 unfold spec_copyInts.f
 simp only [Option.bind_some]
 rw [if_pos (by simp; omega)]
 simp
theorem twoLoop (b : List Int) (hb : Bytes b) (w h p : Int) (d : List Int) (w' h' p' : Int) : ∀ (m : Nat) (pos : Int) (d' : List Int), 0 ≤ pos → pos + 2 * m ≤ 80000000 → m ≤ 1000 → d'.length ≤ 1024 →
  ∃ (u v s : Int) (e : List Int) (q : Int), e.length ≤ 1024 ∧ pos ≤ q ∧ q ≤ pos + 2 * m + 4000 ∧ Ev (fun k => spec_twoImages.l0 k (m : Int) b pos w h p d w' h' p' d') (w, h, p, d, u, v, s, e, q) := by
 have stop : ∀ (m : Nat) (pos : Int) (d' : List Int), 0 ≤ pos → pos ≤ 80000000 → d'.length ≤ 1024 →
   ∃ (u v s : Int) (e : List Int) (q : Int), e.length ≤ 1024 ∧ pos ≤ q ∧ q ≤ pos + 4000 ∧ Ev (fun k => spec_twoImages.j1 k (m : Int) false b pos w h p d w' h' p' d') (w, h, p, d, u, v, s, e, q) := by
  intro m pos d' h0 h1 hd
  obtain ⟨x, hx, _, _⟩ := pick_in b pos 16 (by omega) hb h0 (by omega)
  by_cases c : x = 0
  ·obtain ⟨u, v, s, e, q, he, q1, q2, hq⟩ := anyImage_ev b (pos + 1) hb (by omega) (by omega)
   refine ⟨u, v, s, e, q, he, by omega, by omega, ?_⟩
   refine Ev.step (f := fun k => (spec_reader_pick.f k b pos 16).bind fun bt => if bt.1 = 0 then ((spec_anyImage.f k b bt.2).bind fun z => some (w, h, p, d, z.1, z.2.1, z.2.2.1, z.2.2.2.1, z.2.2.2.2)) else some (w, h, p, d, w', h', p', d', bt.2)) (fun k => ?_) (ev_bind hx (ev_pos c (ev_bind hq (Ev.now _))))
   simp only [spec_twoImages.j1]
   rw [if_neg (by simp)]
  ·refine ⟨w', h', p', d', pos + 1, hd, by omega, by omega, ?_⟩
   refine Ev.step (f := fun k => (spec_reader_pick.f k b pos 16).bind fun bt => if bt.1 = 0 then ((spec_anyImage.f k b bt.2).bind fun z => some (w, h, p, d, z.1, z.2.1, z.2.2.1, z.2.2.2.1, z.2.2.2.2)) else some (w, h, p, d, w', h', p', d', bt.2)) (fun k => ?_) (ev_bind hx (ev_neg c (Ev.now _)))
   simp only [spec_twoImages.j1]
   rw [if_neg (by simp)]
 intro m
 induction m with
 | zero =>
  intro pos d' h0 h1 h2 hd
  obtain ⟨u, v, s, e, q, he, q1, q2, hq⟩ := stop 0 pos d' h0 (by omega) hd
  refine ⟨u, v, s, e, q, he, q1, by omega, Ev.step (fun k => ?_) hq⟩
  simp only [spec_twoImages.l0]
  rw [if_neg (by simp)]
 | succ m ih =>
  intro pos d' h0 h1 h2 hd
  by_cases c : (d'.length : Int) > 0
  ·obtain ⟨x, hx, x0, x1⟩ := pick_in b pos (d'.length : Int) (by omega) hb h0 (by omega)
   obtain ⟨y, hy, _, _⟩ := pick_in b (pos + 1) 256 (by omega) hb (by omega) (by omega)
   obtain ⟨u, v, s, e, q, he, q1, q2, hq⟩ := ih (pos + 1 + 1) (d'.set x.toNat y) (by omega) (by omega) (by omega) (by rw [List.length_set]; exact hd)
   refine ⟨u, v, s, e, q, he, by omega, by omega, ?_⟩
   have hj : Ev (fun k => spec_twoImages.j1 k ((m + 1 : Nat) : Int) true b pos w h p d w' h' p' d') (w, h, p, d, u, v, s, e, q) := by
    refine Ev.step (f := fun k => (spec_reader_pick.f k b pos (d'.length : Int)).bind fun bt => (spec_reader_pick.f k b bt.2 256).bind fun ct => if 0 ≤ bt.1 then (if bt.1 < (d'.length : Int) then spec_twoImages.l0 k (wrap64 (((m + 1 : Nat) : Int) - 1)) b ct.2 w h p d w' h' p' (d'.set (bt.1 : Int).toNat ct.1) else none) else none) (fun k => ?_) (ev_bind hx (ev_bind hy (ev_pos x0 (ev_pos x1 ?_))))
    ·simp only [spec_twoImages.j1]
     rw [if_pos trivial]
    ·rw [w64 (x := ((m + 1 : Nat) : Int) - 1) (by omega) (by omega), show ((m + 1 : Nat) : Int) - 1 = (m : Int) by omega]
     exact hq
   refine Ev.step (fun k => ?_) hj
   simp only [spec_twoImages.l0]
   rw [if_pos (by omega), decide_eq_true c]
  ·obtain ⟨u, v, s, e, q, he, q1, q2, hq⟩ := stop (m + 1) pos d' h0 (by omega) hd
   refine ⟨u, v, s, e, q, he, q1, by omega, Ev.step (fun k => ?_) hq⟩
   simp only [spec_twoImages.l0]
   rw [if_pos (by omega), decide_eq_false c]
theorem twoImages_ev (b : List Int) (pos : Int) (hb : Bytes b) (h0 : 0 ≤ pos) (h1 : pos ≤ 1000000) :
  ∃ (w h p : Int) (d : List Int) (w' h' p' : Int) (d' : List Int) (q : Int), d.length ≤ 1024 ∧ d'.length ≤ 1024 ∧ pos ≤ q ∧ q ≤ pos + 9000 ∧ Ev (fun k => spec_twoImages.f k b pos) (w, h, p, d, w', h', p', d', q) := by
 obtain ⟨w, h, p, d, q, hd, q1, q2, hi⟩ := anyImage_ev b pos hb h0 (by omega)
 obtain ⟨m, hm, m0, m1⟩ := pick_in b q 6 (by omega) hb (by omega) (by omega)
 obtain ⟨M, rfl⟩ := Int.eq_ofNat_of_zero_le m0
 obtain ⟨u, v, s, e, q', he, q3, q4, hl⟩ := twoLoop b hb w h p d w h p M (q + 1) d (by omega) (by omega) (by omega) hd
 refine ⟨w, h, p, d, u, v, s, e, q', hd, he, by omega, by omega, ?_⟩
 unfold spec_twoImages.f
 exact ev_bind hi (ev_now (copyI_eq d (by omega)) (ev_bind hm hl))

/- Lists of numbers and images, compared one by one. -/

theorem equalIntsC (l m : List Int) (hl : l.length ≤ 1000000) : Ev (fun k => laws_equalInts.f k l m) (decide (l = m)) := by
 unfold laws_equalInts.f
 by_cases hn : l.length = m.length
 ·have key := ev_up l.length (fun k i (_ : Unit) => laws_equalInts.l0 k l m (i : Int)) (fun _ _ => True) (fun i _ => decide (l.drop i = m.drop i))
   (by
    intro i s hi _
    have e1 := List.drop_eq_getElem_cons hi
    have e2 := List.drop_eq_getElem_cons (show i < m.length by omega)
    by_cases c : l[i] = m[i]'(by omega)
    ·refine .inr ⟨(), fun k => ?_, trivial, ?_⟩
     ·simp only [laws_equalInts.l0]
      rw [if_pos (by omega), if_pos (by omega), if_pos (by omega), rd_nat l i hi, rd_nat m i (by omega), if_pos c, w64n i (by omega)]
     ·rw [e1, e2, decide_eq_decide, List.cons.injEq]
      exact ⟨fun h => ⟨c, h⟩, fun h => h.2⟩
    ·left
     rw [e1, e2, decide_eq_false (by rw [List.cons.injEq]; exact fun h => c h.1)]
     refine Ev.step (f := fun _ => some false) (fun k => ?_) (Ev.now _)
     simp only [laws_equalInts.l0]
     rw [if_pos (by omega), if_pos (by omega), if_pos (by omega), rd_nat l i hi, rd_nat m i (by omega), if_neg c])
   (by
    intro s _
    refine Ev.step (f := fun _ => some true) (fun k => ?_) (ev_const (by rw [List.drop_length, hn, List.drop_length]; rfl))
    simp only [laws_equalInts.l0]
    rw [if_neg (by omega)])
   l.length 0 () (by omega) trivial
  exact ev_pos (by omega) (by simpa using key)
 ·refine ev_neg (by omega) ?_
  rw [decide_eq_false (fun h => hn (by rw [h]))]
  exact Ev.now _
theorem equalImage_ev (a b p : Int) (d : List Int) (a' b' p' : Int) (d' : List Int) (hl : d.length ≤ 1000000) : Ev (fun k => laws_equalImage.f k a b p d a' b' p' d') (decide (a = a' ∧ b = b' ∧ p = p' ∧ d = d')) := by
 unfold laws_equalImage.f
 by_cases c1 : a = a'
 ·refine ev_pos c1 ?_
  by_cases c2 : b = b'
  ·refine ev_pos c2 ?_
   by_cases c3 : p = p'
   ·refine ev_pos c3 ?_
    rw [decide_eq_decide.2 (show (a = a' ∧ b = b' ∧ p = p' ∧ d = d') ↔ d = d' from ⟨fun h => h.2.2.2, fun h => ⟨c1, c2, c3, h⟩⟩)]
    exact ev_bind (equalIntsC d d' hl) (Ev.now _)
   ·refine ev_neg c3 ?_
    rw [decide_eq_false (fun h => c3 h.2.2.1)]
    exact Ev.now _
  ·refine ev_neg c2 ?_
   rw [decide_eq_false (fun h => c2 h.2.1)]
   exact Ev.now _
 ·refine ev_neg c1 ?_
  rw [decide_eq_false (fun h => c1 h.1)]
  exact Ev.now _

/- A box that is drawn from bytes. -/

theorem anyBox_any (b : List Int) (pos : Int) (hB : Bytes b) (h0 : 0 ≤ pos) (h1 : pos ≤ 1000000) : ∃ (X Y W H : Int), Ev (fun k => spec_anyBox.f k b pos) (X, Y, W, H, pos + 1 + 1 + 1 + 1) := by
 obtain ⟨x0, g0, _⟩ := one_at b pos [0, 1, 2, (-1), 0, 4] (by simp) (by simp) hB (by omega) (by omega)
 obtain ⟨x1, g1, _⟩ := one_at b (pos + 1) [0, 1, 0, 2, (-1)] (by simp) (by simp) hB (by omega) (by omega)
 obtain ⟨x2, g2, _⟩ := one_at b (pos + 1 + 1) [1, 2, 3, 1, 0, 16] (by simp) (by simp) hB (by omega) (by omega)
 obtain ⟨x3, g3, _⟩ := one_at b (pos + 1 + 1 + 1) [1, 2, 1, 3, 0] (by simp) (by simp) hB (by omega) (by omega)
 refine ⟨x0, x1, x2, x3, ?_⟩
 unfold spec_anyBox.f
 exact ev_bind (ev_of 0 g0) (ev_bind (ev_of 0 g1) (ev_bind (ev_of 0 g2) (ev_bind (ev_of 0 g3) (Ev.now _))))
end Go.Proofs.Ytbgohbinonkhfaa.Pure

/- (impl.Image).at: the numbers of a pixel, in the memory of the image. -/
namespace Go.Proofs.Ytbgohbinonkhfaa.Q
open Go.RowKit Go.Proofs.YtbgohbinonkhfaaW.PrintWords Go.Proofs.YtbgohbinonkhfaaW.PrintLast Go.Proofs.YtbgohbinonkhfaaW.PrintMore
attribute [local go_sem] max2_int min2_int max_two min_two max_three min_three max_four min_four
set_option linter.unusedVariables false
set_option linter.unusedSimpArgs false
open Go.Proofs.Ytbgohbinonkhfaa.Pure

def pixT (d : List Int) (j p : Int) : List Int := (d.take (wrap64 (j + p) : Int).toNat).drop (j : Int).toNat
set_option maxHeartbeats 1600000 in
set_option maxRecDepth 100000 in
theorem at_callsX (a b p : Int) (A : Option Addr) (c n : Nat) (x y j : Int) (hc : n ≤ c) (hj : wrap64 ((wrap64 ((wrap64 (y * a)) + x)) * p) = j) (h0 : 0 ≤ j) (h1 : j ≤ wrap64 (j + p)) (h2 : wrap64 (j + p) ≤ (n : Int)) (A' : Option Addr) (hA : A' = if c = j.toNat then A else A.map (·.add (j.toNat * 1))) (w : World) :
  Calls Try.prog 59 #[.agg #[.int .i64 a, .int .i64 b, .int .i64 p, .slice A n c], .int .i64 x, .int .i64 y] w fun e w' => e = .returned (.slice A' ((wrap64 (j + p)).toNat - j.toNat) (c - j.toNat)) ∧ Below w.heap.size w w' := by
 obtain ⟨i0, hi0, _, hsz, _⟩ := info_parts info3
 have hcut := cut_mid (P := Try.prog) 22 3 .i64 .i64 Try.underlying22 hi0 1 hsz A n c j (wrap64 (j + p)) h0 h1 h2 hc
 rw [← hA] at hcut
 clear hA
 have hu := Try.underlying28
 have hjw : (IntKind.i64.wrap ((wrap64 ((wrap64 (y * a)) + x)) * p)) = j := (i64_w _).trans hj
 have d0 : decide (0 ≤ j) = true := decide_eq_true h0
 have d1 : decide (j ≤ wrap64 (j + p)) = true := decide_eq_true h1
 have d2 : decide (wrap64 (j + p) ≤ (n : Int)) = true := decide_eq_true h2
 have e0 := eq_true h0
 have e1 := eq_true h1
 have e2 := eq_true h2
 clear hi0 hsz hj
 go_enter Try.func59, Try.ntmps59
 go_wp2_with (first | ((with_reducible refine gate_dst (N := 3) rfl ?_); refine box_event ?hg (N := 3) ?hd (cs := #[.int .i64 a, .int .i64 b, .int .i64 p, .slice A n c]) (t := 28) ?hr ?_; (case hd => rfl); (case hg => rfl); (case hr => first | (go_simp; done) | (go_simp; rfl)); intro gb hg w9 hbox hb; have HB := Aside0.mk (below_step (Below.refl w.heap.size w) hb); have BK := Aside0.mk hbox; have hcz0 : w9.cell? ⟨gb, 0, none⟩ = some (.int .i64 a) := (blk_cell BK.out 0).trans rfl; have hcz1 : w9.cell? ⟨gb, 1, none⟩ = some (.int .i64 b) := (blk_cell BK.out 1).trans rfl; have hcz2 : w9.cell? ⟨gb, 2, none⟩ = some (.int .i64 p) := (blk_cell BK.out 2).trans rfl; have hcz3 : w9.cell? ⟨gb, 3, none⟩ = some (.slice A n c) := (blk_cell BK.out 3).trans rfl; clear hbox hb hg))
 go_ret
 exact ⟨rfl, HB.out⟩
theorem pixT_length (d : List Int) (j p : Int) (h2 : wrap64 (j + p) ≤ (d.length : Int)) : (pixT d j p).length = (wrap64 (j + p)).toNat - j.toNat := by
 unfold pixT
 rw [List.length_drop, List.length_take, Nat.min_eq_left (by omega)]
theorem pixT_C {w : World} {A : Option Addr} {c : Nat} {d : List Int} {j p : Int} (h : Kd.C (Kd.int .i64) w A d.length d) (hc : d.length ≤ c) (h1 : j ≤ wrap64 (j + p)) (h2 : wrap64 (j + p) ≤ (d.length : Int)) :
  Kd.C (Kd.int .i64) w (if c = j.toNat then A else A.map (·.add (j.toNat * 1))) (pixT d j p).length (pixT d j p) := Kd.C_mid h (by omega) (by omega) hc
theorem at_calls (a b p : Int) (A : Option Addr) (c : Nat) (d : List Int) (x y j : Int) (hc : d.length ≤ c) (hj : wrap64 ((wrap64 ((wrap64 (y * a)) + x)) * p) = j) (h0 : 0 ≤ j) (h1 : j ≤ wrap64 (j + p)) (h2 : wrap64 (j + p) ≤ (d.length : Int)) :
  ∃ (A' : Option Addr) (c' : Nat), (pixT d j p).length ≤ c' ∧ ∀ w : World, Kd.C (Kd.int .i64) w A d.length d → (Kd.C (Kd.int .i64) w A' (pixT d j p).length (pixT d j p) ∧
   Calls Try.prog 59 #[.agg #[.int .i64 a, .int .i64 b, .int .i64 p, .slice A d.length c], .int .i64 x, .int .i64 y] w fun e w' => e = .returned (.slice A' (pixT d j p).length c') ∧ Below w.heap.size w w') := by
 refine ⟨_, c - j.toNat, by rw [pixT_length d j p h2]; omega, fun w hr => ⟨pixT_C hr hc h1 h2, ?_⟩⟩
 rw [pixT_length d j p h2]
 exact at_callsX a b p A c d.length x y j hc hj h0 h1 h2 _ rfl w

/- impl.neighbours: the four neighbours of a pixel. -/

def nbI (x y : Int) (i : Nat) : Int × Int := match i with
 | 0 => (x - 1, y)
 | 1 => (x + 1, y)
 | 2 => (x, y - 1)
 | _ => (x, y + 1)
def nbAll (h : Int → Int → Bool) (x y : Int) : Bool := h (x - 1) y && h (x + 1) y && h x (y - 1) && h x (y + 1)
def nbAny (h : Int → Int → Bool) (x y : Int) : Bool := h (x - 1) y || h (x + 1) y || h x (y - 1) || h x (y + 1)
theorem nbAll_no {h : Int → Int → Bool} {x y : Int} (i : Nat) (hi : i < 4) (hf : h (nbI x y i).1 (nbI x y i).2 = false) : nbAll h x y = false := by
 unfold nbAll
 obtain rfl | rfl | rfl | rfl : i = 0 ∨ i = 1 ∨ i = 2 ∨ i = 3 := by omega
 all_goals (simp only [nbI] at hf; rw [hf]; simp)
theorem nbAll_yes {h : Int → Int → Bool} {x y : Int} (ha : ∀ i, i < 4 → h (nbI x y i).1 (nbI x y i).2 = true) : nbAll h x y = true := by
 unfold nbAll
 have h0 := ha 0 (by omega)
 have h1 := ha 1 (by omega)
 have h2 := ha 2 (by omega)
 have h3 := ha 3 (by omega)
 simp only [nbI] at h0 h1 h2 h3
 rw [h0, h1, h2, h3]; rfl
theorem nbAny_yes {h : Int → Int → Bool} {x y : Int} (i : Nat) (hi : i < 4) (hf : h (nbI x y i).1 (nbI x y i).2 = true) : nbAny h x y = true := by
 unfold nbAny
 obtain rfl | rfl | rfl | rfl : i = 0 ∨ i = 1 ∨ i = 2 ∨ i = 3 := by omega
 all_goals (simp only [nbI] at hf; rw [hf]; simp)
theorem nbAny_no {h : Int → Int → Bool} {x y : Int} (ha : ∀ i, i < 4 → h (nbI x y i).1 (nbI x y i).2 = false) : nbAny h x y = false := by
 unfold nbAny
 have h0 := ha 0 (by omega)
 have h1 := ha 1 (by omega)
 have h2 := ha 2 (by omega)
 have h3 := ha 3 (by omega)
 simp only [nbI] at h0 h1 h2 h3
 rw [h0, h1, h2, h3]; rfl
def nbv (x y : Int) : Value := .agg #[.int .i64 (x - 1), .int .i64 y, .int .i64 (x + 1), .int .i64 y, .int .i64 x, .int .i64 (y - 1), .int .i64 x, .int .i64 (y + 1)]

set_option maxHeartbeats 4000000 in
set_option maxRecDepth 100000 in
theorem neighbours_calls (x y : Int) (h0 : 0 ≤ x ∧ x < 16 ∧ 0 ≤ y ∧ y < 16) (w : World) :
  Calls Try.prog 98 #[.int .i64 x, .int .i64 y] w fun e w' => e = .returned (nbv x y) ∧ Below w.heap.size w w' := by
 have e1 : wrap64 (x - 1) = x - 1 := w64 (by omega) (by omega)
 have e2 : wrap64 (x + 1) = x + 1 := w64 (by omega) (by omega)
 have e3 : wrap64 (y - 1) = y - 1 := w64 (by omega) (by omega)
 have e4 : wrap64 (y + 1) = y + 1 := w64 (by omega) (by omega)
 have hB := Aside0.mk (below_alloc (Below.refl w.heap.size w) (.cells #[.int .i64 0, .int .i64 0, .int .i64 0, .int .i64 0, .int .i64 0, .int .i64 0, .int .i64 0, .int .i64 0] 104))
 clear h0
 go_enter Try.func98, Try.ntmps98
 go_wp2
 refine bodyPost_ret (results_cell_row rfl _ _ w.heap.size 104 #[.int .i64 (x - 1), .int .i64 y, .int .i64 (x + 1), .int .i64 y, .int .i64 x, .int .i64 (y - 1), .int .i64 x, .int .i64 (y + 1)] (0, 0) (.array 4 102) rfl (blk_new _ _) Try.underlying104 rfl (by kernel_rfl)) rfl ?_
 exact ⟨rfl, below_alloc (Below.refl _ _) _⟩
end Go.Proofs.Ytbgohbinonkhfaa.Q

/- (impl.grid).part: the pixels of a grid that are connected with one of its pixels. -/
namespace Go.Proofs.Ytbgohbinonkhfaa.Q
open Go.RowKit Go.Proofs.YtbgohbinonkhfaaW.PrintWords Go.Proofs.YtbgohbinonkhfaaW.PrintLast Go.Proofs.YtbgohbinonkhfaaW.PrintMore
attribute [local go_sem] max2_int min2_int max_two min_two max_three min_three max_four min_four
set_option linter.unusedVariables false
set_option linter.unusedSimpArgs false
open Go.Proofs.YtbgohbinonkhfaaW.PrintWords.Aside0 (mk)
set_option maxHeartbeats 12000000
set_option maxRecDepth 100000

def posI (q : Int × Int) : Nat := q.2.toNat * 16 + q.1.toNat
def kQ : Kd (Int × Int) := Kd.pair (Kd.int .i64) (Kd.int .i64)
def lenOf : Value → Nat
 | .slice _ n _ => n
 | _ => 0
def outOf (W : World) (B : Nat) (p : Nat) : Bool := match W.cell? ⟨B, p, none⟩ with
 | some (.bool b) => b
 | _ => false
theorem unseen_congr {o o' : Nat → Bool} (h : ∀ p, p < 256 → o p = o' p) : unseen o = unseen o' := by
 unfold unseen
 exact List.countP_congr (fun p hp => by rw [h p (by simpa using hp)])
theorem unseen_out {W : World} {B : Nat} {o : Nat → Bool} (h : GridAt W B o) : unseen (outOf W B) = unseen o := unseen_congr (fun p hp => by unfold outOf; rw [h.cell p hp])
theorem infoQ : (Try.prog.info? 102).map (fun i => (i.zero, i.size, i.bytes)) = some (some (.agg #[.int .i64 0, .int .i64 0]), 2, 16) := by kernel_rfl
theorem kQ_M (W : World) (base : Nat) (ok : Nat → Prop) (a b : Int) : kQ.M W base ok (a, b) [.int .i64 a, .int .i64 b] := ⟨[.int .i64 a], [.int .i64 b], rfl, rfl, rfl⟩
theorem yieldsP_grid {ops : Array Oper} {S : World → Prop} {op : Oper} {a : Act} (hw : Region.wanted op (yielded ops a.tmps) = true) (x : Operand) (ho : op.op = .load 75 x)
  (B : Nat) (hx : a.eval x = .pointer (some ⟨B, 0, none⟩)) (g : Nat → Bool) (hS : ∀ w, S w → GridAt w B g) : YieldsIf Try.prog ops S op (.agg (gc g)) a :=
 .inl ⟨hw, fun w hw' => by
  unfold execOp
  simp only [ho, hx, Instr.loadAt, Instr.sureAddr, Sem.run_bind, Sem.run_pure, Result.andThen_ok, run_loadVar_row w B 75 75 (gc g) (0, 0) (.array 16 73) (hS w hw') underlying66 rfl (by rw [gc_size]; exact info66)]⟩
theorem yieldsP_int {ops : Array Oper} {S : World → Prop} {op : Oper} {a : Act} (hw : Region.wanted op (yielded ops a.tmps) = true) (x : Operand) (ho : op.op = .load 3 x)
  (ad : Addr) (hx : a.eval x = .pointer (some ad)) (v : Int) (hS : ∀ w, S w → w.cell? ad = some (.int .i64 v)) : YieldsIf Try.prog ops S op (.int .i64 v) a :=
 .inl ⟨hw, fun w hw' => by
  have h := hS w hw'
  unfold execOp
  simp only [ho, hx]
  go_simp⟩
theorem yieldsP_bool {ops : Array Oper} {S : World → Prop} {op : Oper} {a : Act} (hw : Region.wanted op (yielded ops a.tmps) = true) (x : Operand) (ho : op.op = .load 4 x)
  (ad : Addr) (hx : a.eval x = .pointer (some ad)) (v : Bool) (hS : ∀ w, S w → w.cell? ad = some (.bool v)) : YieldsIf Try.prog ops S op (.bool v) a :=
 .inl ⟨hw, fun w hw' => by
  have h := hS w hw'
  unfold execOp
  simp only [ho, hx]
  go_simp⟩
theorem setRow_keepP {W : World} {k g : Nat} {o : Obj} (h : W.heap[k]? = some o) (cs : Array Value) (hk : k ≠ g) : (W.setRow g cs).heap[k]? = some o := (setRow_other W g k cs hk).trans h
def nbList (F : Nat → Int × Int) : List (Int × Int) := [F 0, F 1, F 2, F 3]
theorem nbList_drop (F : Nat → Int × Int) (i : Nat) (h : i < 4) : (nbList F).drop i = ((F i).1, (F i).2) :: (nbList F).drop (i + 1) := by
 obtain rfl | rfl | rfl | rfl : i = 0 ∨ i = 1 ∨ i = 2 ∨ i = 3 := by omega
 all_goals rfl
theorem nb_mem (x y : Int) (p r : Nat) (hx : x = ((p % 16 : Nat) : Int)) (hy : y = ((p / 16 : Nat) : Int)) (hp : p < 256) (hr : r < 256) (ha : Adj p r) : (((r % 16 : Nat) : Int), ((r / 16 : Nat) : Int)) ∈ nbList (nbI x y) := by
 have := adj_nb p r hp hr ha
 subst hx hy
 unfold nbList nbI
 simp only [List.mem_cons, Prod.mk.injEq]
 rcases this with h | h | h | h
 ·exact .inl h
 ·exact .inr (.inl h)
 ·exact .inr (.inr (.inl h))
 exact .inr (.inr (.inr (.inl h)))
theorem nb_near (x y : Int) (p i : Nat) (hx : x = ((p % 16 : Nat) : Int)) (hy : y = ((p / 16 : Nat) : Int)) (hp : p < 256) (hi : i < 4) (h0 : 0 ≤ (nbI x y i).1) (h1 : (nbI x y i).1 < 16) (h2 : 0 ≤ (nbI x y i).2) (h3 : (nbI x y i).2 < 16) :
  Adj p ((nbI x y i).2.toNat * 16 + (nbI x y i).1.toNat) := by
 subst hx hy
 refine nb_adj p hp _ _ h0 h1 h2 h3 ?_
 obtain rfl | rfl | rfl | rfl : i = 0 ∨ i = 1 ∨ i = 2 ∨ i = 3 := by omega
 ·exact .inl ⟨rfl, rfl⟩
 ·exact .inr (.inl ⟨rfl, rfl⟩)
 ·exact .inr (.inr (.inl ⟨rfl, rfl⟩))
 exact .inr (.inr (.inr ⟨rfl, rfl⟩))

theorem part_calls (g : Nat → Bool) (x y : Nat) (hx : x < 16) (hy : y < 16) (w : World) :
  Calls Try.prog 70 #[.agg (gc g), .int .i64 (x : Int), .int .i64 (y : Int)] w fun e w' => e = .returned (.agg (gc (comp g (y * 16 + x)))) ∧ Below w.heap.size w w' := by
 have z0 := zero66
 have HSZ := mk (fun g g' : Nat → Bool => show (gc g).size = (gc g').size by rw [gc_size, gc_size])
 have HO := mk (fun g : Nat → Bool => gc_one g)
 have HI := mk (fun g : Nat → Bool => show (Try.prog.info? 75).map (·.size) = some (gc g).size by rw [gc_size]; exact info66)
 go_enter Try.func70, Try.ntmps70
 have hz2 : (((w.alloc (.cells (gc g) 75)).alloc (.cells (gc fun _ => false) 75)).alloc (.cells (gc fun _ => false) 75)).heap[w.heap.size + 2]? = some (.cells (gc fun _ => false) 75 (0, 0)) := by
  have h := GridAt.new ((w.alloc (.cells (gc g) 75)).alloc (.cells (gc fun _ => false) 75)) (fun _ => false)
  simp only [World.size_alloc] at h
  exact h
 have HZ1 := mk (GridAt.alloc (GridAt.new (w.alloc (.cells (gc g) 75)) (fun _ => false)) (.cells (gc fun _ => false) 75))
 simp only [World.size_alloc] at HZ1
 have HZG := mk (GridAt.alloc (GridAt.alloc (GridAt.new w g) (.cells (gc fun _ => false) 75)) (.cells (gc fun _ => false) 75))
 have HBa := mk (below_alloc (below_alloc (below_alloc (Below.refl w.heap.size w) (.cells (gc g) 75)) (.cells (gc fun _ => false) 75)) (.cells (gc fun _ => false) 75))
 have HS := mk (GridAt.setRow (g := fun _ => false) hz2 (fun _ => false))
 have hcc := HS.out.cell (y * 16 + x) (by omega)
 have hcf := HS.out.free (y * 16 + x)
 have HS2 := mk (HS.out.set_ (y * 16 + x) true)
 have HS1 := mk (blk_far (setRow_keepP HZ1.out (gc fun _ => false) (show w.heap.size + 1 ≠ w.heap.size + 2 by omega)) (show w.heap.size + 1 ≠ (⟨w.heap.size + 2, y * 16 + x, none⟩ : Addr).block by simp) (.bool true))
 have HSG := mk (blk_far (setRow_keepP HZG.out (gc fun _ => false) (show w.heap.size ≠ w.heap.size + 2 by omega)) (show w.heap.size ≠ (⟨w.heap.size + 2, y * 16 + x, none⟩ : Addr).block by simp) (.bool true))
 have HBs := mk (below_set (g := w.heap.size + 2) (j := y * 16 + x) (v := .bool true) (below_setRow (g := w.heap.size + 2) HBa.out (by omega) (gc fun _ => false)) (by omega))
 have HZ2 := mk hz2
 clear hz2 HS HZ1 HZG HBa
 go_wp2_with (first | ((with_reducible refine wpList_store_row rfl 75 (.tmp 7) (.tmp 12) rfl (w.heap.size + 2) (gc fun _ => false) ?hx ?hy 75 (gc fun _ => false) HZ2.out (HI.out _) (HSZ.out _ _) (HO.out _) ?_); (case hx => rfl); (case hy => rfl)) | ((with_reducible refine gate_dst (N := 20) rfl ?_); refine Kd.R_lit kQ w.heap.size 102 ?hg (N := 20) ?hd (xs := [((x : Int), (y : Int))]) (inner := [.int .i64 (x : Int), .int .i64 (y : Int)]) (ok := fun _ => True) (okp := fun _ => True) ?hr ?hp (fun _ hk => hk) trivial HBs.out HBs.out.size (by simp) ?_; (case hd => rfl); (case hg => rfl); (case hr => (go_simp; done)); (case hp => exact Reps.snoc (Reps.none _ _) (kQ_M _ _ _ _ _) rfl); intro v20 W0 ho hb hg_ hnew_; have HQ0 := mk (Kd.Q_of_R ho); have HB0 := mk hb; have HG0 : Aside0 (GridAt W0 w.heap.size g) := mk (blk_grown HSG.out hg_ (by simp)); have HZ0 : Aside0 (GridAt W0 (w.heap.size + 1) (fun _ => false)) := mk (blk_grown HS1.out hg_ (by simp)); have HX0 := mk (blk_grown HS2.out hg_ (by simp)); clear ho hb hg_ hnew_))
 have hinit : (fun p => if p = y * 16 + x then true else false) = fun q => decide (q = y * 16 + x) := by
  funext p
  by_cases e : p = y * 16 + x
  ·rw [if_pos e, decide_eq_true e]
  rw [if_neg e, decide_eq_false e]
 have HM0 := mk (mid_init g (y * 16 + x) (by omega))
 rw [← hinit] at HM0
 have HU0 : unseen (fun p => if p = y * 16 + x then true else false) + 1 = 256 := by
  have h := unseen_set (fun _ => false) (y * 16 + x) (by omega) rfl
  have h2 : unseen (fun _ => false) = 256 := by simp [unseen]
  rw [h2] at h
  exact h
 clear hinit
 go_loopw [8] (fun v8 W => ∃ (out : Nat → Bool) (qs : List (Int × Int)) (p0 : Nat), Aside0 (kQ.Q 102 W w.heap.size (fun _ => True) v8 qs ∧ GridAt W w.heap.size g ∧ GridAt W (w.heap.size + 1) (fun _ => false) ∧ GridAt W (w.heap.size + 2) out ∧ Below w.heap.size w W) ∧ Aside0 (Mid g (y * 16 + x) out (qs.map posI) p0 [] ∧ (∀ q ∈ qs, 0 ≤ q.1 ∧ q.1 < 16 ∧ 0 ≤ q.2 ∧ q.2 < 16) ∧ qs.length + unseen out ≤ 256)) (fun v8 W => 2 * unseen (outOf W (w.heap.size + 2)) + lenOf v8)
 case atStart =>
  refine ⟨_, _, y * 16 + x, ⟨HQ0.out, HG0.out, HZ0.out, HX0.out, HB0.out⟩, ⟨HM0.out, ?_, ?_⟩⟩
  ·intro q hq
   rw [List.mem_singleton] at hq
   subst hq
   simp only
   omega
  simp only [List.length_singleton]; omega
 case round =>
  obtain ⟨out, qs, p0, HW, HM⟩ := hrel
  clear HM0 HU0 HQ0 HB0 HG0 HZ0 HX0 HBs HSG HS1 HS2 HZ2 hcc hcf
  obtain ⟨wo, rfl⟩ : ∃ wo : World, wo = wr := ⟨_, rfl⟩
  have HMS := mk (unseen_out HW.out.2.2.2.1)
  obtain ⟨A, c, rfl, hcl, hC⟩ := Kd.Q_reads HW.out.1
  cases qs with
  | nil =>
   have hgo : wo.heap[w.heap.size + 2]? = some (.cells (gc out) 75 (0, 0)) := HW.out.2.2.2.1
   have hgz : wo.heap[w.heap.size + 1]? = some (.cells (gc fun _ => false) 75 (0, 0)) := HW.out.2.2.1
   have hend := mid_end (g := g) (s := y * 16 + x) (by omega) HM.out.1
   have HE := mk (gc_congr hend)
   clear hend hC hcl
   go_wp2_with (first | ((with_reducible refine gate_dst (N := 64) rfl ?_); refine wpList_load_row rfl 75 (.tmp 7) rfl (w.heap.size + 2) rfl 75 (gc out) (0, 0) (.array 16 73) hgo underlying66 rfl (HI.out _) ?_) | ((with_reducible refine wpList_store_row rfl 75 (.tmp 6) (.tmp 64) rfl (w.heap.size + 1) (gc out) ?hx ?hy 75 (gc fun _ => false) hgz (HI.out _) (HSZ.out _ _) (HO.out _) ?_); (case hx => rfl); (case hy => rfl)))
   refine bodyPost_ret (results_cell_row rfl _ _ (w.heap.size + 1) 75 (gc out) (0, 0) (.array 16 73) rfl (GridAt.setRow (g := fun _ => false) hgz out) underlying66 rfl (HI.out _)) rfl ?_
   exact ⟨by rw [HE.out], below_setRow HW.out.2.2.2.2 (Nat.le_succ _) _⟩
  | cons q0 rest =>
   obtain ⟨x0, y0⟩ := q0
   have hr := HM.out.2.1 (x0, y0) (by simp)
   simp only at hr
   obtain ⟨x0, rfl⟩ := Int.eq_ofNat_of_zero_le hr.1
   obtain ⟨y0, rfl⟩ := Int.eq_ofNat_of_zero_le hr.2.2.1
   have hx0 : x0 < 16 := by omega
   have hy0 : y0 < 16 := by omega
   clear hr
   obtain ⟨ad, hA, hrd⟩ := hC.2.2 (by simp)
   subst hA
   obtain ⟨cs, hcs, ⟨c0, c1, hcc, hk0, hk1⟩, hat⟩ := hrd 0 ((x0 : Int), (y0 : Int)) rfl
   have hk0' : c0 = [.int .i64 (x0 : Int)] := hk0
   have hk1' : c1 = [.int .i64 (y0 : Int)] := hk1
   subst hk0' hk1' hcc
   have ha0 := hat 0 _ rfl
   have ha1 := hat 1 _ rfl
   clear hat hrd hC hk0 hk1 hcs
   have hb0 : wo.cell? ad = some (.int .i64 (x0 : Int)) := by
    have e : ad.add (0 * kQ.sz + 0) = ad := by show ad.add 0 = ad; simp [Addr.add]
    rw [e] at ha0; exact ha0
   have hb1 : wo.cell? ⟨ad.block, ad.off + 1, none⟩ = some (.int .i64 (y0 : Int)) := by
    have e : ad.add (0 * kQ.sz + 1) = ⟨ad.block, ad.off + 1, none⟩ := by
     show ad.add 1 = _
     have h := add_field ad 0 1 (by omega)
     rw [Nat.zero_add] at h
     rw [h]; simp [Addr.add]
    rw [e] at ha1; exact ha1
   have hb2 : wo.cell? (ad.add 1) = some (.int .i64 (y0 : Int)) := ha1
   clear ha0 ha1
   obtain ⟨i0, hi0, _, hsz0, _⟩ := info_parts infoQ
   have hcut := cut_from (P := Try.prog) 103 102 .i64 Try.underlying103 hi0 2 hsz0 (some ad) (((x0 : Int), (y0 : Int)) :: rest).length c 1 (by omega) (by simp; omega)
   have hdrop := Kd.Q_drop (k := 1) HW.out.1 (by simp)
   obtain ⟨A1, hA1⟩ : ∃ A1, A1 = (if c = 1 then (some ad : Option Addr) else (some ad : Option Addr).map (·.add (1 * 2))) := ⟨_, rfl⟩
   obtain ⟨c1, hc1⟩ : ∃ c1, c1 = c - 1 := ⟨_, rfl⟩
   rw [show (1 : Int).toNat = 1 from rfl, ← hA1, ← hc1] at hcut
   have hdrop' : kQ.Q 102 wo w.heap.size (fun _ => True) (.slice A1 ((((x0 : Int), (y0 : Int)) :: rest).length - 1) c1) rest := by
    rw [hA1, hc1]; exact hdrop
   have HQ1 := mk hdrop'
   clear hdrop hdrop' hA1 hc1 hi0 hsz0
   have hl1 : (((x0 : Int), (y0 : Int)) :: rest).length - 1 = rest.length := by simp
   rw [hl1] at hcut HQ1
   have HN := mk (neighbours_calls (x0 : Int) (y0 : Int) (by omega))
   obtain ⟨n, hn⟩ : ∃ n, n = (((x0 : Int), (y0 : Int)) :: rest).length := ⟨_, rfl⟩
   rw [← hn] at hcut hcl ⊢
   have hnr : n = rest.length + 1 := by rw [hn]; simp
   have hnp : decide ((0 : Int) < (n : Int)) = true := by simp; omega
   have hn0 : (0 : Int) < (n : Int) := by omega
   clear hl1 hn
   have HBN := mk (below_alloc (Below.refl wo.heap.size wo) (.cells #[.int .i64 (x0 : Int), .int .i64 (y0 : Int)] 102))
   have HCUT := mk hcut
   clear hcut
   go_wp2_with (first | ((with_reducible refine gate_dst (N := 28) rfl ?_); refine Kd.event_run (v := .slice A1 rest.length c1) (w1 := wo.alloc (.cells #[.int .i64 (x0 : Int), .int .i64 (y0 : Int)] 102)) rfl ?hr ?_; (case hr => (have hc_ := HCUT.out (wo.alloc (.cells #[.int .i64 (x0 : Int), .int .i64 (y0 : Int)] 102)); simp [execOp, Act.eval, Instr.sliceAt, Result.andThen, hc_]))) | (go_at_call 98; refine (HN.out _).mono ?_; rintro e w1 ⟨rfl, hb1⟩; have HB1 := mk (below_then HBN.out HBN.out.size hb1); clear hb1))
   have HW1 := mk (show kQ.Q 102 w1 w.heap.size (fun _ => True) (.slice A1 rest.length c1) rest ∧ GridAt w1 w.heap.size g ∧ GridAt w1 (w.heap.size + 1) (fun _ => false) ∧ GridAt w1 (w.heap.size + 2) out ∧ Below w.heap.size w w1 from
    ⟨Kd.Q_below HQ1.out HB1.out, HW.out.2.1.below HB1.out, HW.out.2.2.1.below HB1.out, HW.out.2.2.2.1.below HB1.out, below_then HW.out.2.2.2.2 HW.out.2.2.2.2.size HB1.out⟩)
   have hpe : posI ((x0 : Int), (y0 : Int)) = y0 * 16 + x0 := by simp [posI]
   have hpx : (x0 : Int) = (((y0 * 16 + x0) % 16 : Nat) : Int) := by omega
   have hpy : (y0 : Int) = (((y0 * 16 + x0) / 16 : Nat) : Int) := by omega
   have HM1 := mk (show Mid g (y * 16 + x) out (rest.map posI) (y0 * 16 + x0) (nbList (nbI (x0 : Int) (y0 : Int))) from
    mid_pop HM.out.1 (p := y0 * 16 + x0) (by rw [List.map_cons, hpe]; simp) (fun q hq => by rw [List.map_cons, hpe, List.mem_cons] at hq; exact hq) (fun q hq => by rw [List.map_cons]; exact List.mem_cons_of_mem _ hq)
     (fun r hr ha => nb_mem _ _ _ r hpx hpy (by omega) hr ha))
   have HNR := mk (fun i (hi : i < 4) => nb_near (x0 : Int) (y0 : Int) (y0 * 16 + x0) i hpx hpy (by omega) hi)
   have HR1 := mk (show (∀ q ∈ rest, 0 ≤ q.1 ∧ q.1 < 16 ∧ 0 ≤ q.2 ∧ q.2 < 16) ∧ rest.length + unseen out ≤ 256 from ⟨fun q hq => HM.out.2.1 q (List.mem_cons_of_mem _ hq), by have := HM.out.2.2; rw [List.length_cons] at this; omega⟩)
   clear hpe hpx hpy hb0 hb1 hb2 HQ1 HBN HCUT HN
   obtain ⟨U, hU⟩ : ∃ U, U = 2 * unseen out + n := ⟨_, rfl⟩
   have HUB := mk (show 2 * unseen out + rest.length < U by omega)
   have HUE := mk hU
   clear hU
   unfold nbv
   go_loopw [8, 34] (fun v8 v34 W => ∃ (out' : Nat → Bool) (qs' : List (Int × Int)) (i : Nat), v34 = .int .i64 i ∧ i ≤ 4 ∧ Aside0 (kQ.Q 102 W w.heap.size (fun _ => True) v8 qs' ∧ GridAt W w.heap.size g ∧ GridAt W (w.heap.size + 1) (fun _ => false) ∧ GridAt W (w.heap.size + 2) out' ∧ Below w.heap.size w W) ∧
    Aside0 (Mid g (y * 16 + x) out' (qs'.map posI) (y0 * 16 + x0) ((nbList (nbI (x0 : Int) (y0 : Int))).drop i) ∧ (∀ q ∈ qs', 0 ≤ q.1 ∧ q.1 < 16 ∧ 0 ≤ q.2 ∧ q.2 < 16) ∧ qs'.length + unseen out' ≤ 256 ∧ 2 * unseen out' + qs'.length < U)) (fun _ v34 _ => 4 - (intOf v34).toNat)
   case atStart => exact ⟨out, rest, 0, rfl, by omega, HW1, ⟨HM1.out, HR1.out.1, HR1.out.2, HUB.out⟩⟩
   case round =>
    obtain ⟨out', qs', i, rfl, hi, HV, HT⟩ := hrel
    clear HW1 HM1 HR1 HUB HB1
    obtain ⟨wi, rfl⟩ : ∃ wi : World, wi = wr := ⟨_, rfl⟩
    by_cases h4 : i < 4
    ·have hd : decide ((i : Int) < 4) = true := by simp; omega
     have HNE := mk (HNR.out i h4)
     have HDR := mk (nbList_drop (nbI (x0 : Int) (y0 : Int)) i h4)
     obtain ⟨nx, hnx⟩ : ∃ z, z = (nbI (x0 : Int) (y0 : Int) i).1 := ⟨_, rfl⟩
     obtain ⟨ny, hny⟩ : ∃ z, z = (nbI (x0 : Int) (y0 : Int) i).2 := ⟨_, rfl⟩
     have HRUN := mk hnx
     have HRUN2 := mk hny
     rw [← hnx, ← hny] at HDR HNE
     clear hnx hny
     have HM2 := mk (show Mid g (y * 16 + x) out' (qs'.map posI) (y0 * 16 + x0) ((nx, ny) :: (nbList (nbI (x0 : Int) (y0 : Int))).drop (i + 1)) from by have h := HT.out.1; rw [HDR.out] at h; exact h)
     have HBL := mk (blk_new wi (.cells #[.int .i64 nx, .int .i64 ny] 102))
     have HGG := mk (GridAt.alloc HV.out.2.1 (.cells #[.int .i64 nx, .int .i64 ny] 102))
     have HGO := mk (GridAt.alloc HV.out.2.2.2.1 (.cells #[.int .i64 nx, .int .i64 ny] 102))
     cases hv : hasP g nx ny with
     | false =>
      have HSK := mk (mid_skip HM2.out (.inl hv))
      go_wp2_with (first
       | ((with_reducible refine gate_dst (N := 36) rfl ?_); refine Kd.event_run (v := .agg #[.int .i64 nx, .int .i64 ny]) (w1 := wi) rfl ?hr ?_; (case hr => (rw [HRUN.out, HRUN2.out]; (obtain e | e | e | e : i = 0 ∨ i = 1 ∨ i = 2 ∨ i = 3 := by omega); all_goals (subst e; kernel_rfl)))))
      refine wp_region_held_drew (S := fun W => Aside0 (Below (wi.alloc (.cells #[.int .i64 nx, .int .i64 ny] 102)).heap.size (wi.alloc (.cells #[.int .i64 nx, .int .i64 ny] 102)) W)) (by kernel_rfl) ⟨below_drew (Below.refl _ _)⟩ (fun hH => ?_)
      obtain ⟨W3, hW3⟩ : ∃ W, W = (wi.alloc (.cells #[.int .i64 nx, .int .i64 ny] 102)).drew := ⟨_, rfl⟩
      rw [← hW3] at hH ⊢
      clear hW3
      refine wpAnyH_take (i := 0) rfl (by kernel_rfl) (by kernel_rfl) (by kernel_rfl) (fun _ _ _ h => h) (yieldsP_grid (by kernel_rfl) _ rfl w.heap.size rfl g (fun W hW => GridAt.below HGG.out hW.out)) hH ?_
      simp only [bool_to_prop]
      refine wpAnyH_take (i := 1) (v := .pointer (some ⟨wi.heap.size, 0, none⟩)) rfl (by kernel_rfl) (by kernel_rfl) (by kernel_rfl) (fun _ _ _ h => h) (.inl ⟨by kernel_rfl, fun W hW => by (go_simp; done)⟩) hH ?_
      simp only [bool_to_prop]
      refine wpAnyH_take (i := 2) rfl (by kernel_rfl) (by kernel_rfl) (by kernel_rfl) (fun _ _ _ h => h) (yieldsP_int (by kernel_rfl) _ rfl ⟨wi.heap.size, 0, none⟩ rfl nx (fun W hW => (blk_cell (blk_below HBL.out hW.out) 0).trans rfl)) hH ?_
      simp only [bool_to_prop]
      refine wpAnyH_take (i := 3) (v := .pointer (some ⟨wi.heap.size, 1, none⟩)) rfl (by kernel_rfl) (by kernel_rfl) (by kernel_rfl) (fun _ _ _ h => h) (.inl ⟨by kernel_rfl, fun W hW => by (go_simp; done)⟩) hH ?_
      simp only [bool_to_prop]
      refine wpAnyH_take (i := 4) rfl (by kernel_rfl) (by kernel_rfl) (by kernel_rfl) (fun _ _ _ h => h) (yieldsP_int (by kernel_rfl) _ rfl ⟨wi.heap.size, 1, none⟩ rfl ny (fun W hW => (blk_cell (blk_below HBL.out hW.out) 1).trans rfl)) hH ?_
      simp only [bool_to_prop]
      refine wpAnyH_ready (rs := [5]) (by kernel_rfl) (by simp) ?_
      refine AllReadyH.cons (i := 5) rfl ?_ AllReadyH.nil
      intro K hK
      rw [if_pos (by rfl)]
      go_simp
      go_wp2_with (first | (go_at_call 58; refine (has_calls _ _ _ _).mono ?_; rintro e W4 ⟨rfl, hb⟩))
      refine hK.out _ _ ⟨below_then hH.out hH.out.size hb⟩ (fun hH1 => ?_)
      clear hK K hb hH
      have hH := hH1
      clear hH1
      try rw [hv]
      try simp only [bool_to_prop]
      refine wpAnyH_take (i := 6) (v := .bool false) rfl (by kernel_rfl) (by kernel_rfl) (by kernel_rfl) (fun _ _ _ h => h) (.inl ⟨by kernel_rfl, fun W hW => by (go_simp; done)⟩) hH ?_
      simp only [bool_to_prop]
      refine wpAnyH_take (i := 7) (v := undef) rfl (by kernel_rfl) (by kernel_rfl) (by kernel_rfl) (fun _ _ _ h => h) (.inr ⟨by kernel_rfl, rfl⟩) hH ?_
      simp only [bool_to_prop]
      refine wpAnyH_take (i := 8) (v := undef) rfl (by kernel_rfl) (by kernel_rfl) (by kernel_rfl) (fun _ _ _ h => h) (.inr ⟨by kernel_rfl, rfl⟩) hH ?_
      simp only [bool_to_prop]
      refine wpAnyH_take (i := 9) (v := undef) rfl (by kernel_rfl) (by kernel_rfl) (by kernel_rfl) (fun _ _ _ h => h) (.inr ⟨by kernel_rfl, rfl⟩) hH ?_
      simp only [bool_to_prop]
      refine wpAnyH_take (i := 10) (v := undef) rfl (by kernel_rfl) (by kernel_rfl) (by kernel_rfl) (fun _ _ _ h => h) (.inr ⟨by kernel_rfl, rfl⟩) hH ?_
      simp only [bool_to_prop]
      refine wpAnyH_take (i := 11) (v := undef) rfl (by kernel_rfl) (by kernel_rfl) (by kernel_rfl) (fun _ _ _ h => h) (.inr ⟨by kernel_rfl, rfl⟩) hH ?_
      simp only [bool_to_prop]
      refine wpAnyH_take (i := 12) (v := undef) rfl (by kernel_rfl) (by kernel_rfl) (by kernel_rfl) (fun _ _ _ h => h) (.inr ⟨by kernel_rfl, rfl⟩) hH ?_
      simp only [bool_to_prop]
      refine wpAnyH_take (i := 13) (v := undef) rfl (by kernel_rfl) (by kernel_rfl) (by kernel_rfl) (fun _ _ _ h => h) (.inr ⟨by kernel_rfl, rfl⟩) hH ?_
      simp only [bool_to_prop]
      refine wpAnyH_take (i := 14) (v := undef) rfl (by kernel_rfl) (by kernel_rfl) (by kernel_rfl) (fun _ _ _ h => h) (.inr ⟨by kernel_rfl, rfl⟩) hH ?_
      simp only [bool_to_prop]
      refine wpAnyH_take (i := 15) (v := .bool false) rfl (by kernel_rfl) (by kernel_rfl) (by kernel_rfl) (fun _ _ _ h => h) (.inl ⟨by kernel_rfl, fun W hW => by (go_simp; done)⟩) hH ?_
      simp only [bool_to_prop]
      refine wpAnyH_done (by kernel_rfl) ?_ _
      go_wp2
      go_roundw
      case rel => exact ⟨out', qs', i + 1, by go_num, by omega, ⟨Kd.Q_below (Kd.Q_alloc HV.out.1 _) hH.out, (HV.out.2.1.alloc _).below hH.out, (HV.out.2.2.1.alloc _).below hH.out, (HV.out.2.2.2.1.alloc _).below hH.out, below_then (below_alloc HV.out.2.2.2.2 _) (below_alloc HV.out.2.2.2.2 _).size hH.out⟩, ⟨HSK.out, HT.out.2.1, HT.out.2.2.1, HT.out.2.2.2⟩⟩
      case measure => simp [intOf]; omega
     | true =>
      have hq := (hasP_iff g nx ny).1 hv
      obtain ⟨mx_, rfl⟩ := Int.eq_ofNat_of_zero_le hq.1
      obtain ⟨my, rfl⟩ := Int.eq_ofNat_of_zero_le hq.2.2.1
      have hmx : mx_ < 16 := by omega
      have hmy : my < 16 := by omega
      have HAD := mk (HNE.out (by omega) (by omega) (by omega) (by omega))
      rw [Int.toNat_natCast, Int.toNat_natCast] at HAD
      clear hq
      cases ho : out' (my * 16 + mx_) with
      | true =>
       have HSK := mk (mid_skip HM2.out (.inr (by rw [Int.toNat_natCast, Int.toNat_natCast]; exact ho)))
       go_wp2_with (first
        | ((with_reducible refine gate_dst (N := 36) rfl ?_); refine Kd.event_run (v := .agg #[.int .i64 (mx_ : Int), .int .i64 (my : Int)]) (w1 := wi) rfl ?hr ?_; (case hr => (rw [HRUN.out, HRUN2.out]; (obtain e | e | e | e : i = 0 ∨ i = 1 ∨ i = 2 ∨ i = 3 := by omega); all_goals (subst e; kernel_rfl)))))
       refine wp_region_held_drew (S := fun W => Aside0 (Below (wi.alloc (.cells #[.int .i64 (mx_ : Int), .int .i64 (my : Int)] 102)).heap.size (wi.alloc (.cells #[.int .i64 (mx_ : Int), .int .i64 (my : Int)] 102)) W)) (by kernel_rfl) ⟨below_drew (Below.refl _ _)⟩ (fun hH => ?_)
       obtain ⟨W3, hW3⟩ : ∃ W, W = (wi.alloc (.cells #[.int .i64 (mx_ : Int), .int .i64 (my : Int)] 102)).drew := ⟨_, rfl⟩
       rw [← hW3] at hH ⊢
       clear hW3
       refine wpAnyH_take (i := 0) rfl (by kernel_rfl) (by kernel_rfl) (by kernel_rfl) (fun _ _ _ h => h) (yieldsP_grid (by kernel_rfl) _ rfl w.heap.size rfl g (fun W hW => GridAt.below HGG.out hW.out)) hH ?_
       simp only [bool_to_prop]
       refine wpAnyH_take (i := 1) (v := .pointer (some ⟨wi.heap.size, 0, none⟩)) rfl (by kernel_rfl) (by kernel_rfl) (by kernel_rfl) (fun _ _ _ h => h) (.inl ⟨by kernel_rfl, fun W hW => by (go_simp; done)⟩) hH ?_
       simp only [bool_to_prop]
       refine wpAnyH_take (i := 2) rfl (by kernel_rfl) (by kernel_rfl) (by kernel_rfl) (fun _ _ _ h => h) (yieldsP_int (by kernel_rfl) _ rfl ⟨wi.heap.size, 0, none⟩ rfl (mx_ : Int) (fun W hW => (blk_cell (blk_below HBL.out hW.out) 0).trans rfl)) hH ?_
       simp only [bool_to_prop]
       refine wpAnyH_take (i := 3) (v := .pointer (some ⟨wi.heap.size, 1, none⟩)) rfl (by kernel_rfl) (by kernel_rfl) (by kernel_rfl) (fun _ _ _ h => h) (.inl ⟨by kernel_rfl, fun W hW => by (go_simp; done)⟩) hH ?_
       simp only [bool_to_prop]
       refine wpAnyH_take (i := 4) rfl (by kernel_rfl) (by kernel_rfl) (by kernel_rfl) (fun _ _ _ h => h) (yieldsP_int (by kernel_rfl) _ rfl ⟨wi.heap.size, 1, none⟩ rfl (my : Int) (fun W hW => (blk_cell (blk_below HBL.out hW.out) 1).trans rfl)) hH ?_
       simp only [bool_to_prop]
       refine wpAnyH_ready (rs := [5]) (by kernel_rfl) (by simp) ?_
       refine AllReadyH.cons (i := 5) rfl ?_ AllReadyH.nil
       intro K hK
       rw [if_pos (by rfl)]
       go_simp
       go_wp2_with (first | (go_at_call 58; refine (has_calls _ _ _ _).mono ?_; rintro e W4 ⟨rfl, hb⟩))
       refine hK.out _ _ ⟨below_then hH.out hH.out.size hb⟩ (fun hH1 => ?_)
       clear hK K hb hH
       have hH := hH1
       clear hH1
       try rw [hv]
       try simp only [bool_to_prop]
       refine wpAnyH_take (i := 6) (v := .bool true) rfl (by kernel_rfl) (by kernel_rfl) (by kernel_rfl) (fun _ _ _ h => h) (.inl ⟨by kernel_rfl, fun W hW => by (go_simp; done)⟩) hH ?_
       simp only [bool_to_prop]
       refine wpAnyH_take (i := 7) (v := .pointer (some ⟨wi.heap.size, 1, none⟩)) rfl (by kernel_rfl) (by kernel_rfl) (by kernel_rfl) (fun _ _ _ h => h) (.inl ⟨by kernel_rfl, fun W hW => by (go_simp; done)⟩) hH ?_
       simp only [bool_to_prop]
       refine wpAnyH_take (i := 8) rfl (by kernel_rfl) (by kernel_rfl) (by kernel_rfl) (fun _ _ _ h => h) (yieldsP_int (by kernel_rfl) _ rfl ⟨wi.heap.size, 1, none⟩ rfl (my : Int) (fun W hW => (blk_cell (blk_below HBL.out hW.out) 1).trans rfl)) hH ?_
       simp only [bool_to_prop]
       refine wpAnyH_take (i := 9) (v := .pointer (some ⟨wi.heap.size, 0, none⟩)) rfl (by kernel_rfl) (by kernel_rfl) (by kernel_rfl) (fun _ _ _ h => h) (.inl ⟨by kernel_rfl, fun W hW => by (go_simp; done)⟩) hH ?_
       simp only [bool_to_prop]
       refine wpAnyH_take (i := 10) rfl (by kernel_rfl) (by kernel_rfl) (by kernel_rfl) (fun _ _ _ h => h) (yieldsP_int (by kernel_rfl) _ rfl ⟨wi.heap.size, 0, none⟩ rfl (mx_ : Int) (fun W hW => (blk_cell (blk_below HBL.out hW.out) 0).trans rfl)) hH ?_
       simp only [bool_to_prop]
       refine wpAnyH_take (i := 11) (v := .pointer (some ⟨w.heap.size + 1 + 1, my * 16, none⟩)) rfl (by kernel_rfl) (by kernel_rfl) (by kernel_rfl) (fun _ _ _ h => h) (.inl ⟨by kernel_rfl, fun W hW => by (go_simp; intro h_; omega)⟩) hH ?_
       simp only [bool_to_prop]
       refine wpAnyH_take (i := 12) (v := .pointer (some ⟨w.heap.size + 1 + 1, my * 16 + mx_, none⟩)) rfl (by kernel_rfl) (by kernel_rfl) (by kernel_rfl) (fun _ _ _ h => h) (.inl ⟨by kernel_rfl, fun W hW => by (go_simp; intro h_; omega)⟩) hH ?_
       simp only [bool_to_prop]
       refine wpAnyH_take (i := 13) rfl (by kernel_rfl) (by kernel_rfl) (by kernel_rfl) (fun _ _ _ h => h) (yieldsP_bool (by kernel_rfl) _ rfl ⟨w.heap.size + 1 + 1, my * 16 + mx_, none⟩ rfl true (fun W hW => (GridAt.cell (GridAt.below HGO.out hW.out) (my * 16 + mx_) (by omega)).trans (by rw [ho]))) hH ?_
       simp only [bool_to_prop]
       refine wpAnyH_take (i := 14) (v := .bool (!true)) rfl (by kernel_rfl) (by kernel_rfl) (by kernel_rfl) (fun _ _ _ h => h) (.inl ⟨by kernel_rfl, fun W hW => by (go_simp; done)⟩) hH ?_
       simp only [bool_to_prop]
       refine wpAnyH_take (i := 15) (v := .bool (!true)) rfl (by kernel_rfl) (by kernel_rfl) (by kernel_rfl) (fun _ _ _ h => h) (.inl ⟨by kernel_rfl, fun W hW => by (go_simp; done)⟩) hH ?_
       simp only [bool_to_prop]
       refine wpAnyH_done (by kernel_rfl) ?_ _
       go_wp2
       go_roundw
       case rel => exact ⟨out', qs', i + 1, by go_num, by omega, ⟨Kd.Q_below (Kd.Q_alloc HV.out.1 _) hH.out, (HV.out.2.1.alloc _).below hH.out, (HV.out.2.2.1.alloc _).below hH.out, (HV.out.2.2.2.1.alloc _).below hH.out, below_then (below_alloc HV.out.2.2.2.2 _) (below_alloc HV.out.2.2.2.2 _).size hH.out⟩, ⟨HSK.out, HT.out.2.1, HT.out.2.2.1, HT.out.2.2.2⟩⟩
       case measure => simp [intOf]; omega
      | false =>
       go_wp2_with (first
        | ((with_reducible refine gate_dst (N := 36) rfl ?_); refine Kd.event_run (v := .agg #[.int .i64 (mx_ : Int), .int .i64 (my : Int)]) (w1 := wi) rfl ?hr ?_; (case hr => (rw [HRUN.out, HRUN2.out]; (obtain e | e | e | e : i = 0 ∨ i = 1 ∨ i = 2 ∨ i = 3 := by omega); all_goals (subst e; kernel_rfl)))))
       refine wp_region_held_drew (S := fun W => Aside0 (Below (wi.alloc (.cells #[.int .i64 (mx_ : Int), .int .i64 (my : Int)] 102)).heap.size (wi.alloc (.cells #[.int .i64 (mx_ : Int), .int .i64 (my : Int)] 102)) W)) (by kernel_rfl) ⟨below_drew (Below.refl _ _)⟩ (fun hH => ?_)
       obtain ⟨W3, hW3⟩ : ∃ W, W = (wi.alloc (.cells #[.int .i64 (mx_ : Int), .int .i64 (my : Int)] 102)).drew := ⟨_, rfl⟩
       rw [← hW3] at hH ⊢
       clear hW3
       refine wpAnyH_take (i := 0) rfl (by kernel_rfl) (by kernel_rfl) (by kernel_rfl) (fun _ _ _ h => h) (yieldsP_grid (by kernel_rfl) _ rfl w.heap.size rfl g (fun W hW => GridAt.below HGG.out hW.out)) hH ?_
       simp only [bool_to_prop]
       refine wpAnyH_take (i := 1) (v := .pointer (some ⟨wi.heap.size, 0, none⟩)) rfl (by kernel_rfl) (by kernel_rfl) (by kernel_rfl) (fun _ _ _ h => h) (.inl ⟨by kernel_rfl, fun W hW => by (go_simp; done)⟩) hH ?_
       simp only [bool_to_prop]
       refine wpAnyH_take (i := 2) rfl (by kernel_rfl) (by kernel_rfl) (by kernel_rfl) (fun _ _ _ h => h) (yieldsP_int (by kernel_rfl) _ rfl ⟨wi.heap.size, 0, none⟩ rfl (mx_ : Int) (fun W hW => (blk_cell (blk_below HBL.out hW.out) 0).trans rfl)) hH ?_
       simp only [bool_to_prop]
       refine wpAnyH_take (i := 3) (v := .pointer (some ⟨wi.heap.size, 1, none⟩)) rfl (by kernel_rfl) (by kernel_rfl) (by kernel_rfl) (fun _ _ _ h => h) (.inl ⟨by kernel_rfl, fun W hW => by (go_simp; done)⟩) hH ?_
       simp only [bool_to_prop]
       refine wpAnyH_take (i := 4) rfl (by kernel_rfl) (by kernel_rfl) (by kernel_rfl) (fun _ _ _ h => h) (yieldsP_int (by kernel_rfl) _ rfl ⟨wi.heap.size, 1, none⟩ rfl (my : Int) (fun W hW => (blk_cell (blk_below HBL.out hW.out) 1).trans rfl)) hH ?_
       simp only [bool_to_prop]
       refine wpAnyH_ready (rs := [5]) (by kernel_rfl) (by simp) ?_
       refine AllReadyH.cons (i := 5) rfl ?_ AllReadyH.nil
       intro K hK
       rw [if_pos (by rfl)]
       go_simp
       go_wp2_with (first | (go_at_call 58; refine (has_calls _ _ _ _).mono ?_; rintro e W4 ⟨rfl, hb⟩))
       refine hK.out _ _ ⟨below_then hH.out hH.out.size hb⟩ (fun hH1 => ?_)
       clear hK K hb hH
       have hH := hH1
       clear hH1
       try rw [hv]
       try simp only [bool_to_prop]
       refine wpAnyH_take (i := 6) (v := .bool true) rfl (by kernel_rfl) (by kernel_rfl) (by kernel_rfl) (fun _ _ _ h => h) (.inl ⟨by kernel_rfl, fun W hW => by (go_simp; done)⟩) hH ?_
       simp only [bool_to_prop]
       refine wpAnyH_take (i := 7) (v := .pointer (some ⟨wi.heap.size, 1, none⟩)) rfl (by kernel_rfl) (by kernel_rfl) (by kernel_rfl) (fun _ _ _ h => h) (.inl ⟨by kernel_rfl, fun W hW => by (go_simp; done)⟩) hH ?_
       simp only [bool_to_prop]
       refine wpAnyH_take (i := 8) rfl (by kernel_rfl) (by kernel_rfl) (by kernel_rfl) (fun _ _ _ h => h) (yieldsP_int (by kernel_rfl) _ rfl ⟨wi.heap.size, 1, none⟩ rfl (my : Int) (fun W hW => (blk_cell (blk_below HBL.out hW.out) 1).trans rfl)) hH ?_
       simp only [bool_to_prop]
       refine wpAnyH_take (i := 9) (v := .pointer (some ⟨wi.heap.size, 0, none⟩)) rfl (by kernel_rfl) (by kernel_rfl) (by kernel_rfl) (fun _ _ _ h => h) (.inl ⟨by kernel_rfl, fun W hW => by (go_simp; done)⟩) hH ?_
       simp only [bool_to_prop]
       refine wpAnyH_take (i := 10) rfl (by kernel_rfl) (by kernel_rfl) (by kernel_rfl) (fun _ _ _ h => h) (yieldsP_int (by kernel_rfl) _ rfl ⟨wi.heap.size, 0, none⟩ rfl (mx_ : Int) (fun W hW => (blk_cell (blk_below HBL.out hW.out) 0).trans rfl)) hH ?_
       simp only [bool_to_prop]
       refine wpAnyH_take (i := 11) (v := .pointer (some ⟨w.heap.size + 1 + 1, my * 16, none⟩)) rfl (by kernel_rfl) (by kernel_rfl) (by kernel_rfl) (fun _ _ _ h => h) (.inl ⟨by kernel_rfl, fun W hW => by (go_simp; intro h_; omega)⟩) hH ?_
       simp only [bool_to_prop]
       refine wpAnyH_take (i := 12) (v := .pointer (some ⟨w.heap.size + 1 + 1, my * 16 + mx_, none⟩)) rfl (by kernel_rfl) (by kernel_rfl) (by kernel_rfl) (fun _ _ _ h => h) (.inl ⟨by kernel_rfl, fun W hW => by (go_simp; intro h_; omega)⟩) hH ?_
       simp only [bool_to_prop]
       refine wpAnyH_take (i := 13) rfl (by kernel_rfl) (by kernel_rfl) (by kernel_rfl) (fun _ _ _ h => h) (yieldsP_bool (by kernel_rfl) _ rfl ⟨w.heap.size + 1 + 1, my * 16 + mx_, none⟩ rfl false (fun W hW => (GridAt.cell (GridAt.below HGO.out hW.out) (my * 16 + mx_) (by omega)).trans (by rw [ho]))) hH ?_
       simp only [bool_to_prop]
       refine wpAnyH_take (i := 14) (v := .bool (!false)) rfl (by kernel_rfl) (by kernel_rfl) (by kernel_rfl) (fun _ _ _ h => h) (.inl ⟨by kernel_rfl, fun W hW => by (go_simp; done)⟩) hH ?_
       simp only [bool_to_prop]
       refine wpAnyH_take (i := 15) (v := .bool (!false)) rfl (by kernel_rfl) (by kernel_rfl) (by kernel_rfl) (fun _ _ _ h => h) (.inl ⟨by kernel_rfl, fun W hW => by (go_simp; done)⟩) hH ?_
       simp only [bool_to_prop]
       refine wpAnyH_done (by kernel_rfl) ?_ _
       go_upto_region 11 with (fail)
       have hq1 := (blk_cell (blk_below HBL.out hH.out) 0).trans (show (#[.int .i64 (mx_ : Int), .int .i64 (my : Int)] : Array Value)[0]? = some (.int .i64 (mx_ : Int)) from rfl)
       have hq2 := (blk_cell (blk_below HBL.out hH.out) 1).trans (show (#[.int .i64 (mx_ : Int), .int .i64 (my : Int)] : Array Value)[1]? = some (.int .i64 (my : Int)) from rfl)
       have HQ4 := mk (Kd.Q_below (Kd.Q_alloc HV.out.1 (.cells #[.int .i64 (mx_ : Int), .int .i64 (my : Int)] 102)) hH.out)
       have HG4 := mk (GridAt.below HGG.out hH.out)
       have HO4 := mk (GridAt.below HGO.out hH.out)
       have HZ4 := mk (GridAt.below (GridAt.alloc HV.out.2.2.1 (.cells #[.int .i64 (mx_ : Int), .int .i64 (my : Int)] 102)) hH.out)
       have HB4 := mk (below_then (below_alloc HV.out.2.2.2.2 (.cells #[.int .i64 (mx_ : Int), .int .i64 (my : Int)] 102)) (below_alloc HV.out.2.2.2.2 _).size hH.out)
       have hwi : w.heap.size + 2 < wi.heap.size := GridAt.lt HV.out.2.2.2.1
       clear hH
       refine wp_region_held_drew (S := fun W => Aside0 (W.cell? ⟨wi.heap.size, 0, none⟩ = some (.int .i64 (mx_ : Int)) ∧ W.cell? ⟨wi.heap.size, 1, none⟩ = some (.int .i64 (my : Int)))) (by kernel_rfl) ⟨hq1, hq2⟩ (fun hH => ?_)
       obtain ⟨W5, hW5⟩ : ∃ W, W = W4.drew := ⟨_, rfl⟩
       rw [← hW5] at hH ⊢
       have HQ5 : Aside0 (kQ.Q 102 W5 w.heap.size (fun _ => True) u8 qs') := mk (by rw [hW5]; exact Kd.Q_drew HQ4.out)
       have HG5 : Aside0 (W5.heap[w.heap.size]? = some (.cells (gc g) 75 (0, 0))) := mk (by rw [hW5]; exact HG4.out)
       have HZ5 : Aside0 (W5.heap[w.heap.size + 1]? = some (.cells (gc fun _ => false) 75 (0, 0))) := mk (by rw [hW5]; exact HZ4.out)
       have HO5 : Aside0 (GridAt W5 (w.heap.size + 2) out') := mk (by rw [hW5]; exact HO4.out)
       have HB5 : Aside0 (Below w.heap.size w W5) := mk (by rw [hW5]; exact below_drew HB4.out)
       clear hW5 hq1 hq2 HQ4 HG4 HZ4 HO4 HB4
       refine wpAnyH_take (i := 0) (v := .pointer (some ⟨wi.heap.size, 1, none⟩)) rfl (by kernel_rfl) (by kernel_rfl) (by kernel_rfl) (fun _ _ _ h => h) (.inl ⟨by kernel_rfl, fun W hW => by (go_simp; done)⟩) hH ?_
       simp only [bool_to_prop]
       refine wpAnyH_take (i := 1) rfl (by kernel_rfl) (by kernel_rfl) (by kernel_rfl) (fun _ _ _ h => h) (yieldsP_int (by kernel_rfl) _ rfl ⟨wi.heap.size, 1, none⟩ rfl (my : Int) (fun W hW => hW.out.2)) hH ?_
       simp only [bool_to_prop]
       refine wpAnyH_take (i := 2) (v := .pointer (some ⟨wi.heap.size, 0, none⟩)) rfl (by kernel_rfl) (by kernel_rfl) (by kernel_rfl) (fun _ _ _ h => h) (.inl ⟨by kernel_rfl, fun W hW => by (go_simp; done)⟩) hH ?_
       simp only [bool_to_prop]
       refine wpAnyH_take (i := 3) rfl (by kernel_rfl) (by kernel_rfl) (by kernel_rfl) (fun _ _ _ h => h) (yieldsP_int (by kernel_rfl) _ rfl ⟨wi.heap.size, 0, none⟩ rfl (mx_ : Int) (fun W hW => hW.out.1)) hH ?_
       simp only [bool_to_prop]
       refine wpAnyH_take (i := 4) (v := .pointer (some ⟨w.heap.size + 1 + 1, my * 16, none⟩)) rfl (by kernel_rfl) (by kernel_rfl) (by kernel_rfl) (fun _ _ _ h => h) (.inl ⟨by kernel_rfl, fun W hW => by (go_simp; intro h_; omega)⟩) hH ?_
       simp only [bool_to_prop]
       refine wpAnyH_take (i := 5) (v := .pointer (some ⟨w.heap.size + 1 + 1, my * 16 + mx_, none⟩)) rfl (by kernel_rfl) (by kernel_rfl) (by kernel_rfl) (fun _ _ _ h => h) (.inl ⟨by kernel_rfl, fun W hW => by (go_simp; intro h_; omega)⟩) hH ?_
       simp only [bool_to_prop]
       have hco := HO5.out.cell (my * 16 + mx_) (by omega)
       have hcf := HO5.out.free (my * 16 + mx_)
       refine wpAnyH_ready (rs := [6]) (by kernel_rfl) (by simp) ?_
       refine AllReadyH.cons (i := 6) rfl ?_ AllReadyH.nil
       intro K hK
       rw [if_pos (by rfl)]
       go_simp
       have HQ6 := mk (Kd.Q_set HQ5.out HO5.out (by decide) (my * 16 + mx_) (.bool true))
       have HG6 := mk (blk_far HG5.out (show w.heap.size ≠ (⟨w.heap.size + 2, my * 16 + mx_, none⟩ : Addr).block by simp) (.bool true))
       have HZ6 := mk (blk_far HZ5.out (show w.heap.size + 1 ≠ (⟨w.heap.size + 2, my * 16 + mx_, none⟩ : Addr).block by simp) (.bool true))
       have HO6 : Aside0 ((W5.setCell ⟨w.heap.size + 2, my * 16 + mx_, none⟩ (.bool true)).heap[w.heap.size + 2]? = some (.cells (gc fun p => if p = my * 16 + mx_ then true else out' p) 75 (0, 0))) := mk (HO5.out.set_ (my * 16 + mx_) true)
       have HB6 := mk (below_set (g := w.heap.size + 2) (j := my * 16 + mx_) (v := .bool true) HB5.out (by omega))
       have hH1 : Aside0 ((W5.setCell ⟨w.heap.size + 2, my * 16 + mx_, none⟩ (.bool true)).cell? ⟨wi.heap.size, 0, none⟩ = some (.int .i64 (mx_ : Int)) ∧ (W5.setCell ⟨w.heap.size + 2, my * 16 + mx_, none⟩ (.bool true)).cell? ⟨wi.heap.size, 1, none⟩ = some (.int .i64 (my : Int))) := ⟨(World.cell?_setCell_far W5 _ _ _ (by show w.heap.size + 2 ≠ wi.heap.size; omega)).trans hH.out.1, (World.cell?_setCell_far W5 _ _ _ (by show w.heap.size + 2 ≠ wi.heap.size; omega)).trans hH.out.2⟩
       refine hK.out _ _ hH1 (fun _ => ?_)
       clear hK K hH hco hcf
       obtain ⟨W6, hW6⟩ : ∃ W, W = W5.setCell ⟨w.heap.size + 2, my * 16 + mx_, none⟩ (.bool true) := ⟨_, rfl⟩
       have hW6' : W5.setCell ⟨w.heap.size + 1 + 1, my * 16 + mx_, none⟩ (.bool true) = W6 := hW6.symm
       rw [← hW6] at HQ6 HG6 HZ6 HO6 HB6 hH1
       (rw [hW6'])
       clear hW6 hW6'
       have hq1 := hH1.out.1
       have hq2 := hH1.out.2
       try simp only [bool_to_prop]
       refine wpAnyH_done (by kernel_rfl) ?_ _
       have hpz : my * 16 + mx_ < 256 := by omega
       have HPU := mk (mid_push (todo' := (qs' ++ [((mx_ : Int), (my : Int))]).map posI) HM2.out hv (by rw [Int.toNat_natCast, Int.toNat_natCast]; exact HAD.out) (fun q hq => by rw [List.map_append, List.mem_append] at hq; rcases hq with hq | hq; exact .inr hq; left; simpa [posI] using hq) (fun q hq => by rw [List.map_append, List.mem_append]; exact .inl hq) (by rw [List.map_append, List.mem_append]; right; simp [posI]))
       rw [Int.toNat_natCast, Int.toNat_natCast] at HPU
       have HUN := mk (unseen_set out' (my * 16 + mx_) hpz ho)
       clear hpz ho
       go_wp2_with (first
        | ((with_reducible refine gate_builtin (b := .append) (xs := #[.tmp 59, .tmp 61]) rfl ?_); at_builtin; refine Kd.Q_append kQ (w0 := w) w.heap.size rfl (.tmp 59) (.tmp 61) 103 102 (.agg #[.int .i64 0, .int .i64 0]) 16 rfl Try.underlying103 infoQ rfl (by decide) (by omega) u8 qs' ((mx_ : Int), (my : Int)) [.int .i64 (mx_ : Int), .int .i64 (my : Int)] (fun _ => True) (fun _ => False) rfl ?aX ?aP (fun _ hk => hk.elim) (fun _ _ => trivial) HQ6.out HB6.out HB6.out.size ?aL ?_; (case aX => rfl); (case aP => exact kQ_M _ _ _ _ _); (case aL => (have hl_ := HT.out.2.2.1; omega)); intro v7 W7 ho hb hg hat; have HQ7 := mk ho; have HB7 := mk hb; have HG7 : Aside0 (GridAt W7 w.heap.size g) := mk (blk_grown HG6.out hg (Kd.Q_ne HQ6.out HG6.out (by decide))); have HZ7 : Aside0 (GridAt W7 (w.heap.size + 1) (fun _ => false)) := mk (blk_grown HZ6.out hg (Kd.Q_ne HQ6.out HZ6.out (by decide))); have HO7 : Aside0 (GridAt W7 (w.heap.size + 2) (fun p => if p = my * 16 + mx_ then true else out' p)) := mk (blk_grown HO6.out hg (Kd.Q_ne HQ6.out HO6.out (by decide))); clear ho hb hg hat))
       go_roundw
       case rel => exact ⟨_, qs' ++ [((mx_ : Int), (my : Int))], i + 1, by go_num, by omega, ⟨HQ7.out, HG7.out, HZ7.out, HO7.out, HB7.out⟩, ⟨HPU.out, fun q hq => by
        rcases List.mem_append.1 hq with hq | hq
        ·exact HT.out.2.1 q hq
        rw [List.mem_singleton] at hq; subst hq; simp only; omega, by have h1 := HUN.out; have h2 := HT.out.2.2.1; rw [List.length_append, List.length_singleton]; omega, by have h1 := HUN.out; have h2 := HT.out.2.2.2; rw [List.length_append, List.length_singleton]; omega⟩⟩
       case measure => simp [intOf]; omega
    have hi4 : i = 4 := by omega
    subst hi4
    go_wp2
    go_roundw
    case rel => exact ⟨out', qs', y0 * 16 + x0, HV, ⟨HT.out.1, HT.out.2.1, HT.out.2.2.1⟩⟩
    case measure =>
     obtain ⟨A2, c2, e2, _⟩ := Kd.Q_slice HV.out.1
     have h1 := unseen_out HV.out.2.2.2.1
     have h2 := HMS.out
     have h3 := HT.out.2.2.2
     have h5 := HUE.out
     subst e2
     show 2 * unseen (outOf wi (w.heap.size + 2)) + qs'.length < 2 * unseen (outOf wo (w.heap.size + 2)) + n
     rw [h1, h2]
     omega
end Go.Proofs.Ytbgohbinonkhfaa.Q
