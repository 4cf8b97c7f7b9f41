/- A part of the proof that the statement FnExactCoverImageSaid holds, under no condition of its own: The program's CoverImage and the reference's return the same, and what is returned is held by nobody else: over lists of numbers alone. -/
import Derived.Test.YtnofkbbcbpjhfaaCFnExactCoverImage1
import Derived.Shelf.Abstract
import Derived.Deep.WholeRow
import Derived.Deep.RegionWith
import Derived.OrdersHeld
import Derived.Deep.RegionHeld
import Derived.RegionTactic
namespace Go.Proofs.Ytnofkbbcbpjhfaa.Q
open Go.RowKit Go.Proofs.YtnofkbbcbpjhfaaW.PrintWords Go.Proofs.YtnofkbbcbpjhfaaW.PrintLast Go.Proofs.YtnofkbbcbpjhfaaW.PrintMore
attribute [local go_sem] max2_int min2_int max_two min_two max_three min_three max_four min_four
set_option linter.unusedVariables false
set_option linter.unusedSimpArgs false
def spec_CoverImage.j0 : Nat → Bool → Int → Int → Int → List Int → Int → Int → Int → List Int → Int → Int → Int → Int → Bool → Option (Int × Int × Int × List Int × Bool)
  | 0, _, _, _, _, _, _, _, _, _, _, _, _, _, _ => none
  | k + 1, x16, x61002000, x61002001, x61002002, x61002003, x61003000, x61003001, x61003002, x61003003, x61003004, x61003005, x61003006, x61003007, x61003008 => if x16 = true then (some (0, 0, 0, ([] : List Int), false)) else ((spec_copyImage.f x61002000 x61002001 x61002002 x61002003).bind fun bt61006 => ((spec_blendPaste.f k bt61006.1 bt61006.2.1 bt61006.2.2.1 bt61006.2.2.2 x61003000 x61003001 x61003002 x61003003 x61003004 x61003005 x61003006 x61003007 x61003008).bind fun t61013 => (some (bt61006.1, bt61006.2.1, bt61006.2.2.1, t61013, true))))
def spec_CoverImage.f (k : Nat) (a0_0 : Int) (a0_1 : Int) (a0_2 : Int) (l0_3 : List Int) (a1_0 : Int) (a1_1 : Int) (a1_2 : Int) (l1_3 : List Int) (a1_4 : Int) (a1_5 : Int) (a1_6 : Int) (a1_7 : Int) (a1_8 : Bool) : Option (Int × Int × Int × List Int × Bool) := (spec_validImage.f k a0_0 a0_1 a0_2 l0_3).bind fun t61004 => (if t61004 = true then ((spec_validLayer.f k a1_0 a1_1 a1_2 l1_3 a1_4 a1_5 a1_6 a1_7 a1_8 a0_2).bind fun t61005 => (spec_CoverImage.j0 k (!t61005) a0_0 a0_1 a0_2 l0_3 a1_0 a1_1 a1_2 l1_3 a1_4 a1_5 a1_6 a1_7 a1_8)) else (spec_CoverImage.j0 k true a0_0 a0_1 a0_2 l0_3 a1_0 a1_1 a1_2 l1_3 a1_4 a1_5 a1_6 a1_7 a1_8))
theorem spec_CoverImage.mono_l : ∀ k, (∀ y0 y1 y2 y3 y4 y5 y6 y7 y8 y9 y10 y11 y12 y13, LeO (spec_CoverImage.j0 k y0 y1 y2 y3 y4 y5 y6 y7 y8 y9 y10 y11 y12 y13) (spec_CoverImage.j0 (k + 1) y0 y1 y2 y3 y4 y5 y6 y7 y8 y9 y10 y11 y12 y13))
  | 0 => fun _ _ _ _ _ _ _ _ _ _ _ _ _ _ r h => by simp [spec_CoverImage.j0] at h
  | k + 1 => by
    have ih0 := spec_CoverImage.mono_l k
    · intro y0 y1 y2 y3 y4 y5 y6 y7 y8 y9 y10 y11 y12 y13
      unfold spec_CoverImage.j0
      repeat' first
      | (with_reducible exact ih0 _ _ _ _ _ _ _ _ _ _ _ _ _ _)
      | (with_reducible exact spec_blendPaste.mono _ _ _ _ _ _ _ _ _ _ _ _ _ _)
      | (with_reducible exact spec_validImage.mono _ _ _ _ _)
      | (with_reducible exact spec_validLayer.mono _ _ _ _ _ _ _ _ _ _ _)
      | (with_reducible exact LeO.refl _)
      | (with_reducible exact LeO.none _)
      | (with_reducible refine LeO.ite ?_ ?_)
      | (with_reducible refine LeO.bind ?_ (fun _ => ?_))
      | exact ih0 _ _ _ _ _ _ _ _ _ _ _ _ _ _
      | exact spec_blendPaste.mono _ _ _ _ _ _ _ _ _ _ _ _ _ _
      | exact spec_validImage.mono _ _ _ _ _
      | exact spec_validLayer.mono _ _ _ _ _ _ _ _ _ _ _
      | exact LeO.none _
      | refine LeO.ite ?_ ?_
      | refine LeO.bind ?_ (fun _ => ?_)
theorem spec_CoverImage.mono : ∀ a0 a1 a2 a3 a4 a5 a6 a7 a8 a9 a10 a11 a12 k, LeO (spec_CoverImage.f k a0 a1 a2 a3 a4 a5 a6 a7 a8 a9 a10 a11 a12) (spec_CoverImage.f (k + 1) a0 a1 a2 a3 a4 a5 a6 a7 a8 a9 a10 a11 a12) := by
  intro a0 a1 a2 a3 a4 a5 a6 a7 a8 a9 a10 a11 a12 k
  have ih0 := spec_CoverImage.mono_l k
  unfold spec_CoverImage.f
  repeat' first
      | (with_reducible exact ih0 _ _ _ _ _ _ _ _ _ _ _ _ _ _)
      | (with_reducible exact spec_blendPaste.mono _ _ _ _ _ _ _ _ _ _ _ _ _ _)
      | (with_reducible exact spec_validImage.mono _ _ _ _ _)
      | (with_reducible exact spec_validLayer.mono _ _ _ _ _ _ _ _ _ _ _)
      | (with_reducible exact LeO.refl _)
      | (with_reducible exact LeO.none _)
      | (with_reducible refine LeO.ite ?_ ?_)
      | (with_reducible refine LeO.bind ?_ (fun _ => ?_))
      | exact ih0 _ _ _ _ _ _ _ _ _ _ _ _ _ _
      | exact spec_blendPaste.mono _ _ _ _ _ _ _ _ _ _ _ _ _ _
      | exact spec_validImage.mono _ _ _ _ _
      | exact spec_validLayer.mono _ _ _ _ _ _ _ _ _ _ _
      | exact LeO.none _
      | refine LeO.ite ?_ ?_
      | refine LeO.bind ?_ (fun _ => ?_)
set_option maxHeartbeats 8000000 in
set_option maxRecDepth 100000 in
theorem spec_CoverImage.calls (k : Nat) (a0_0 : Int) (a0_1 : Int) (a0_2 : Int) (A0_3 : Option Addr) (c0_3 : Nat) (l0_3 : List Int) (a1_0 : Int) (a1_1 : Int) (a1_2 : Int) (A1_3 : Option Addr) (c1_3 : Nat) (l1_3 : List Int) (a1_4 : Int) (a1_5 : Int) (a1_6 : Int) (a1_7 : Int) (a1_8 : Bool) (r1 : Int) (r2 : Int) (r3 : Int) (r4 : List Int) (r5 : Bool) (w : World) (hr0_3 : Kd.C (Kd.int .i64) w A0_3 l0_3.length l0_3) (hc0_3 : l0_3.length ≤ c0_3) (hr1_3 : Kd.C (Kd.int .i64) w A1_3 l1_3.length l1_3) (hc1_3 : l1_3.length ≤ c1_3) (h : spec_CoverImage.f k a0_0 a0_1 a0_2 l0_3 a1_0 a1_1 a1_2 l1_3 a1_4 a1_5 a1_6 a1_7 a1_8 = some (r1, r2, r3, r4, r5)) :
    Calls Try.prog 60 #[.agg #[.int .i64 a0_0, .int .i64 a0_1, .int .i64 a0_2, .slice A0_3 l0_3.length c0_3], .agg #[.int .i64 a1_0, .int .i64 a1_1, .int .i64 a1_2, .slice A1_3 l1_3.length c1_3, .int .i64 a1_4, .int .i64 a1_5, .int .i64 a1_6, .int .i64 a1_7, .bool a1_8]] w fun e w' => ∃ v3_ : Value, e = .returned (.tuple #[.agg #[.int .i64 r1, .int .i64 r2, .int .i64 r3, v3_], .bool r5]) ∧ Kd.R (Kd.int .i64) 3 w' w.heap.size (fun _ => True) v3_ r4 ∧ Below w.heap.size w w' := by
  have hu27 := Try.underlying27
  have hu55 := Try.underlying55
  have HR0_3 := Aside0.mk hr0_3
  have HC0_3 := Aside0.mk hc0_3
  clear hr0_3 hc0_3
  have HR1_3 := Aside0.mk hr1_3
  have HC1_3 := Aside0.mk hc1_3
  clear hr1_3 hc1_3
  have HB := Aside0.mk (Below.refl w.heap.size w)
  have H : ((spec_validImage.f k a0_0 a0_1 a0_2 l0_3).bind fun t61004 => (if t61004 = true then ((spec_validLayer.f k a1_0 a1_1 a1_2 l1_3 a1_4 a1_5 a1_6 a1_7 a1_8 a0_2).bind fun t61005 => (spec_CoverImage.j0 k (!t61005) a0_0 a0_1 a0_2 l0_3 a1_0 a1_1 a1_2 l1_3 a1_4 a1_5 a1_6 a1_7 a1_8)) else (spec_CoverImage.j0 k true a0_0 a0_1 a0_2 l0_3 a1_0 a1_1 a1_2 l1_3 a1_4 a1_5 a1_6 a1_7 a1_8))) = some (r1, r2, r3, r4, r5) := h
  clear h
  have HC3 := Aside0.mk H
  clear H
  go_enter Try.func60, Try.ntmps60
  go_upto_region 1 with (first | ((with_reducible refine gate_dst (N := 2) rfl ?_); refine box_event ?hg (N := 2) ?hd (cs := #[.int .i64 a0_0, .int .i64 a0_1, .int .i64 a0_2, .slice A0_3 l0_3.length c0_3]) (t := 27) ?hr ?_; (case hd => rfl); (case hg => rfl); (case hr => first | (go_simp; done) | (go_simp; rfl)); intro gb61001 hg w4 hbox hb; have n0_ := Aside0.mk (below_step (by repeat (first | (with_reducible first | exact HB.out | apply below_alloc | apply pw_below_drewN | apply below_drew1) | exact HB.out)) hb); have n1_ := Aside0.mk (hbox); have n2_ := Aside0.mk ((by rw [hg]; exact (below_size (by repeat (first | (with_reducible first | exact HB.out | apply below_alloc | apply pw_below_drewN | apply below_drew1) | exact HB.out))) : w.heap.size ≤ gb61001)); have n3_ := Aside0.mk ((by rw [hg]; exact (below_size (by repeat (first | (with_reducible first | exact HB.out | apply below_alloc | apply pw_below_drewN | apply below_drew1) | exact HB.out))) : w.heap.size ≤ gb61001)); clear HB; have HB := n0_; have BK61001 := n1_; have GW61001 := n2_; have GE61001 := n3_; clear n0_ n1_ n2_ n3_; clear hb hbox hg) | ((with_reducible refine gate_dst (N := 3) rfl ?_); refine box_event ?hg (N := 3) ?hd (cs := #[.int .i64 a1_0, .int .i64 a1_1, .int .i64 a1_2, .slice A1_3 l1_3.length c1_3, .int .i64 a1_4, .int .i64 a1_5, .int .i64 a1_6, .int .i64 a1_7, .bool a1_8]) (t := 55) ?hr ?_; (case hd => rfl); (case hg => rfl); (case hr => first | (go_simp; done) | (go_simp; rfl)); intro gb61002 hg w5 hbox hb; have n0_ := Aside0.mk (blk_below (g := gb61001) (o := .cells #[.int .i64 a0_0, .int .i64 a0_1, .int .i64 a0_2, .slice A0_3 l0_3.length c0_3] 27 (0, 0)) (by (with_reducible repeat (first | refine blk_drewN ?_ _ | refine blk_drew ?_ | refine blk_alloc ?_ _)); exact BK61001.out) hb); have n1_ := Aside0.mk (below_step (by repeat (first | (with_reducible first | exact HB.out | apply below_alloc | apply pw_below_drewN | apply below_drew1 | refine below_set ?_ GE61001.out) | exact HB.out)) hb); have n2_ := Aside0.mk (hbox); have n3_ := Aside0.mk ((by rw [hg]; exact (below_size (by repeat (first | (with_reducible first | exact HB.out | apply below_alloc | apply pw_below_drewN | apply below_drew1 | refine below_set ?_ GE61001.out) | exact HB.out))) : w.heap.size ≤ gb61002)); have n4_ := Aside0.mk ((by rw [hg]; exact (below_size (by repeat (first | (with_reducible first | exact HB.out | apply below_alloc | apply pw_below_drewN | apply below_drew1 | refine below_set ?_ GE61001.out) | exact HB.out))) : w.heap.size ≤ gb61002)); have n5_ := Aside0.mk ((by rw [hg]; exact Nat.ne_of_lt (blk_lt (g := gb61001) (o := .cells #[.int .i64 a0_0, .int .i64 a0_1, .int .i64 a0_2, .slice A0_3 l0_3.length c0_3] 27 (0, 0)) (by (with_reducible repeat (first | refine blk_drewN ?_ _ | refine blk_drew ?_ | refine blk_alloc ?_ _)); exact BK61001.out)) : gb61001 ≠ gb61002)); have n6_ := Aside0.mk ((by rw [hg]; exact Nat.ne_of_gt (blk_lt (g := gb61001) (o := .cells #[.int .i64 a0_0, .int .i64 a0_1, .int .i64 a0_2, .slice A0_3 l0_3.length c0_3] 27 (0, 0)) (by (with_reducible repeat (first | refine blk_drewN ?_ _ | refine blk_drew ?_ | refine blk_alloc ?_ _)); exact BK61001.out)) : gb61002 ≠ gb61001)); clear BK61001; clear HB; have BK61001 := n0_; have HB := n1_; have BK61002 := n2_; have GW61002 := n3_; have GE61002 := n4_; have NB61001_61002 := n5_; have NB61002_61001 := n6_; clear n0_ n1_ n2_ n3_ n4_ n5_ n6_; clear hb hbox hg) | ((with_reducible refine gate_dst (N := 4) rfl ?_); refine box_event ?hg (N := 4) ?hd (cs := #[.int .i64 0, .int .i64 0, .int .i64 0, .slice none 0 0]) (t := 27) ?hr ?_; (case hd => rfl); (case hg => rfl); (case hr => first | (go_simp; done) | (go_simp; rfl)); intro gb61003 hg w6 hbox hb; have n0_ := Aside0.mk (blk_below (g := gb61001) (o := .cells #[.int .i64 a0_0, .int .i64 a0_1, .int .i64 a0_2, .slice A0_3 l0_3.length c0_3] 27 (0, 0)) (by (with_reducible repeat (first | refine blk_drewN ?_ _ | refine blk_drew ?_ | refine blk_alloc ?_ _)); exact BK61001.out) hb); have n1_ := Aside0.mk (blk_below (g := gb61002) (o := .cells #[.int .i64 a1_0, .int .i64 a1_1, .int .i64 a1_2, .slice A1_3 l1_3.length c1_3, .int .i64 a1_4, .int .i64 a1_5, .int .i64 a1_6, .int .i64 a1_7, .bool a1_8] 55 (0, 0)) (by (with_reducible repeat (first | refine blk_drewN ?_ _ | refine blk_drew ?_ | refine blk_alloc ?_ _)); exact BK61002.out) hb); have n2_ := Aside0.mk (below_step (by repeat (first | (with_reducible first | exact HB.out | apply below_alloc | apply pw_below_drewN | apply below_drew1 | refine below_set ?_ GE61001.out | refine below_set ?_ GE61002.out) | exact HB.out)) hb); have n3_ := Aside0.mk (hbox); have n4_ := Aside0.mk ((by rw [hg]; exact (below_size (by repeat (first | (with_reducible first | exact HB.out | apply below_alloc | apply pw_below_drewN | apply below_drew1 | refine below_set ?_ GE61001.out | refine below_set ?_ GE61002.out) | exact HB.out))) : w.heap.size ≤ gb61003)); have n5_ := Aside0.mk ((by rw [hg]; exact (below_size (by repeat (first | (with_reducible first | exact HB.out | apply below_alloc | apply pw_below_drewN | apply below_drew1 | refine below_set ?_ GE61001.out | refine below_set ?_ GE61002.out) | exact HB.out))) : w.heap.size ≤ gb61003)); have n6_ := Aside0.mk ((by rw [hg]; exact Nat.ne_of_lt (blk_lt (g := gb61001) (o := .cells #[.int .i64 a0_0, .int .i64 a0_1, .int .i64 a0_2, .slice A0_3 l0_3.length c0_3] 27 (0, 0)) (by (with_reducible repeat (first | refine blk_drewN ?_ _ | refine blk_drew ?_ | refine blk_alloc ?_ _)); exact BK61001.out)) : gb61001 ≠ gb61003)); have n7_ := Aside0.mk ((by rw [hg]; exact Nat.ne_of_gt (blk_lt (g := gb61001) (o := .cells #[.int .i64 a0_0, .int .i64 a0_1, .int .i64 a0_2, .slice A0_3 l0_3.length c0_3] 27 (0, 0)) (by (with_reducible repeat (first | refine blk_drewN ?_ _ | refine blk_drew ?_ | refine blk_alloc ?_ _)); exact BK61001.out)) : gb61003 ≠ gb61001)); have n8_ := Aside0.mk ((by rw [hg]; exact Nat.ne_of_lt (blk_lt (g := gb61002) (o := .cells #[.int .i64 a1_0, .int .i64 a1_1, .int .i64 a1_2, .slice A1_3 l1_3.length c1_3, .int .i64 a1_4, .int .i64 a1_5, .int .i64 a1_6, .int .i64 a1_7, .bool a1_8] 55 (0, 0)) (by (with_reducible repeat (first | refine blk_drewN ?_ _ | refine blk_drew ?_ | refine blk_alloc ?_ _)); exact BK61002.out)) : gb61002 ≠ gb61003)); have n9_ := Aside0.mk ((by rw [hg]; exact Nat.ne_of_gt (blk_lt (g := gb61002) (o := .cells #[.int .i64 a1_0, .int .i64 a1_1, .int .i64 a1_2, .slice A1_3 l1_3.length c1_3, .int .i64 a1_4, .int .i64 a1_5, .int .i64 a1_6, .int .i64 a1_7, .bool a1_8] 55 (0, 0)) (by (with_reducible repeat (first | refine blk_drewN ?_ _ | refine blk_drew ?_ | refine blk_alloc ?_ _)); exact BK61002.out)) : gb61003 ≠ gb61002)); clear BK61001; clear BK61002; clear HB; have BK61001 := n0_; have BK61002 := n1_; have HB := n2_; have BK61003 := n3_; have GW61003 := n4_; have GE61003 := n5_; have NB61001_61003 := n6_; have NB61003_61001 := n7_; have NB61002_61003 := n8_; have NB61003_61002 := n9_; clear n0_ n1_ n2_ n3_ n4_ n5_ n6_ n7_ n8_ n9_; clear hb hbox hg))
  (try simp only [Act.put, List.setIfInBounds_toArray, List.set_cons_zero, List.set_cons_succ])
  go_cut [16] (fun v16 wc => ∃ (kq : Nat) (x16_2 : Bool), v16 = .bool x16_2 ∧ Aside0 (spec_CoverImage.j0 kq x16_2 a0_0 a0_1 a0_2 l0_3 a1_0 a1_1 a1_2 l1_3 a1_4 a1_5 a1_6 a1_7 a1_8 = some (r1, r2, r3, r4, r5)) ∧ Aside0 (kq ≤ k) ∧ Aside0 (wc.heap[gb61001]? = some (.cells #[.int .i64 a0_0, .int .i64 a0_1, .int .i64 a0_2, (.slice A0_3 l0_3.length c0_3)] 27 (0, 0))) ∧ Aside0 (wc.heap[gb61002]? = some (.cells #[.int .i64 a1_0, .int .i64 a1_1, .int .i64 a1_2, (.slice A1_3 l1_3.length c1_3), .int .i64 a1_4, .int .i64 a1_5, .int .i64 a1_6, .int .i64 a1_7, .bool a1_8] 55 (0, 0))) ∧ Aside0 (wc.heap[gb61003]? = some (.cells #[.int .i64 0, .int .i64 0, .int .i64 0, (.slice none 0 0)] 27 (0, 0))) ∧ Aside0 (Below w.heap.size w wc))
  case first =>
    have H := HC3.out
    clear HC3
    replace H := Option.bind_eq_some_iff.mp H
    obtain ⟨t61004, A70, H⟩ := H
    replace H : (if t61004 = true then ((spec_validLayer.f k a1_0 a1_1 a1_2 l1_3 a1_4 a1_5 a1_6 a1_7 a1_8 a0_2).bind fun t61005 => (spec_CoverImage.j0 k (!t61005) a0_0 a0_1 a0_2 l0_3 a1_0 a1_1 a1_2 l1_3 a1_4 a1_5 a1_6 a1_7 a1_8)) else (spec_CoverImage.j0 k true a0_0 a0_1 a0_2 l0_3 a1_0 a1_1 a1_2 l1_3 a1_4 a1_5 a1_6 a1_7 a1_8)) = some (r1, r2, r3, r4, r5) := H
    have A7 := Aside0.mk A70
    clear A70
    by_cases c8 : t61004 = true
    · subst c8
      have H1 : ((spec_validLayer.f k a1_0 a1_1 a1_2 l1_3 a1_4 a1_5 a1_6 a1_7 a1_8 a0_2).bind fun t61005 => (spec_CoverImage.j0 k (!t61005) a0_0 a0_1 a0_2 l0_3 a1_0 a1_1 a1_2 l1_3 a1_4 a1_5 a1_6 a1_7 a1_8)) = some (r1, r2, r3, r4, r5) := by rw [if_pos rfl] at H; exact H
      clear H
      have H := H1
      clear H1
      replace H := Option.bind_eq_some_iff.mp H
      obtain ⟨t61005, A90, H⟩ := H
      replace H : (spec_CoverImage.j0 k (!t61005) a0_0 a0_1 a0_2 l0_3 a1_0 a1_1 a1_2 l1_3 a1_4 a1_5 a1_6 a1_7 a1_8) = some (r1, r2, r3, r4, r5) := H
      have A9 := Aside0.mk A90
      clear A90
      have H' := Aside0.mk H
      clear H
      have hnb10 := NB61001_61002.out
      have hnc10 := NB61002_61001.out
      have hnb11 := NB61001_61003.out
      have hnc11 := NB61003_61001.out
      have hcz12_0 : w6.cell? ⟨gb61001, 0, none⟩ = some (.int .i64 a0_0) := (blk_cell BK61001.out 0).trans rfl
      have hcz12_1 : w6.cell? ⟨gb61001, 1, none⟩ = some (.int .i64 a0_1) := (blk_cell BK61001.out 1).trans rfl
      have hcz12_2 : w6.cell? ⟨gb61001, 2, none⟩ = some (.int .i64 a0_2) := (blk_cell BK61001.out 2).trans rfl
      have hcz12_3 : w6.cell? ⟨gb61001, 3, none⟩ = some (.slice A0_3 l0_3.length c0_3) := (blk_cell BK61001.out 3).trans rfl
      have hfz12_0 := blk_frozen BK61001.out 0
      have hfz12_1 := blk_frozen BK61001.out 1
      have hfz12_2 := blk_frozen BK61001.out 2
      have hfz12_3 := blk_frozen BK61001.out 3
      go_wp2_with (first | ((with_reducible refine gate_callee (f := 89) rfl ?_); refine goesL_ (some 8) rfl rfl Try.func89 (by kernel_rfl) rfl #[.agg #[.int .i64 a0_0, .int .i64 a0_1, .int .i64 a0_2, .slice A0_3 l0_3.length c0_3]] rfl (by (try simp only [List.map_toArray, List.map_cons, List.map_nil]); first | done | rfl | (simp only [List.length_drop, List.length_take]; rfl)) ?_; (with_reducible refine (spec_validImage.calls k a0_0 a0_1 a0_2 _ _ l0_3 true _ ?side1 ?side2 A7.out).mono ?_); (case side1 => repeat (first | exact (Kd.C_below HR0_3.out HB.out) | (with_reducible refine Kd.C_alloc ?_ _) | (with_reducible refine Kd.C_drewN ?_ _) | (with_reducible refine Kd.C_drew ?_))); (case side2 => exact HC0_3.out); rintro e w13 ⟨rfl, hb⟩; refine ⟨_, rfl, ?_⟩; have n0_ := Aside0.mk (blk_below (g := gb61001) (o := .cells #[.int .i64 a0_0, .int .i64 a0_1, .int .i64 a0_2, .slice A0_3 l0_3.length c0_3] 27 (0, 0)) (by (with_reducible repeat (first | refine blk_drewN ?_ _ | refine blk_drew ?_ | refine blk_alloc ?_ _)); exact BK61001.out) hb); have n1_ := Aside0.mk (blk_below (g := gb61002) (o := .cells #[.int .i64 a1_0, .int .i64 a1_1, .int .i64 a1_2, .slice A1_3 l1_3.length c1_3, .int .i64 a1_4, .int .i64 a1_5, .int .i64 a1_6, .int .i64 a1_7, .bool a1_8] 55 (0, 0)) (by (with_reducible repeat (first | refine blk_drewN ?_ _ | refine blk_drew ?_ | refine blk_alloc ?_ _)); exact BK61002.out) hb); have n2_ := Aside0.mk (blk_below (g := gb61003) (o := .cells #[.int .i64 0, .int .i64 0, .int .i64 0, .slice none 0 0] 27 (0, 0)) (by (with_reducible repeat (first | refine blk_drewN ?_ _ | refine blk_drew ?_ | refine blk_alloc ?_ _)); exact BK61003.out) hb); have n3_ := Aside0.mk (below_step (by repeat (first | (with_reducible first | exact HB.out | apply below_alloc | apply pw_below_drewN | apply below_drew1 | refine below_set ?_ GE61001.out | refine below_set ?_ GE61002.out | refine below_set ?_ GE61003.out) | exact HB.out)) hb); clear BK61001; clear BK61002; clear BK61003; clear HB; have BK61001 := n0_; have BK61002 := n1_; have BK61003 := n2_; have HB := n3_; clear n0_ n1_ n2_ n3_; (try clear hb); (try clear hb2); (try clear hk); (try clear hi); have hnb14 := NB61002_61003.out; have hnc14 := NB61003_61002.out; have hcz15_0 : w13.cell? ⟨gb61002, 0, none⟩ = some (.int .i64 a1_0) := (blk_cell BK61002.out 0).trans rfl; have hcz15_1 : w13.cell? ⟨gb61002, 1, none⟩ = some (.int .i64 a1_1) := (blk_cell BK61002.out 1).trans rfl; have hcz15_2 : w13.cell? ⟨gb61002, 2, none⟩ = some (.int .i64 a1_2) := (blk_cell BK61002.out 2).trans rfl; have hcz15_3 : w13.cell? ⟨gb61002, 3, none⟩ = some (.slice A1_3 l1_3.length c1_3) := (blk_cell BK61002.out 3).trans rfl; have hcz15_4 : w13.cell? ⟨gb61002, 4, none⟩ = some (.int .i64 a1_4) := (blk_cell BK61002.out 4).trans rfl; have hcz15_5 : w13.cell? ⟨gb61002, 5, none⟩ = some (.int .i64 a1_5) := (blk_cell BK61002.out 5).trans rfl; have hcz15_6 : w13.cell? ⟨gb61002, 6, none⟩ = some (.int .i64 a1_6) := (blk_cell BK61002.out 6).trans rfl; have hcz15_7 : w13.cell? ⟨gb61002, 7, none⟩ = some (.int .i64 a1_7) := (blk_cell BK61002.out 7).trans rfl; have hcz15_8 : w13.cell? ⟨gb61002, 8, none⟩ = some (.bool a1_8) := (blk_cell BK61002.out 8).trans rfl; have hfz15_0 := blk_frozen BK61002.out 0; have hfz15_1 := blk_frozen BK61002.out 1; have hfz15_2 := blk_frozen BK61002.out 2; have hfz15_3 := blk_frozen BK61002.out 3; have hfz15_4 := blk_frozen BK61002.out 4; have hfz15_5 := blk_frozen BK61002.out 5; have hfz15_6 := blk_frozen BK61002.out 6; have hfz15_7 := blk_frozen BK61002.out 7; have hfz15_8 := blk_frozen BK61002.out 8; have hcz16_0 : w13.cell? ⟨gb61001, 0, none⟩ = some (.int .i64 a0_0) := (blk_cell BK61001.out 0).trans rfl; have hcz16_1 : w13.cell? ⟨gb61001, 1, none⟩ = some (.int .i64 a0_1) := (blk_cell BK61001.out 1).trans rfl; have hcz16_2 : w13.cell? ⟨gb61001, 2, none⟩ = some (.int .i64 a0_2) := (blk_cell BK61001.out 2).trans rfl; have hcz16_3 : w13.cell? ⟨gb61001, 3, none⟩ = some (.slice A0_3 l0_3.length c0_3) := (blk_cell BK61001.out 3).trans rfl; have hfz16_0 := blk_frozen BK61001.out 0; have hfz16_1 := blk_frozen BK61001.out 1; have hfz16_2 := blk_frozen BK61001.out 2; have hfz16_3 := blk_frozen BK61001.out 3) | (go_at_call 101; (with_reducible refine (spec_validLayer.calls k a1_0 a1_1 a1_2 _ _ l1_3 a1_4 a1_5 a1_6 a1_7 a1_8 a0_2 t61005 _ ?side1 ?side2 A9.out).mono ?_); (case side1 => repeat (first | exact (Kd.C_below HR1_3.out HB.out) | (with_reducible refine Kd.C_alloc ?_ _) | (with_reducible refine Kd.C_drewN ?_ _) | (with_reducible refine Kd.C_drew ?_))); (case side2 => exact HC1_3.out); rintro e w17 ⟨rfl, hb⟩; have n0_ := Aside0.mk (blk_below (g := gb61001) (o := .cells #[.int .i64 a0_0, .int .i64 a0_1, .int .i64 a0_2, .slice A0_3 l0_3.length c0_3] 27 (0, 0)) (by (with_reducible repeat (first | refine blk_drewN ?_ _ | refine blk_drew ?_ | refine blk_alloc ?_ _)); exact BK61001.out) hb); have n1_ := Aside0.mk (blk_below (g := gb61002) (o := .cells #[.int .i64 a1_0, .int .i64 a1_1, .int .i64 a1_2, .slice A1_3 l1_3.length c1_3, .int .i64 a1_4, .int .i64 a1_5, .int .i64 a1_6, .int .i64 a1_7, .bool a1_8] 55 (0, 0)) (by (with_reducible repeat (first | refine blk_drewN ?_ _ | refine blk_drew ?_ | refine blk_alloc ?_ _)); exact BK61002.out) hb); have n2_ := Aside0.mk (blk_below (g := gb61003) (o := .cells #[.int .i64 0, .int .i64 0, .int .i64 0, .slice none 0 0] 27 (0, 0)) (by (with_reducible repeat (first | refine blk_drewN ?_ _ | refine blk_drew ?_ | refine blk_alloc ?_ _)); exact BK61003.out) hb); have n3_ := Aside0.mk (below_step (by repeat (first | (with_reducible first | exact HB.out | apply below_alloc | apply pw_below_drewN | apply below_drew1 | refine below_set ?_ GE61001.out | refine below_set ?_ GE61002.out | refine below_set ?_ GE61003.out) | exact HB.out)) hb); clear BK61001; clear BK61002; clear BK61003; clear HB; have BK61001 := n0_; have BK61002 := n1_; have BK61003 := n2_; have HB := n3_; clear n0_ n1_ n2_ n3_; (try clear hb); (try clear hb2); (try clear hk); (try clear hi)))
      go_meet
      case rel => exact ⟨_, (!t61005), (by first | rfl | (simp; done) | (simp [*]; done)), H', ⟨by first | omega | exact Nat.le_refl _⟩, ⟨by (with_reducible repeat (first | refine blk_drewN ?_ _ | refine blk_drew ?_ | refine blk_alloc ?_ _)); exact BK61001.out⟩, ⟨by (with_reducible repeat (first | refine blk_drewN ?_ _ | refine blk_drew ?_ | refine blk_alloc ?_ _)); exact BK61002.out⟩, ⟨by (with_reducible repeat (first | refine blk_drewN ?_ _ | refine blk_drew ?_ | refine blk_alloc ?_ _)); exact BK61003.out⟩, ⟨by repeat (first | (with_reducible first | exact HB.out | apply below_alloc | apply pw_below_drewN | apply below_drew1 | refine below_set ?_ GE61001.out | refine below_set ?_ GE61002.out | refine below_set ?_ GE61003.out) | exact HB.out)⟩⟩
    · replace c8 := Bool.eq_false_iff.mpr c8
      subst c8
      have H1 : (spec_CoverImage.j0 k true a0_0 a0_1 a0_2 l0_3 a1_0 a1_1 a1_2 l1_3 a1_4 a1_5 a1_6 a1_7 a1_8) = some (r1, r2, r3, r4, r5) := by rw [if_neg (show ¬ (false = true) by decide)] at H; exact H
      clear H
      have H := H1
      clear H1
      have H' := Aside0.mk H
      clear H
      have hnb18 := NB61001_61002.out
      have hnc18 := NB61002_61001.out
      have hnb19 := NB61001_61003.out
      have hnc19 := NB61003_61001.out
      have hcz20_0 : w6.cell? ⟨gb61001, 0, none⟩ = some (.int .i64 a0_0) := (blk_cell BK61001.out 0).trans rfl
      have hcz20_1 : w6.cell? ⟨gb61001, 1, none⟩ = some (.int .i64 a0_1) := (blk_cell BK61001.out 1).trans rfl
      have hcz20_2 : w6.cell? ⟨gb61001, 2, none⟩ = some (.int .i64 a0_2) := (blk_cell BK61001.out 2).trans rfl
      have hcz20_3 : w6.cell? ⟨gb61001, 3, none⟩ = some (.slice A0_3 l0_3.length c0_3) := (blk_cell BK61001.out 3).trans rfl
      have hfz20_0 := blk_frozen BK61001.out 0
      have hfz20_1 := blk_frozen BK61001.out 1
      have hfz20_2 := blk_frozen BK61001.out 2
      have hfz20_3 := blk_frozen BK61001.out 3
      go_wp2_with (first | ((with_reducible refine gate_callee (f := 89) rfl ?_); refine goesL_ (some 8) rfl rfl Try.func89 (by kernel_rfl) rfl #[.agg #[.int .i64 a0_0, .int .i64 a0_1, .int .i64 a0_2, .slice A0_3 l0_3.length c0_3]] rfl (by (try simp only [List.map_toArray, List.map_cons, List.map_nil]); first | done | rfl | (simp only [List.length_drop, List.length_take]; rfl)) ?_; (with_reducible refine (spec_validImage.calls k a0_0 a0_1 a0_2 _ _ l0_3 false _ ?side1 ?side2 A7.out).mono ?_); (case side1 => repeat (first | exact (Kd.C_below HR0_3.out HB.out) | (with_reducible refine Kd.C_alloc ?_ _) | (with_reducible refine Kd.C_drewN ?_ _) | (with_reducible refine Kd.C_drew ?_))); (case side2 => exact HC0_3.out); rintro e w21 ⟨rfl, hb⟩; refine ⟨_, rfl, ?_⟩; have n0_ := Aside0.mk (blk_below (g := gb61001) (o := .cells #[.int .i64 a0_0, .int .i64 a0_1, .int .i64 a0_2, .slice A0_3 l0_3.length c0_3] 27 (0, 0)) (by (with_reducible repeat (first | refine blk_drewN ?_ _ | refine blk_drew ?_ | refine blk_alloc ?_ _)); exact BK61001.out) hb); have n1_ := Aside0.mk (blk_below (g := gb61002) (o := .cells #[.int .i64 a1_0, .int .i64 a1_1, .int .i64 a1_2, .slice A1_3 l1_3.length c1_3, .int .i64 a1_4, .int .i64 a1_5, .int .i64 a1_6, .int .i64 a1_7, .bool a1_8] 55 (0, 0)) (by (with_reducible repeat (first | refine blk_drewN ?_ _ | refine blk_drew ?_ | refine blk_alloc ?_ _)); exact BK61002.out) hb); have n2_ := Aside0.mk (blk_below (g := gb61003) (o := .cells #[.int .i64 0, .int .i64 0, .int .i64 0, .slice none 0 0] 27 (0, 0)) (by (with_reducible repeat (first | refine blk_drewN ?_ _ | refine blk_drew ?_ | refine blk_alloc ?_ _)); exact BK61003.out) hb); have n3_ := Aside0.mk (below_step (by repeat (first | (with_reducible first | exact HB.out | apply below_alloc | apply pw_below_drewN | apply below_drew1 | refine below_set ?_ GE61001.out | refine below_set ?_ GE61002.out | refine below_set ?_ GE61003.out) | exact HB.out)) hb); clear BK61001; clear BK61002; clear BK61003; clear HB; have BK61001 := n0_; have BK61002 := n1_; have BK61003 := n2_; have HB := n3_; clear n0_ n1_ n2_ n3_; (try clear hb); (try clear hb2); (try clear hk); (try clear hi)))
      go_meet
      case rel => exact ⟨_, (true), (by first | rfl | (simp; done) | (simp [*]; done)), H', ⟨by first | omega | exact Nat.le_refl _⟩, ⟨by (with_reducible repeat (first | refine blk_drewN ?_ _ | refine blk_drew ?_ | refine blk_alloc ?_ _)); exact BK61001.out⟩, ⟨by (with_reducible repeat (first | refine blk_drewN ?_ _ | refine blk_drew ?_ | refine blk_alloc ?_ _)); exact BK61002.out⟩, ⟨by (with_reducible repeat (first | refine blk_drewN ?_ _ | refine blk_drew ?_ | refine blk_alloc ?_ _)); exact BK61003.out⟩, ⟨by repeat (first | (with_reducible first | exact HB.out | apply below_alloc | apply pw_below_drewN | apply below_drew1 | refine below_set ?_ GE61001.out | refine below_set ?_ GE61002.out | refine below_set ?_ GE61003.out) | exact HB.out)⟩⟩
  case rest =>
    clear HC3
    try clear c1
    try clear p2
    try clear c6
    try clear c8
    try clear c10
    try clear c11
    try clear c14
    try clear c18
    try clear c19
    try clear hcz12_0
    try clear hcz12_1
    try clear hcz12_2
    try clear hcz12_3
    try clear hcz15_0
    try clear hcz15_1
    try clear hcz15_2
    try clear hcz15_3
    try clear hcz15_4
    try clear hcz15_5
    try clear hcz15_6
    try clear hcz15_7
    try clear hcz15_8
    try clear hcz16_0
    try clear hcz16_1
    try clear hcz16_2
    try clear hcz16_3
    try clear hcz20_0
    try clear hcz20_1
    try clear hcz20_2
    try clear hcz20_3
    try clear hfz12_0
    try clear hfz12_1
    try clear hfz12_2
    try clear hfz12_3
    try clear hfz15_0
    try clear hfz15_1
    try clear hfz15_2
    try clear hfz15_3
    try clear hfz15_4
    try clear hfz15_5
    try clear hfz15_6
    try clear hfz15_7
    try clear hfz15_8
    try clear hfz16_0
    try clear hfz16_1
    try clear hfz16_2
    try clear hfz16_3
    try clear hfz20_0
    try clear hfz20_1
    try clear hfz20_2
    try clear hfz20_3
    obtain ⟨kq, x16_2, rfl, HA, HJ2, BK61001, BK61002, BK61003, HB⟩ := hcut
    cases kq with
    | zero => exact absurd HA.out (by simp [spec_CoverImage.j0])
    | succ kj2 =>
      have H := HA.out
      clear HA
      simp only [spec_CoverImage.j0] at H
      by_cases c22 : x16_2 = true
      · subst c22
        have H1 : (some (0, 0, 0, ([] : List Int), false)) = some (r1, r2, r3, r4, r5) := by rw [if_pos rfl] at H; exact H
        clear H
        have H := H1
        clear H1
        simp only [Option.some.injEq, Prod.mk.injEq] at H
        obtain ⟨rfl, rfl, rfl, rfl, rfl⟩ := H
        have hnb23 := NB61003_61001.out
        have hnc23 := NB61001_61003.out
        have hnb24 := NB61003_61002.out
        have hnc24 := NB61002_61003.out
        have hcz25_0 : wc.cell? ⟨gb61003, 0, none⟩ = some (.int .i64 0) := (blk_cell BK61003.out 0).trans rfl
        have hcz25_1 : wc.cell? ⟨gb61003, 1, none⟩ = some (.int .i64 0) := (blk_cell BK61003.out 1).trans rfl
        have hcz25_2 : wc.cell? ⟨gb61003, 2, none⟩ = some (.int .i64 0) := (blk_cell BK61003.out 2).trans rfl
        have hcz25_3 : wc.cell? ⟨gb61003, 3, none⟩ = some (.slice none 0 0) := (blk_cell BK61003.out 3).trans rfl
        have hfz25_0 := blk_frozen BK61003.out 0
        have hfz25_1 := blk_frozen BK61003.out 1
        have hfz25_2 := blk_frozen BK61003.out 2
        have hfz25_3 := blk_frozen BK61003.out 3
        go_wp2
        refine bodyPost_ret (results_ct rfl _ _ gb61003 27 #[.int .i64 0, .int .i64 0, .int .i64 0, .slice none 0 0] (0, 0) _ rfl (by (with_reducible repeat (first | refine blk_drewN ?_ _ | refine blk_drew ?_ | refine blk_alloc ?_ _)); refine blk_put (cs := #[.int .i64 0, .int .i64 0, .int .i64 0, .slice none 0 0]) ?_ 3 _ rfl; (with_reducible repeat (first | refine blk_drewN ?_ _ | refine blk_drew ?_ | refine blk_alloc ?_ _)); refine blk_put (cs := #[.int .i64 0, .int .i64 0, .int .i64 0, .slice none 0 0]) ?_ 2 _ rfl; (with_reducible repeat (first | refine blk_drewN ?_ _ | refine blk_drew ?_ | refine blk_alloc ?_ _)); refine blk_put (cs := #[.int .i64 0, .int .i64 0, .int .i64 0, .slice none 0 0]) ?_ 1 _ rfl; (with_reducible repeat (first | refine blk_drewN ?_ _ | refine blk_drew ?_ | refine blk_alloc ?_ _)); refine blk_put (cs := #[.int .i64 0, .int .i64 0, .int .i64 0, .slice none 0 0]) ?_ 0 _ rfl; (with_reducible repeat (first | refine blk_drewN ?_ _ | refine blk_drew ?_ | refine blk_alloc ?_ _)); exact BK61003.out) Try.underlying27 rfl (by kernel_rfl)) rfl ?_
        exact ⟨_, by first | rfl | (simp [errW_none, errW_some] <;> rfl) | (simp [*, errW_none, errW_some] <;> rfl), by first | exact Kd.R_nil _ _ _ _ _ | exact Kd.N_nil _ _ _ _ _ | exact Kd.V_nil _ _ _ _ _ | exact Kd.Q_nil _ _ _ _ _ | exact Kd.S_nil _ _ _ _ _, by repeat (first | (with_reducible first | exact HB.out | apply below_alloc | apply pw_below_drewN | apply below_drew1 | refine below_set ?_ GE61001.out | refine below_set ?_ GE61002.out | refine below_set ?_ GE61003.out) | exact HB.out)⟩
      · replace c22 := Bool.eq_false_iff.mpr c22
        subst c22
        have H1 : ((spec_copyImage.f a0_0 a0_1 a0_2 l0_3).bind fun bt61006 => ((spec_blendPaste.f kj2 bt61006.1 bt61006.2.1 bt61006.2.2.1 bt61006.2.2.2 a1_0 a1_1 a1_2 l1_3 a1_4 a1_5 a1_6 a1_7 a1_8).bind fun t61013 => (some (bt61006.1, bt61006.2.1, bt61006.2.2.1, t61013, true)))) = some (r1, r2, r3, r4, r5) := by rw [if_neg (show ¬ (false = true) by decide)] at H; exact H
        clear H
        have H := H1
        clear H1
        replace H := Option.bind_eq_some_iff.mp H
        obtain ⟨⟨t61006, t61007, t61008, t61009⟩, A260, H⟩ := H
        replace H : ((spec_blendPaste.f kj2 t61006 t61007 t61008 t61009 a1_0 a1_1 a1_2 l1_3 a1_4 a1_5 a1_6 a1_7 a1_8).bind fun t61013 => (some (t61006, t61007, t61008, t61013, true))) = some (r1, r2, r3, r4, r5) := H
        have A26 := Aside0.mk A260
        clear A260
        replace H := Option.bind_eq_some_iff.mp H
        obtain ⟨t61013, A270, H⟩ := H
        replace H : (some (t61006, t61007, t61008, t61013, true)) = some (r1, r2, r3, r4, r5) := H
        have A27 := Aside0.mk A270
        clear A270
        simp only [Option.some.injEq, Prod.mk.injEq] at H
        obtain ⟨rfl, rfl, rfl, rfl, rfl⟩ := H
        have hnb28 := NB61001_61002.out
        have hnc28 := NB61002_61001.out
        have hnb29 := NB61001_61003.out
        have hnc29 := NB61003_61001.out
        have hcz30_0 : wc.cell? ⟨gb61001, 0, none⟩ = some (.int .i64 a0_0) := (blk_cell BK61001.out 0).trans rfl
        have hcz30_1 : wc.cell? ⟨gb61001, 1, none⟩ = some (.int .i64 a0_1) := (blk_cell BK61001.out 1).trans rfl
        have hcz30_2 : wc.cell? ⟨gb61001, 2, none⟩ = some (.int .i64 a0_2) := (blk_cell BK61001.out 2).trans rfl
        have hcz30_3 : wc.cell? ⟨gb61001, 3, none⟩ = some (.slice A0_3 l0_3.length c0_3) := (blk_cell BK61001.out 3).trans rfl
        have hfz30_0 := blk_frozen BK61001.out 0
        have hfz30_1 := blk_frozen BK61001.out 1
        have hfz30_2 := blk_frozen BK61001.out 2
        have hfz30_3 := blk_frozen BK61001.out 3
        go_wp2_with (first | ((with_reducible refine gate_callee (f := 113) rfl ?_); refine goesL_ (some 19) rfl rfl Try.func113 (by kernel_rfl) rfl #[.agg #[.int .i64 a0_0, .int .i64 a0_1, .int .i64 a0_2, .slice A0_3 l0_3.length c0_3]] rfl (by (try simp only [List.map_toArray, List.map_cons, List.map_nil]); first | done | rfl | (simp only [List.length_drop, List.length_take]; rfl)) ?_; (with_reducible refine (spec_copyImage.calls a0_0 a0_1 a0_2 _ _ l0_3 t61006 t61007 t61008 t61009 _ ?side1 ?side2 A26.out).mono ?_); (case side1 => repeat (first | exact (Kd.C_below HR0_3.out HB.out) | (with_reducible refine Kd.C_alloc ?_ _) | (with_reducible refine Kd.C_drewN ?_ _) | (with_reducible refine Kd.C_drew ?_))); (case side2 => exact HC0_3.out); rintro e w31 ⟨v61010, rfl, ho0, hb⟩; refine ⟨_, rfl, ?_⟩; have n0_ := Aside0.mk (Kd.R_lower ho0 (below_size (by repeat (first | (with_reducible first | exact HB.out | apply below_alloc | apply pw_below_drewN | apply below_drew1 | refine below_set ?_ GE61001.out | refine below_set ?_ GE61002.out | refine below_set ?_ GE61003.out) | exact HB.out)))); have n1_ := Aside0.mk (blk_below (g := gb61001) (o := .cells #[.int .i64 a0_0, .int .i64 a0_1, .int .i64 a0_2, .slice A0_3 l0_3.length c0_3] 27 (0, 0)) (by (with_reducible repeat (first | refine blk_drewN ?_ _ | refine blk_drew ?_ | refine blk_alloc ?_ _)); exact BK61001.out) hb); have n2_ := Aside0.mk (blk_below (g := gb61002) (o := .cells #[.int .i64 a1_0, .int .i64 a1_1, .int .i64 a1_2, .slice A1_3 l1_3.length c1_3, .int .i64 a1_4, .int .i64 a1_5, .int .i64 a1_6, .int .i64 a1_7, .bool a1_8] 55 (0, 0)) (by (with_reducible repeat (first | refine blk_drewN ?_ _ | refine blk_drew ?_ | refine blk_alloc ?_ _)); exact BK61002.out) hb); have n3_ := Aside0.mk (blk_below (g := gb61003) (o := .cells #[.int .i64 0, .int .i64 0, .int .i64 0, .slice none 0 0] 27 (0, 0)) (by (with_reducible repeat (first | refine blk_drewN ?_ _ | refine blk_drew ?_ | refine blk_alloc ?_ _)); exact BK61003.out) hb); have n4_ := Aside0.mk (below_step (by repeat (first | (with_reducible first | exact HB.out | apply below_alloc | apply pw_below_drewN | apply below_drew1 | refine below_set ?_ GE61001.out | refine below_set ?_ GE61002.out | refine below_set ?_ GE61003.out) | exact HB.out)) hb); clear BK61001; clear BK61002; clear BK61003; clear HB; have HO61011 := n0_; have BK61001 := n1_; have BK61002 := n2_; have BK61003 := n3_; have HB := n4_; clear n0_ n1_ n2_ n3_ n4_; (try clear hb); (try clear hb2); (try clear hk); (try clear hi); (try clear ho0)) | ((with_reducible refine gate_dst (N := 6) rfl ?_); refine box_event ?hg (N := 6) ?hd (cs := #[.int .i64 0, .int .i64 0, .int .i64 0, .slice none 0 0]) (t := 27) ?hr ?_; (case hd => rfl); (case hg => rfl); (case hr => first | (go_simp; done) | (go_simp; rfl)); intro gb61012 hg w32 hbox hb; have n0_ := Aside0.mk (Kd.R_below (by (with_reducible repeat (first | apply Kd.R_alloc | apply Kd.R_drewN | apply Kd.R_drew)); exact HO61011.out) hb); have n1_ := Aside0.mk (blk_below (g := gb61001) (o := .cells #[.int .i64 a0_0, .int .i64 a0_1, .int .i64 a0_2, .slice A0_3 l0_3.length c0_3] 27 (0, 0)) (by (with_reducible repeat (first | refine blk_drewN ?_ _ | refine blk_drew ?_ | refine blk_alloc ?_ _)); exact BK61001.out) hb); have n2_ := Aside0.mk (blk_below (g := gb61002) (o := .cells #[.int .i64 a1_0, .int .i64 a1_1, .int .i64 a1_2, .slice A1_3 l1_3.length c1_3, .int .i64 a1_4, .int .i64 a1_5, .int .i64 a1_6, .int .i64 a1_7, .bool a1_8] 55 (0, 0)) (by (with_reducible repeat (first | refine blk_drewN ?_ _ | refine blk_drew ?_ | refine blk_alloc ?_ _)); exact BK61002.out) hb); have n3_ := Aside0.mk (blk_below (g := gb61003) (o := .cells #[.int .i64 0, .int .i64 0, .int .i64 0, .slice none 0 0] 27 (0, 0)) (by (with_reducible repeat (first | refine blk_drewN ?_ _ | refine blk_drew ?_ | refine blk_alloc ?_ _)); exact BK61003.out) hb); have n4_ := Aside0.mk (below_step (by repeat (first | (with_reducible first | exact HB.out | apply below_alloc | apply pw_below_drewN | apply below_drew1 | refine below_set ?_ GE61001.out | refine below_set ?_ GE61002.out | refine below_set ?_ GE61003.out) | exact HB.out)) hb); have n5_ := Aside0.mk (hbox); have n6_ := Aside0.mk ((by rw [hg]; exact (below_size (by repeat (first | (with_reducible first | exact HB.out | apply below_alloc | apply pw_below_drewN | apply below_drew1 | refine below_set ?_ GE61001.out | refine below_set ?_ GE61002.out | refine below_set ?_ GE61003.out) | exact HB.out))) : w.heap.size ≤ gb61012)); have n7_ := Aside0.mk ((by rw [hg]; exact (below_size (by repeat (first | (with_reducible first | exact HB.out | apply below_alloc | apply pw_below_drewN | apply below_drew1 | refine below_set ?_ GE61001.out | refine below_set ?_ GE61002.out | refine below_set ?_ GE61003.out) | exact HB.out))) : w.heap.size ≤ gb61012)); have n8_ := Aside0.mk ((by rw [hg]; exact Nat.ne_of_lt (blk_lt (g := gb61001) (o := .cells #[.int .i64 a0_0, .int .i64 a0_1, .int .i64 a0_2, .slice A0_3 l0_3.length c0_3] 27 (0, 0)) (by (with_reducible repeat (first | refine blk_drewN ?_ _ | refine blk_drew ?_ | refine blk_alloc ?_ _)); exact BK61001.out)) : gb61001 ≠ gb61012)); have n9_ := Aside0.mk ((by rw [hg]; exact Nat.ne_of_gt (blk_lt (g := gb61001) (o := .cells #[.int .i64 a0_0, .int .i64 a0_1, .int .i64 a0_2, .slice A0_3 l0_3.length c0_3] 27 (0, 0)) (by (with_reducible repeat (first | refine blk_drewN ?_ _ | refine blk_drew ?_ | refine blk_alloc ?_ _)); exact BK61001.out)) : gb61012 ≠ gb61001)); have n10_ := Aside0.mk ((by rw [hg]; exact Nat.ne_of_lt (blk_lt (g := gb61002) (o := .cells #[.int .i64 a1_0, .int .i64 a1_1, .int .i64 a1_2, .slice A1_3 l1_3.length c1_3, .int .i64 a1_4, .int .i64 a1_5, .int .i64 a1_6, .int .i64 a1_7, .bool a1_8] 55 (0, 0)) (by (with_reducible repeat (first | refine blk_drewN ?_ _ | refine blk_drew ?_ | refine blk_alloc ?_ _)); exact BK61002.out)) : gb61002 ≠ gb61012)); have n11_ := Aside0.mk ((by rw [hg]; exact Nat.ne_of_gt (blk_lt (g := gb61002) (o := .cells #[.int .i64 a1_0, .int .i64 a1_1, .int .i64 a1_2, .slice A1_3 l1_3.length c1_3, .int .i64 a1_4, .int .i64 a1_5, .int .i64 a1_6, .int .i64 a1_7, .bool a1_8] 55 (0, 0)) (by (with_reducible repeat (first | refine blk_drewN ?_ _ | refine blk_drew ?_ | refine blk_alloc ?_ _)); exact BK61002.out)) : gb61012 ≠ gb61002)); have n12_ := Aside0.mk ((by rw [hg]; exact Nat.ne_of_lt (blk_lt (g := gb61003) (o := .cells #[.int .i64 0, .int .i64 0, .int .i64 0, .slice none 0 0] 27 (0, 0)) (by (with_reducible repeat (first | refine blk_drewN ?_ _ | refine blk_drew ?_ | refine blk_alloc ?_ _)); exact BK61003.out)) : gb61003 ≠ gb61012)); have n13_ := Aside0.mk ((by rw [hg]; exact Nat.ne_of_gt (blk_lt (g := gb61003) (o := .cells #[.int .i64 0, .int .i64 0, .int .i64 0, .slice none 0 0] 27 (0, 0)) (by (with_reducible repeat (first | refine blk_drewN ?_ _ | refine blk_drew ?_ | refine blk_alloc ?_ _)); exact BK61003.out)) : gb61012 ≠ gb61003)); clear HO61011; clear BK61001; clear BK61002; clear BK61003; clear HB; have HO61011 := n0_; have BK61001 := n1_; have BK61002 := n2_; have BK61003 := n3_; have HB := n4_; have BK61012 := n5_; have GW61012 := n6_; have GE61012 := n7_; have NB61001_61012 := n8_; have NB61012_61001 := n9_; have NB61002_61012 := n10_; have NB61012_61002 := n11_; have NB61003_61012 := n12_; have NB61012_61003 := n13_; clear n0_ n1_ n2_ n3_ n4_ n5_ n6_ n7_ n8_ n9_ n10_ n11_ n12_ n13_; clear hb hbox hg; have hnb33 := NB61012_61001.out; have hnc33 := NB61001_61012.out; have hnb34 := NB61012_61002.out; have hnc34 := NB61002_61012.out; have hnb35 := NB61012_61003.out; have hnc35 := NB61003_61012.out; have hcz36_0 : w32.cell? ⟨gb61012, 0, none⟩ = some (.int .i64 0) := (blk_cell BK61012.out 0).trans rfl; have hcz36_1 : w32.cell? ⟨gb61012, 1, none⟩ = some (.int .i64 0) := (blk_cell BK61012.out 1).trans rfl; have hcz36_2 : w32.cell? ⟨gb61012, 2, none⟩ = some (.int .i64 0) := (blk_cell BK61012.out 2).trans rfl; have hcz36_3 : w32.cell? ⟨gb61012, 3, none⟩ = some (.slice none 0 0) := (blk_cell BK61012.out 3).trans rfl; have hfz36_0 := blk_frozen BK61012.out 0; have hfz36_1 := blk_frozen BK61012.out 1; have hfz36_2 := blk_frozen BK61012.out 2; have hfz36_3 := blk_frozen BK61012.out 3; obtain ⟨Ao37, co37, eo37⟩ := Kd.R_slice HO61011.out; subst eo37) | ((with_reducible refine gate_store (t := 27) (p := 6) rfl ?_); refine store_event (t := 27) (p := 6) (v := ?vo_w38) (w1 := ((((w32.setCell ⟨gb61012, 0, none⟩ (.int .i64 t61006)).setCell ⟨gb61012, 1, none⟩ (.int .i64 t61007)).setCell ⟨gb61012, 2, none⟩ (.int .i64 t61008)).setCell ⟨gb61012, 3, none⟩ (.slice Ao37 t61009.length co37))) ?hg ?ho ?hn ?hr ?_; (case ho => rfl); (case hg => rfl); (case hn => rfl); (case hr => first | (go_simp; done) | (go_simp; rfl)); intro w38 hw; have n0_ : Aside0 (Kd.R (Kd.int .i64) 3 w38 w.heap.size (fun _ => True) (.slice Ao37 t61009.length co37) t61009) := ⟨(by rw [hw]; exact (by (with_reducible repeat (first | apply Kd.R_alloc | apply Kd.R_drewN | apply Kd.R_drew)); exact Kd.R_mono (Kd.R_far (p := ⟨gb61012, 3, none⟩) (Kd.R_far (p := ⟨gb61012, 2, none⟩) (Kd.R_far (p := ⟨gb61012, 1, none⟩) (Kd.R_far (p := ⟨gb61012, 0, none⟩) (Kd.R_types HO61011.out BK61012.out (by decide)) (fun _ hk => hk.2) (.int .i64 t61006)) (fun _ hk => hk.2) (.int .i64 t61007)) (fun _ hk => hk.2) (.int .i64 t61008)) (fun _ hk => hk.2) (.slice Ao37 t61009.length co37)) (fun _ hk => trivial)))⟩; have n1_ : Aside0 (w38.heap[gb61001]? = some (.cells #[.int .i64 a0_0, .int .i64 a0_1, .int .i64 a0_2, .slice A0_3 l0_3.length c0_3] 27 (0, 0))) := ⟨(by rw [hw]; exact (by (with_reducible repeat (first | refine blk_drewN ?_ _ | refine blk_drew ?_ | refine blk_alloc ?_ _)); refine blk_far ?_ NB61001_61012.out _; (with_reducible repeat (first | refine blk_drewN ?_ _ | refine blk_drew ?_ | refine blk_alloc ?_ _)); refine blk_far ?_ NB61001_61012.out _; (with_reducible repeat (first | refine blk_drewN ?_ _ | refine blk_drew ?_ | refine blk_alloc ?_ _)); refine blk_far ?_ NB61001_61012.out _; (with_reducible repeat (first | refine blk_drewN ?_ _ | refine blk_drew ?_ | refine blk_alloc ?_ _)); refine blk_far ?_ NB61001_61012.out _; (with_reducible repeat (first | refine blk_drewN ?_ _ | refine blk_drew ?_ | refine blk_alloc ?_ _)); exact BK61001.out))⟩; have n2_ : Aside0 (w38.heap[gb61002]? = some (.cells #[.int .i64 a1_0, .int .i64 a1_1, .int .i64 a1_2, .slice A1_3 l1_3.length c1_3, .int .i64 a1_4, .int .i64 a1_5, .int .i64 a1_6, .int .i64 a1_7, .bool a1_8] 55 (0, 0))) := ⟨(by rw [hw]; exact (by (with_reducible repeat (first | refine blk_drewN ?_ _ | refine blk_drew ?_ | refine blk_alloc ?_ _)); refine blk_far ?_ NB61002_61012.out _; (with_reducible repeat (first | refine blk_drewN ?_ _ | refine blk_drew ?_ | refine blk_alloc ?_ _)); refine blk_far ?_ NB61002_61012.out _; (with_reducible repeat (first | refine blk_drewN ?_ _ | refine blk_drew ?_ | refine blk_alloc ?_ _)); refine blk_far ?_ NB61002_61012.out _; (with_reducible repeat (first | refine blk_drewN ?_ _ | refine blk_drew ?_ | refine blk_alloc ?_ _)); refine blk_far ?_ NB61002_61012.out _; (with_reducible repeat (first | refine blk_drewN ?_ _ | refine blk_drew ?_ | refine blk_alloc ?_ _)); exact BK61002.out))⟩; have n3_ : Aside0 (w38.heap[gb61003]? = some (.cells #[.int .i64 0, .int .i64 0, .int .i64 0, .slice none 0 0] 27 (0, 0))) := ⟨(by rw [hw]; exact (by (with_reducible repeat (first | refine blk_drewN ?_ _ | refine blk_drew ?_ | refine blk_alloc ?_ _)); refine blk_far ?_ NB61003_61012.out _; (with_reducible repeat (first | refine blk_drewN ?_ _ | refine blk_drew ?_ | refine blk_alloc ?_ _)); refine blk_far ?_ NB61003_61012.out _; (with_reducible repeat (first | refine blk_drewN ?_ _ | refine blk_drew ?_ | refine blk_alloc ?_ _)); refine blk_far ?_ NB61003_61012.out _; (with_reducible repeat (first | refine blk_drewN ?_ _ | refine blk_drew ?_ | refine blk_alloc ?_ _)); refine blk_far ?_ NB61003_61012.out _; (with_reducible repeat (first | refine blk_drewN ?_ _ | refine blk_drew ?_ | refine blk_alloc ?_ _)); exact BK61003.out))⟩; have n4_ : Aside0 (w38.heap[gb61012]? = some (.cells #[.int .i64 t61006, .int .i64 t61007, .int .i64 t61008, .slice Ao37 t61009.length co37] 27 (0, 0))) := ⟨(by rw [hw]; exact (by (with_reducible repeat (first | refine blk_drewN ?_ _ | refine blk_drew ?_ | refine blk_alloc ?_ _)); refine blk_put (cs := #[.int .i64 t61006, .int .i64 t61007, .int .i64 t61008, .slice none 0 0]) ?_ 3 _ rfl; (with_reducible repeat (first | refine blk_drewN ?_ _ | refine blk_drew ?_ | refine blk_alloc ?_ _)); refine blk_put (cs := #[.int .i64 t61006, .int .i64 t61007, .int .i64 0, .slice none 0 0]) ?_ 2 _ rfl; (with_reducible repeat (first | refine blk_drewN ?_ _ | refine blk_drew ?_ | refine blk_alloc ?_ _)); refine blk_put (cs := #[.int .i64 t61006, .int .i64 0, .int .i64 0, .slice none 0 0]) ?_ 1 _ rfl; (with_reducible repeat (first | refine blk_drewN ?_ _ | refine blk_drew ?_ | refine blk_alloc ?_ _)); refine blk_put (cs := #[.int .i64 0, .int .i64 0, .int .i64 0, .slice none 0 0]) ?_ 0 _ rfl; (with_reducible repeat (first | refine blk_drewN ?_ _ | refine blk_drew ?_ | refine blk_alloc ?_ _)); exact BK61012.out))⟩; have n5_ : Aside0 (Below w.heap.size w w38) := ⟨(by rw [hw]; exact (by repeat (first | (with_reducible first | exact HB.out | apply below_alloc | apply pw_below_drewN | apply below_drew1 | refine below_set ?_ GE61001.out | refine below_set ?_ GE61002.out | refine below_set ?_ GE61003.out | refine below_set ?_ GE61012.out) | exact HB.out)))⟩; clear hw; clear HO61011; clear BK61001; clear BK61002; clear BK61003; clear BK61012; clear HB; have HO61011 := n0_; have BK61001 := n1_; have BK61002 := n2_; have BK61003 := n3_; have BK61012 := n4_; have HB := n5_; clear n0_ n1_ n2_ n3_ n4_ n5_; have hcz39_0 : w38.cell? ⟨gb61012, 0, none⟩ = some (.int .i64 t61006) := (blk_cell BK61012.out 0).trans rfl; have hcz39_1 : w38.cell? ⟨gb61012, 1, none⟩ = some (.int .i64 t61007) := (blk_cell BK61012.out 1).trans rfl; have hcz39_2 : w38.cell? ⟨gb61012, 2, none⟩ = some (.int .i64 t61008) := (blk_cell BK61012.out 2).trans rfl; have hcz39_3 : w38.cell? ⟨gb61012, 3, none⟩ = some (.slice Ao37 t61009.length co37) := (blk_cell BK61012.out 3).trans rfl; have hfz39_0 := blk_frozen BK61012.out 0; have hfz39_1 := blk_frozen BK61012.out 1; have hfz39_2 := blk_frozen BK61012.out 2; have hfz39_3 := blk_frozen BK61012.out 3; have hnb40 := NB61002_61003.out; have hnc40 := NB61003_61002.out; have hcz41_0 : w38.cell? ⟨gb61002, 0, none⟩ = some (.int .i64 a1_0) := (blk_cell BK61002.out 0).trans rfl; have hcz41_1 : w38.cell? ⟨gb61002, 1, none⟩ = some (.int .i64 a1_1) := (blk_cell BK61002.out 1).trans rfl; have hcz41_2 : w38.cell? ⟨gb61002, 2, none⟩ = some (.int .i64 a1_2) := (blk_cell BK61002.out 2).trans rfl; have hcz41_3 : w38.cell? ⟨gb61002, 3, none⟩ = some (.slice A1_3 l1_3.length c1_3) := (blk_cell BK61002.out 3).trans rfl; have hcz41_4 : w38.cell? ⟨gb61002, 4, none⟩ = some (.int .i64 a1_4) := (blk_cell BK61002.out 4).trans rfl; have hcz41_5 : w38.cell? ⟨gb61002, 5, none⟩ = some (.int .i64 a1_5) := (blk_cell BK61002.out 5).trans rfl; have hcz41_6 : w38.cell? ⟨gb61002, 6, none⟩ = some (.int .i64 a1_6) := (blk_cell BK61002.out 6).trans rfl; have hcz41_7 : w38.cell? ⟨gb61002, 7, none⟩ = some (.int .i64 a1_7) := (blk_cell BK61002.out 7).trans rfl; have hcz41_8 : w38.cell? ⟨gb61002, 8, none⟩ = some (.bool a1_8) := (blk_cell BK61002.out 8).trans rfl; have hfz41_0 := blk_frozen BK61002.out 0; have hfz41_1 := blk_frozen BK61002.out 1; have hfz41_2 := blk_frozen BK61002.out 2; have hfz41_3 := blk_frozen BK61002.out 3; have hfz41_4 := blk_frozen BK61002.out 4; have hfz41_5 := blk_frozen BK61002.out 5; have hfz41_6 := blk_frozen BK61002.out 6; have hfz41_7 := blk_frozen BK61002.out 7; have hfz41_8 := blk_frozen BK61002.out 8) | ((with_reducible refine gate_callee (f := 114) rfl ?_); refine goesL_ (some 22) rfl rfl Try.func114 (by kernel_rfl) rfl #[.agg #[.int .i64 t61006, .int .i64 t61007, .int .i64 t61008, .slice Ao37 t61009.length co37], .agg #[.int .i64 a1_0, .int .i64 a1_1, .int .i64 a1_2, .slice A1_3 l1_3.length c1_3, .int .i64 a1_4, .int .i64 a1_5, .int .i64 a1_6, .int .i64 a1_7, .bool a1_8]] rfl (by (try simp only [List.map_toArray, List.map_cons, List.map_nil]); first | done | rfl | (simp only [List.length_drop, List.length_take]; rfl)) ?_; (with_reducible refine (spec_blendPaste.calls kj2 t61006 t61007 t61008 (fun k_ => some k_ = (.slice Ao37 t61009.length co37 : Value).ownBlock) (.slice Ao37 t61009.length co37) t61009 a1_0 a1_1 a1_2 _ _ l1_3 a1_4 a1_5 a1_6 a1_7 a1_8 t61013 w _ ?side1 ?side2 ?side3 ?side4 A27.out).mono ?_); (case side1 => repeat (first | (with_reducible first | exact HB.out | apply below_alloc | apply pw_below_drewN | apply below_drew1 | refine below_set ?_ GE61001.out | refine below_set ?_ GE61002.out | refine below_set ?_ GE61003.out | refine below_set ?_ GE61012.out) | exact HB.out)); (case side2 => exact Kd.R_tight rfl HO61011.out); (case side3 => exact Kd.C_kept_came (Kd.heap_int .i64) HR1_3.out (by repeat (first | (with_reducible first | exact HB.out | apply below_alloc | apply pw_below_drewN | apply below_drew1 | refine below_set ?_ GE61001.out | refine below_set ?_ GE61002.out | refine below_set ?_ GE61003.out | refine below_set ?_ GE61012.out) | exact HB.out)) (fun k_ hs_ => (fun e_ => Kd.R_base HO61011.out k_ e_.symm) hs_)); (case side4 => exact HC1_3.out); rintro e w42 ⟨rfl, hy0, hb, hkp⟩; refine ⟨_, rfl, ?_⟩; have n0_ := Aside0.mk (blk_kept (by (with_reducible repeat (first | refine blk_drewN ?_ _ | refine blk_drew ?_ | refine blk_alloc ?_ _)); exact BK61001.out) hkp (fun hs_ => (fun e_ => (Kd.R_ne HO61011.out BK61001.out (by decide)) e_) hs_)); have n1_ := Aside0.mk (blk_kept (by (with_reducible repeat (first | refine blk_drewN ?_ _ | refine blk_drew ?_ | refine blk_alloc ?_ _)); exact BK61002.out) hkp (fun hs_ => (fun e_ => (Kd.R_ne HO61011.out BK61002.out (by decide)) e_) hs_)); have n2_ := Aside0.mk (blk_kept (by (with_reducible repeat (first | refine blk_drewN ?_ _ | refine blk_drew ?_ | refine blk_alloc ?_ _)); exact BK61003.out) hkp (fun hs_ => (fun e_ => (Kd.R_ne HO61011.out BK61003.out (by decide)) e_) hs_)); have n3_ := Aside0.mk (Kd.R_reok rfl hy0 (fun k_ e_ => HO61011.out.1 k_ e_)); have n4_ := Aside0.mk (blk_kept (by (with_reducible repeat (first | refine blk_drewN ?_ _ | refine blk_drew ?_ | refine blk_alloc ?_ _)); exact BK61012.out) hkp (fun hs_ => (fun e_ => (Kd.R_ne HO61011.out BK61012.out (by decide)) e_) hs_)); have n5_ := Aside0.mk (hb); clear BK61001; clear BK61002; clear BK61003; clear HO61011; clear BK61012; clear HB; have BK61001 := n0_; have BK61002 := n1_; have BK61003 := n2_; have HO61011 := n3_; have BK61012 := n4_; have HB := n5_; clear n0_ n1_ n2_ n3_ n4_ n5_; (try clear hb); (try clear hkp); (try clear hy0); have hcz43_0 : w42.cell? ⟨gb61012, 0, none⟩ = some (.int .i64 t61006) := (blk_cell BK61012.out 0).trans rfl; have hcz43_1 : w42.cell? ⟨gb61012, 1, none⟩ = some (.int .i64 t61007) := (blk_cell BK61012.out 1).trans rfl; have hcz43_2 : w42.cell? ⟨gb61012, 2, none⟩ = some (.int .i64 t61008) := (blk_cell BK61012.out 2).trans rfl; have hcz43_3 : w42.cell? ⟨gb61012, 3, none⟩ = some (.slice Ao37 t61009.length co37) := (blk_cell BK61012.out 3).trans rfl; have hfz43_0 := blk_frozen BK61012.out 0; have hfz43_1 := blk_frozen BK61012.out 1; have hfz43_2 := blk_frozen BK61012.out 2; have hfz43_3 := blk_frozen BK61012.out 3; have hcz44_0 : w42.cell? ⟨gb61003, 0, none⟩ = some (.int .i64 0) := (blk_cell BK61003.out 0).trans rfl; have hcz44_1 : w42.cell? ⟨gb61003, 1, none⟩ = some (.int .i64 0) := (blk_cell BK61003.out 1).trans rfl; have hcz44_2 : w42.cell? ⟨gb61003, 2, none⟩ = some (.int .i64 0) := (blk_cell BK61003.out 2).trans rfl; have hcz44_3 : w42.cell? ⟨gb61003, 3, none⟩ = some (.slice none 0 0) := (blk_cell BK61003.out 3).trans rfl; have hfz44_0 := blk_frozen BK61003.out 0; have hfz44_1 := blk_frozen BK61003.out 1; have hfz44_2 := blk_frozen BK61003.out 2; have hfz44_3 := blk_frozen BK61003.out 3))
        refine bodyPost_ret (results_ct rfl _ _ gb61003 27 #[.int .i64 t61006, .int .i64 t61007, .int .i64 t61008, .slice Ao37 t61009.length co37] (0, 0) _ rfl (by (with_reducible repeat (first | refine blk_drewN ?_ _ | refine blk_drew ?_ | refine blk_alloc ?_ _)); refine blk_put (cs := #[.int .i64 t61006, .int .i64 t61007, .int .i64 t61008, .slice none 0 0]) ?_ 3 _ rfl; (with_reducible repeat (first | refine blk_drewN ?_ _ | refine blk_drew ?_ | refine blk_alloc ?_ _)); refine blk_put (cs := #[.int .i64 t61006, .int .i64 t61007, .int .i64 0, .slice none 0 0]) ?_ 2 _ rfl; (with_reducible repeat (first | refine blk_drewN ?_ _ | refine blk_drew ?_ | refine blk_alloc ?_ _)); refine blk_put (cs := #[.int .i64 t61006, .int .i64 0, .int .i64 0, .slice none 0 0]) ?_ 1 _ rfl; (with_reducible repeat (first | refine blk_drewN ?_ _ | refine blk_drew ?_ | refine blk_alloc ?_ _)); refine blk_put (cs := #[.int .i64 0, .int .i64 0, .int .i64 0, .slice none 0 0]) ?_ 0 _ rfl; (with_reducible repeat (first | refine blk_drewN ?_ _ | refine blk_drew ?_ | refine blk_alloc ?_ _)); exact BK61003.out) Try.underlying27 rfl (by kernel_rfl)) rfl ?_
        exact ⟨_, by first | rfl | (simp [errW_none, errW_some] <;> rfl) | (simp [*, errW_none, errW_some] <;> rfl), by (with_reducible repeat (first | apply Kd.R_alloc | apply Kd.R_drewN | apply Kd.R_drew)); exact Kd.R_mono (Kd.R_far (p := ⟨gb61003, 3, none⟩) (Kd.R_far (p := ⟨gb61003, 2, none⟩) (Kd.R_far (p := ⟨gb61003, 1, none⟩) (Kd.R_far (p := ⟨gb61003, 0, none⟩) (Kd.R_types HO61011.out BK61003.out (by decide)) (fun _ hk => hk.2) (.int .i64 t61006)) (fun _ hk => hk.2) (.int .i64 t61007)) (fun _ hk => hk.2) (.int .i64 t61008)) (fun _ hk => hk.2) (.slice Ao37 t61009.length co37)) (fun _ hk => trivial), by repeat (first | (with_reducible first | exact HB.out | apply below_alloc | apply pw_below_drewN | apply below_drew1 | refine below_set ?_ GE61001.out | refine below_set ?_ GE61002.out | refine below_set ?_ GE61003.out | refine below_set ?_ GE61012.out) | exact HB.out)⟩


def impl_isSide.f (a0 : Int) : Option (Bool) := if a0 ≥ 1 then (some (decide (a0 ≤ 16))) else (some false)
set_option maxHeartbeats 8000000 in
set_option maxRecDepth 100000 in
theorem impl_isSide.calls (a0 : Int) (r : Bool) (w : World) (h : impl_isSide.f a0 = some r) :
    Calls Try.prog 153 #[.int .i64 a0] w fun e w' => e = .returned (.bool r) ∧ Drawn0 w w' := by
  have H : (if a0 ≥ 1 then (some (decide (a0 ≤ 16))) else (some false)) = some r := h
  clear h
  by_cases c2 : a0 ≥ 1
  · rw [if_pos c2] at H
    have c2b0 : decide (1 ≤ a0) = true := decide_eq_true c2
    clear c2
    obtain rfl := Option.some.inj H
    go_enter Try.func153, Try.ntmps153
    go_wp2
    go_ret
    exact ⟨by first | rfl | (simp; done) | (simp [*]; done), by repeat (first | exact Drawn0.refl _ | apply Drawn0.step)⟩
  · rw [if_neg c2] at H
    have c2b0 : decide (1 ≤ a0) = false := decide_eq_false c2
    clear c2
    obtain rfl := Option.some.inj H
    go_enter Try.func153, Try.ntmps153
    go_wp2
    go_ret
    exact ⟨by first | rfl | (simp; done) | (simp [*]; done), by repeat (first | exact Drawn0.refl _ | apply Drawn0.step)⟩


def impl_isShape.f (a0 : Int) (a1 : Int) (a2 : Int) : Option (Bool) := (impl_isSide.f a0).bind fun t132001 => (if t132001 = true then ((impl_isSide.f a1).bind fun t132002 => (if t132002 = true then (if a2 ≥ 1 then (some (decide (a2 ≤ 4))) else (some false)) else (some false))) else (some false))
set_option maxHeartbeats 8000000 in
set_option maxRecDepth 100000 in
theorem impl_isShape.calls (a0 : Int) (a1 : Int) (a2 : Int) (r : Bool) (w : World) (h : impl_isShape.f a0 a1 a2 = some r) :
    Calls Try.prog 131 #[.int .i64 a0, .int .i64 a1, .int .i64 a2] w fun e w' => e = .returned (.bool r) ∧ Drawn0 w w' := by
  have H : ((impl_isSide.f a0).bind fun t132001 => (if t132001 = true then ((impl_isSide.f a1).bind fun t132002 => (if t132002 = true then (if a2 ≥ 1 then (some (decide (a2 ≤ 4))) else (some false)) else (some false))) else (some false))) = some r := h
  clear h
  replace H := Option.bind_eq_some_iff.mp H
  obtain ⟨t132001, A40, H⟩ := H
  replace H : (if t132001 = true then ((impl_isSide.f a1).bind fun t132002 => (if t132002 = true then (if a2 ≥ 1 then (some (decide (a2 ≤ 4))) else (some false)) else (some false))) else (some false)) = some r := H
  have A4 := Aside0.mk A40
  clear A40
  by_cases c5 : t132001 = true
  · subst c5
    have H1 : ((impl_isSide.f a1).bind fun t132002 => (if t132002 = true then (if a2 ≥ 1 then (some (decide (a2 ≤ 4))) else (some false)) else (some false))) = some r := by rw [if_pos rfl] at H; exact H
    clear H
    have H := H1
    clear H1
    replace H := Option.bind_eq_some_iff.mp H
    obtain ⟨t132002, A60, H⟩ := H
    replace H : (if t132002 = true then (if a2 ≥ 1 then (some (decide (a2 ≤ 4))) else (some false)) else (some false)) = some r := H
    have A6 := Aside0.mk A60
    clear A60
    by_cases c7 : t132002 = true
    · subst c7
      have H1 : (if a2 ≥ 1 then (some (decide (a2 ≤ 4))) else (some false)) = some r := by rw [if_pos rfl] at H; exact H
      clear H
      have H := H1
      clear H1
      by_cases c8 : a2 ≥ 1
      · rw [if_pos c8] at H
        have c8b0 : decide (1 ≤ a2) = true := decide_eq_true c8
        clear c8
        obtain rfl := Option.some.inj H
        go_enter Try.func131, Try.ntmps131
        go_wp2_with (first | ((with_reducible refine gate_callee (f := 153) rfl ?_); refine goesL_ (some 8) rfl rfl Try.func153 (by kernel_rfl) rfl #[.int .i64 a0] rfl (by (try simp only [List.map_toArray, List.map_cons, List.map_nil]); first | done | rfl | (simp only [List.length_drop, List.length_take]; rfl)) ?_; (with_reducible refine (impl_isSide.calls a0 true _ A4.out).mono ?_); rintro e w' ⟨rfl, ⟨nd, rfl⟩⟩; refine ⟨_, rfl, ?_⟩) | (go_at_call 153; (with_reducible refine (impl_isSide.calls a1 true _ A6.out).mono ?_); rintro e w' ⟨rfl, ⟨nd, rfl⟩⟩))
        go_ret
        exact ⟨by first | rfl | (simp; done) | (simp [*]; done), by repeat (first | exact Drawn0.refl _ | apply Drawn0.step)⟩
      · rw [if_neg c8] at H
        have c8b0 : decide (1 ≤ a2) = false := decide_eq_false c8
        clear c8
        obtain rfl := Option.some.inj H
        go_enter Try.func131, Try.ntmps131
        go_wp2_with (first | ((with_reducible refine gate_callee (f := 153) rfl ?_); refine goesL_ (some 8) rfl rfl Try.func153 (by kernel_rfl) rfl #[.int .i64 a0] rfl (by (try simp only [List.map_toArray, List.map_cons, List.map_nil]); first | done | rfl | (simp only [List.length_drop, List.length_take]; rfl)) ?_; (with_reducible refine (impl_isSide.calls a0 true _ A4.out).mono ?_); rintro e w' ⟨rfl, ⟨nd, rfl⟩⟩; refine ⟨_, rfl, ?_⟩) | (go_at_call 153; (with_reducible refine (impl_isSide.calls a1 true _ A6.out).mono ?_); rintro e w' ⟨rfl, ⟨nd, rfl⟩⟩))
        go_ret
        exact ⟨by first | rfl | (simp; done) | (simp [*]; done), by repeat (first | exact Drawn0.refl _ | apply Drawn0.step)⟩
    · replace c7 := Bool.eq_false_iff.mpr c7
      subst c7
      have H1 : (some false) = some r := by rw [if_neg (show ¬ (false = true) by decide)] at H; exact H
      clear H
      have H := H1
      clear H1
      obtain rfl := Option.some.inj H
      go_enter Try.func131, Try.ntmps131
      go_wp2_with (first | ((with_reducible refine gate_callee (f := 153) rfl ?_); refine goesL_ (some 8) rfl rfl Try.func153 (by kernel_rfl) rfl #[.int .i64 a0] rfl (by (try simp only [List.map_toArray, List.map_cons, List.map_nil]); first | done | rfl | (simp only [List.length_drop, List.length_take]; rfl)) ?_; (with_reducible refine (impl_isSide.calls a0 true _ A4.out).mono ?_); rintro e w' ⟨rfl, ⟨nd, rfl⟩⟩; refine ⟨_, rfl, ?_⟩) | (go_at_call 153; (with_reducible refine (impl_isSide.calls a1 false _ A6.out).mono ?_); rintro e w' ⟨rfl, ⟨nd, rfl⟩⟩))
      go_ret
      exact ⟨by first | rfl | (simp; done) | (simp [*]; done), by repeat (first | exact Drawn0.refl _ | apply Drawn0.step)⟩
  · replace c5 := Bool.eq_false_iff.mpr c5
    subst c5
    have H1 : (some false) = some r := by rw [if_neg (show ¬ (false = true) by decide)] at H; exact H
    clear H
    have H := H1
    clear H1
    obtain rfl := Option.some.inj H
    go_enter Try.func131, Try.ntmps131
    go_wp2_with (first | ((with_reducible refine gate_callee (f := 153) rfl ?_); refine goesL_ (some 8) rfl rfl Try.func153 (by kernel_rfl) rfl #[.int .i64 a0] rfl (by (try simp only [List.map_toArray, List.map_cons, List.map_nil]); first | done | rfl | (simp only [List.length_drop, List.length_take]; rfl)) ?_; (with_reducible refine (impl_isSide.calls a0 false _ A4.out).mono ?_); rintro e w' ⟨rfl, ⟨nd, rfl⟩⟩; refine ⟨_, rfl, ?_⟩))
    go_ret
    exact ⟨by first | rfl | (simp; done) | (simp [*]; done), by repeat (first | exact Drawn0.refl _ | apply Drawn0.step)⟩


/- Words of this session's own hand-made walks: where the first element lies for which a test holds; draws that follow each other. -/

theorem dtrans {a b c : World} (h : Drawn0 a b) (k : Drawn0 b c) : Drawn0 a c := by
  obtain ⟨n, rfl⟩ := k
  exact h.step n

/-- where the first element is for which p holds; -1 -/
def idxF {α : Type} (p : α → Bool) : List α → Int
  | [] => -1
  | x :: xs => if p x then 0 else (let r := idxF p xs; if r < 0 then -1 else r + 1)
theorem idxF_any {α : Type} (p : α → Bool) (l : List α) : decide (idxF p l ≥ 0) = l.any p := by
  induction l with
  | nil => simp [idxF]
  | cons x xs ih =>
    unfold idxF
    by_cases h : p x = true
    · simp [h]
    · simp only [h, List.any_cons, Bool.false_or, ← ih]
      simp only [Bool.false_eq_true, if_false]
      split
      · simp; omega
      · simp; omega
/-- p fails at all that lies before k -/
def SawNone {α : Type} (p : α → Bool) (l : List α) (k : Nat) : Prop := ∀ j, j < k → ∀ h : j < l.length, p l[j] = false
theorem SawNone.succ {α : Type} {p : α → Bool} {l : List α} {k : Nat} (h : SawNone p l k) (hk : k < l.length) (hp : p l[k] = false) : SawNone p l (k + 1) := by
  intro j hj hl
  by_cases e : j = k
  · subst e; exact hp
  · exact h j (by omega) hl
theorem idxF_at {α : Type} (p : α → Bool) (l : List α) (k : Nat) (hk : k < l.length) (hs : SawNone p l k) (hp : p l[k] = true) : idxF p l = k := by
  induction l generalizing k with
  | nil => simp at hk
  | cons x xs ih =>
    unfold idxF
    cases k with
    | zero => simp at hp; simp [hp]
    | succ k =>
      have h0 : p x = false := hs 0 (by omega) (by simp)
      have := ih k (by simpa using hk) (fun j hj h => hs (j + 1) (by omega) (by simpa using h)) (by simpa using hp)
      simp [h0, this]; omega
theorem idxF_none {α : Type} (p : α → Bool) (l : List α) (hs : SawNone p l l.length) : idxF p l = -1 := by
  induction l with
  | nil => rfl
  | cons x xs ih =>
    unfold idxF
    have h0 : p x = false := hs 0 (by simp) (by simp)
    have := ih (fun j hj h => hs (j + 1) (by simpa using hj) (by simpa using h))
    simp [h0, this]
theorem rd_get (l : List Int) (k : Nat) (hk : k < l.length) : rd l k = l[k] := by simp [rd, hk]
theorem ret_bool {a b : Bool} (h : a = b) : Ending.returned (.bool a) = .returned (.bool b) := by rw [h]
theorem R_empty {α : Type} (d : Kd α) (e base : Nat) (W : World) (hb : base ≤ W.heap.size) : d.R e (W.alloc (.cells #[] e)) base (fun _ => True) (.slice (some ⟨W.heap.size, 0, none⟩) 0 0) [] :=
  ⟨fun _ _ => trivial, OwnRow.lit (ps := []) (inner := []) W base (Reps.none _ _) hb (by simp)⟩

/- slices.IndexFunc over whole numbers: where the first element lies for which the function value's answer is true. -/

set_option maxHeartbeats 1000000 in
theorem idxFunc_int (g : Nat) (lb : Array Value) (p : Int → Bool) (A : Option Addr) (c : Nat) (l : List Int) (w : World)
    (eg : ∀ args W, (callFunc g args).run Try.prog W = .ok (.enter g args) W)
    (hp : ∀ (W : World) (x : Int), Below w.heap.size w W → Calls Try.prog g (#[.int .i64 x] ++ lb) W fun e W' => e = .returned (.bool (p x)) ∧ Drawn0 W W')
    (hr : Kd.C (Kd.int .i64) w A l.length l) :
    Calls Try.prog 162 #[.slice A l.length c, .func (.func g) #[] lb] w fun e w' => e = .returned (.int .i64 (idxF p l)) ∧ Drawn0 w w' := by
  have hm : l.length ≤ 9223372036854775807 := hr.2.1
  have HP := Aside0.mk hp
  have HR := Aside0.mk hr
  clear hp hr
  go_enter Try.func162, Try.ntmps162
  go_wp2
  go_loopw [8] (fun v8 W => ∃ k : Nat, v8 = .int .i64 k ∧ k ≤ l.length ∧ SawNone p l k ∧ Drawn0 w W) (fun v8 _ => l.length - (intOf v8).toNat)
  case atStart => exact ⟨0, rfl, by omega, fun j hj => by omega, Drawn0.refl _⟩
  case round =>
    obtain ⟨k, rfl, hk, hs, hd⟩ := hrel
    by_cases hlt : k < l.length
    · obtain ⟨ad, e, hx⟩ := Kd.at_int HR.out (k : Int) (by omega) (by omega)
      cases e
      rw [rd_get l k hlt, Int.toNat_natCast] at hx
      replace hx := (hd.below.cell (World.block_lt_of_cell? w _ hx)).trans hx
      by_cases hv : p l[k] = true
      · have HV := Aside0.mk hv
        clear hv
        go_wp2_with (first | (go_at_fn g; refine (HP.out _ _ hd.below).mono ?_; rintro e w' ⟨rfl, hd2⟩; rw [HV.out]))
        go_ret
        exact ⟨by rw [idxF_at p l k hlt hs HV.out]; rfl, dtrans hd hd2⟩
      · replace hv : p l[k] = false := by simpa using hv
        have hs' := hs.succ hlt hv
        have HV := Aside0.mk hv
        clear hv
        go_wp2_with (first | (go_at_fn g; refine (HP.out _ _ hd.below).mono ?_; rintro e w' ⟨rfl, hd2⟩; rw [HV.out]))
        go_roundw
        case rel => exact ⟨k + 1, by go_num, by omega, hs', dtrans hd hd2⟩
        case measure => simp [intOf]; omega
    · go_wp2
      go_ret
      have : k = l.length := by omega
      subst this
      exact ⟨by rw [idxF_none p l hs]; rfl, hd⟩

/- slices.ContainsFunc over whole numbers. -/

set_option maxHeartbeats 1000000 in
theorem containsFunc_int (g : Nat) (lb : Array Value) (p : Int → Bool) (A : Option Addr) (c : Nat) (l : List Int) (w : World)
    (eg : ∀ args W, (callFunc g args).run Try.prog W = .ok (.enter g args) W)
    (hp : ∀ (W : World) (x : Int), Below w.heap.size w W → Calls Try.prog g (#[.int .i64 x] ++ lb) W fun e W' => e = .returned (.bool (p x)) ∧ Drawn0 W W')
    (hr : Kd.C (Kd.int .i64) w A l.length l) :
    Calls Try.prog 154 #[.slice A l.length c, .func (.func g) #[] lb] w fun e w' => e = .returned (.bool (l.any p)) ∧ Drawn0 w w' := by
  have HP := Aside0.mk hp
  have HR := Aside0.mk hr
  clear hp hr
  go_enter Try.func154, Try.ntmps154
  go_wp2_with (first | (go_at_call 162; refine (idxFunc_int g lb p _ _ _ _ eg HP.out HR.out).mono ?_; rintro e w' ⟨rfl, hd⟩))
  go_ret
  exact ⟨ret_bool (by first | exact idxF_any p l | (rw [← idxF_any p l])), hd⟩

/- impl.areBytes: every number is in 0..255. -/

def notByte (n : Int) : Bool := decide (n < 0) || decide (n > 255)
def impl_areBytes.f (l0 : List Int) : Option Bool := some (!l0.any notByte)

theorem areBytes1 (n : Int) (w : World) : Calls Try.prog 155 #[.int .i64 n] w fun e w' => e = .returned (.bool (notByte n)) ∧ Drawn0 w w' := by
  by_cases h1 : n < 0 <;> by_cases h2 : n > 255
  all_goals
    go_enter Try.func155, Try.ntmps155
    go_wp2
    go_ret
    exact ⟨by simp [notByte, *], Drawn0.refl _⟩

set_option maxHeartbeats 1000000 in
theorem impl_areBytes.calls (A0 : Option Addr) (c0 : Nat) (l0 : List Int) (r : Bool) (w : World) (hr0 : Kd.C (Kd.int .i64) w A0 l0.length l0) (hc0 : l0.length ≤ c0) (h : impl_areBytes.f l0 = some r) :
    Calls Try.prog 132 #[.slice A0 l0.length c0] w fun e w' => e = .returned (.bool r) ∧ Drawn0 w w' := by
  obtain rfl := Option.some.inj h
  clear h
  have HR := Aside0.mk hr0
  clear hr0
  have eg : ∀ args W, (callFunc 155 args).run Try.prog W = .ok (.enter 155 args) W := enters_of Try.func155 (by kernel_rfl) rfl
  go_enter Try.func132, Try.ntmps132
  go_wp2_with (first | (go_at_call 154; refine (containsFunc_int 155 #[] notByte _ _ _ _ eg (fun W x _ => areBytes1 x W) HR.out).mono ?_; rintro e w' ⟨rfl, hd⟩))
  go_ret
  exact ⟨rfl, hd⟩

def impl_isImage.f (a0_0 : Int) (a0_1 : Int) (a0_2 : Int) (l0_3 : List Int) : Option (Bool) := (impl_isShape.f a0_0 a0_1 a0_2).bind fun t84002 => (if t84002 = true then (if (l0_3.length : Int) = (wrap64 ((wrap64 (a0_0 * a0_1)) * a0_2)) then ((impl_areBytes.f l0_3).bind fun t84003 => (some t84003)) else (some false)) else (some false))
set_option maxHeartbeats 8000000 in
set_option maxRecDepth 100000 in
theorem impl_isImage.calls (a0_0 : Int) (a0_1 : Int) (a0_2 : Int) (A0_3 : Option Addr) (c0_3 : Nat) (l0_3 : List Int) (r : Bool) (w : World) (hr0_3 : Kd.C (Kd.int .i64) w A0_3 l0_3.length l0_3) (hc0_3 : l0_3.length ≤ c0_3) (h : impl_isImage.f a0_0 a0_1 a0_2 l0_3 = some r) :
    Calls Try.prog 83 #[.agg #[.int .i64 a0_0, .int .i64 a0_1, .int .i64 a0_2, .slice A0_3 l0_3.length c0_3]] w fun e w' => e = .returned (.bool r) ∧ Below w.heap.size w w' := by
  have hu27 := Try.underlying27
  have HR0_3 := Aside0.mk hr0_3
  have HC0_3 := Aside0.mk hc0_3
  clear hr0_3 hc0_3
  have HB := Aside0.mk (Below.refl w.heap.size w)
  have H : ((impl_isShape.f a0_0 a0_1 a0_2).bind fun t84002 => (if t84002 = true then (if (l0_3.length : Int) = (wrap64 ((wrap64 (a0_0 * a0_1)) * a0_2)) then ((impl_areBytes.f l0_3).bind fun t84003 => (some t84003)) else (some false)) else (some false))) = some r := h
  clear h
  replace H := Option.bind_eq_some_iff.mp H
  obtain ⟨t84002, A20, H⟩ := H
  replace H : (if t84002 = true then (if (l0_3.length : Int) = (wrap64 ((wrap64 (a0_0 * a0_1)) * a0_2)) then ((impl_areBytes.f l0_3).bind fun t84003 => (some t84003)) else (some false)) else (some false)) = some r := H
  have A2 := Aside0.mk A20
  clear A20
  by_cases c3 : t84002 = true
  · subst c3
    have H1 : (if (l0_3.length : Int) = (wrap64 ((wrap64 (a0_0 * a0_1)) * a0_2)) then ((impl_areBytes.f l0_3).bind fun t84003 => (some t84003)) else (some false)) = some r := by rw [if_pos rfl] at H; exact H
    clear H
    have H := H1
    clear H1
    by_cases c4 : (l0_3.length : Int) = (wrap64 ((wrap64 (a0_0 * a0_1)) * a0_2))
    · rw [if_pos c4] at H
      have c4b0 : ((l0_3.length : Int) == (wrap64 ((wrap64 (a0_0 * a0_1)) * a0_2))) = true := beq_iff_eq.mpr c4
      have c4b1 : ((l0_3.length : Int) != (wrap64 ((wrap64 (a0_0 * a0_1)) * a0_2))) = false := bne_eq_false_iff_eq.mpr c4
      clear c4
      replace H := Option.bind_eq_some_iff.mp H
      obtain ⟨t84003, A50, H⟩ := H
      replace H : (some t84003) = some r := H
      have A5 := Aside0.mk A50
      clear A50
      obtain rfl := Option.some.inj H
      go_enter Try.func83, Try.ntmps83
      go_wp2_with (first | ((with_reducible refine gate_dst (N := 1) rfl ?_); (try (refine gate_guard (by rfl) ?_; dsimp only)); refine box_event ?hg (N := 1) ?hd (cs := #[.int .i64 a0_0, .int .i64 a0_1, .int .i64 a0_2, .slice A0_3 l0_3.length c0_3]) (t := 27) ?hr ?_; (case hd => rfl); (case hg => rfl); (case hr => first | (go_simp; done) | (go_simp; rfl)); intro gb84001 hg w6 hbox hb; have n0_ := Aside0.mk (below_step (by repeat (first | (with_reducible first | exact HB.out | apply below_alloc | apply pw_below_drewN | apply below_drew1) | exact HB.out)) hb); have n1_ := Aside0.mk (hbox); have n2_ := Aside0.mk ((by rw [hg]; exact (below_size (by repeat (first | (with_reducible first | exact HB.out | apply below_alloc | apply pw_below_drewN | apply below_drew1) | exact HB.out))) : w.heap.size ≤ gb84001)); have n3_ := Aside0.mk ((by rw [hg]; exact (below_size (by repeat (first | (with_reducible first | exact HB.out | apply below_alloc | apply pw_below_drewN | apply below_drew1) | exact HB.out))) : w.heap.size ≤ gb84001)); clear HB; have HB := n0_; have BK84001 := n1_; have GW84001 := n2_; have GE84001 := n3_; clear n0_ n1_ n2_ n3_; clear hb hbox hg; have hcz7_0 : w6.cell? ⟨gb84001, 0, none⟩ = some (.int .i64 a0_0) := (blk_cell BK84001.out 0).trans rfl; have hcz7_1 : w6.cell? ⟨gb84001, 1, none⟩ = some (.int .i64 a0_1) := (blk_cell BK84001.out 1).trans rfl; have hcz7_2 : w6.cell? ⟨gb84001, 2, none⟩ = some (.int .i64 a0_2) := (blk_cell BK84001.out 2).trans rfl; have hcz7_3 : w6.cell? ⟨gb84001, 3, none⟩ = some (.slice A0_3 l0_3.length c0_3) := (blk_cell BK84001.out 3).trans rfl; have hfz7_0 := blk_frozen BK84001.out 0; have hfz7_1 := blk_frozen BK84001.out 1; have hfz7_2 := blk_frozen BK84001.out 2; have hfz7_3 := blk_frozen BK84001.out 3) | ((with_reducible refine gate_callee (f := 131) rfl ?_); refine goesL_ (some 9) rfl rfl Try.func131 (by kernel_rfl) rfl #[.int .i64 a0_0, .int .i64 a0_1, .int .i64 a0_2] rfl (by (try simp only [List.map_toArray, List.map_cons, List.map_nil]); first | done | rfl | (simp only [List.length_drop, List.length_take]; rfl)) ?_; (with_reducible refine (impl_isShape.calls a0_0 a0_1 a0_2 true _ A2.out).mono ?_); rintro e w' ⟨rfl, ⟨nd, rfl⟩⟩; refine ⟨_, rfl, ?_⟩) | (go_at_call 132; (with_reducible refine (impl_areBytes.calls _ _ l0_3 t84003 _ ?side1 ?side2 A5.out).mono ?_); (case side1 => repeat (first | exact (Kd.C_below HR0_3.out (by repeat (first | (with_reducible first | exact HB.out | apply below_alloc | apply pw_below_drewN | apply below_drew1 | refine below_set ?_ GE84001.out) | exact HB.out))) | (with_reducible refine Kd.C_alloc ?_ _) | (with_reducible refine Kd.C_drewN ?_ _) | (with_reducible refine Kd.C_drew ?_))); (case side2 => exact HC0_3.out); rintro e w' ⟨rfl, ⟨nd, rfl⟩⟩))
      go_ret
      exact ⟨by first | rfl | (simp [errW_none, errW_some] <;> rfl) | (simp [*, errW_none, errW_some] <;> rfl), by repeat (first | (with_reducible first | exact HB.out | apply below_alloc | apply pw_below_drewN | apply below_drew1 | refine below_set ?_ GE84001.out) | exact HB.out)⟩
    · rw [if_neg c4] at H
      have c4b0 : ((l0_3.length : Int) == (wrap64 ((wrap64 (a0_0 * a0_1)) * a0_2))) = false := beq_eq_false_iff_ne.mpr c4
      have c4b1 : ((l0_3.length : Int) != (wrap64 ((wrap64 (a0_0 * a0_1)) * a0_2))) = true := bne_iff_ne.mpr c4
      obtain rfl := Option.some.inj H
      go_enter Try.func83, Try.ntmps83
      go_wp2_with (first | ((with_reducible refine gate_dst (N := 1) rfl ?_); (try (refine gate_guard (by rfl) ?_; dsimp only)); refine box_event ?hg (N := 1) ?hd (cs := #[.int .i64 a0_0, .int .i64 a0_1, .int .i64 a0_2, .slice A0_3 l0_3.length c0_3]) (t := 27) ?hr ?_; (case hd => rfl); (case hg => rfl); (case hr => first | (go_simp; done) | (go_simp; rfl)); intro gb84001 hg w8 hbox hb; have n0_ := Aside0.mk (below_step (by repeat (first | (with_reducible first | exact HB.out | apply below_alloc | apply pw_below_drewN | apply below_drew1) | exact HB.out)) hb); have n1_ := Aside0.mk (hbox); have n2_ := Aside0.mk ((by rw [hg]; exact (below_size (by repeat (first | (with_reducible first | exact HB.out | apply below_alloc | apply pw_below_drewN | apply below_drew1) | exact HB.out))) : w.heap.size ≤ gb84001)); have n3_ := Aside0.mk ((by rw [hg]; exact (below_size (by repeat (first | (with_reducible first | exact HB.out | apply below_alloc | apply pw_below_drewN | apply below_drew1) | exact HB.out))) : w.heap.size ≤ gb84001)); clear HB; have HB := n0_; have BK84001 := n1_; have GW84001 := n2_; have GE84001 := n3_; clear n0_ n1_ n2_ n3_; clear hb hbox hg; have hcz9_0 : w8.cell? ⟨gb84001, 0, none⟩ = some (.int .i64 a0_0) := (blk_cell BK84001.out 0).trans rfl; have hcz9_1 : w8.cell? ⟨gb84001, 1, none⟩ = some (.int .i64 a0_1) := (blk_cell BK84001.out 1).trans rfl; have hcz9_2 : w8.cell? ⟨gb84001, 2, none⟩ = some (.int .i64 a0_2) := (blk_cell BK84001.out 2).trans rfl; have hcz9_3 : w8.cell? ⟨gb84001, 3, none⟩ = some (.slice A0_3 l0_3.length c0_3) := (blk_cell BK84001.out 3).trans rfl; have hfz9_0 := blk_frozen BK84001.out 0; have hfz9_1 := blk_frozen BK84001.out 1; have hfz9_2 := blk_frozen BK84001.out 2; have hfz9_3 := blk_frozen BK84001.out 3) | ((with_reducible refine gate_callee (f := 131) rfl ?_); refine goesL_ (some 9) rfl rfl Try.func131 (by kernel_rfl) rfl #[.int .i64 a0_0, .int .i64 a0_1, .int .i64 a0_2] rfl (by (try simp only [List.map_toArray, List.map_cons, List.map_nil]); first | done | rfl | (simp only [List.length_drop, List.length_take]; rfl)) ?_; (with_reducible refine (impl_isShape.calls a0_0 a0_1 a0_2 true _ A2.out).mono ?_); rintro e w' ⟨rfl, ⟨nd, rfl⟩⟩; refine ⟨_, rfl, ?_⟩))
      go_ret
      exact ⟨by first | rfl | (simp [errW_none, errW_some] <;> rfl) | (simp [*, errW_none, errW_some] <;> rfl), by repeat (first | (with_reducible first | exact HB.out | apply below_alloc | apply pw_below_drewN | apply below_drew1 | refine below_set ?_ GE84001.out) | exact HB.out)⟩
  · replace c3 := Bool.eq_false_iff.mpr c3
    subst c3
    have H1 : (some false) = some r := by rw [if_neg (show ¬ (false = true) by decide)] at H; exact H
    clear H
    have H := H1
    clear H1
    obtain rfl := Option.some.inj H
    go_enter Try.func83, Try.ntmps83
    go_wp2_with (first | ((with_reducible refine gate_dst (N := 1) rfl ?_); (try (refine gate_guard (by rfl) ?_; dsimp only)); refine box_event ?hg (N := 1) ?hd (cs := #[.int .i64 a0_0, .int .i64 a0_1, .int .i64 a0_2, .slice A0_3 l0_3.length c0_3]) (t := 27) ?hr ?_; (case hd => rfl); (case hg => rfl); (case hr => first | (go_simp; done) | (go_simp; rfl)); intro gb84001 hg w10 hbox hb; have n0_ := Aside0.mk (below_step (by repeat (first | (with_reducible first | exact HB.out | apply below_alloc | apply pw_below_drewN | apply below_drew1) | exact HB.out)) hb); have n1_ := Aside0.mk (hbox); have n2_ := Aside0.mk ((by rw [hg]; exact (below_size (by repeat (first | (with_reducible first | exact HB.out | apply below_alloc | apply pw_below_drewN | apply below_drew1) | exact HB.out))) : w.heap.size ≤ gb84001)); have n3_ := Aside0.mk ((by rw [hg]; exact (below_size (by repeat (first | (with_reducible first | exact HB.out | apply below_alloc | apply pw_below_drewN | apply below_drew1) | exact HB.out))) : w.heap.size ≤ gb84001)); clear HB; have HB := n0_; have BK84001 := n1_; have GW84001 := n2_; have GE84001 := n3_; clear n0_ n1_ n2_ n3_; clear hb hbox hg; have hcz11_0 : w10.cell? ⟨gb84001, 0, none⟩ = some (.int .i64 a0_0) := (blk_cell BK84001.out 0).trans rfl; have hcz11_1 : w10.cell? ⟨gb84001, 1, none⟩ = some (.int .i64 a0_1) := (blk_cell BK84001.out 1).trans rfl; have hcz11_2 : w10.cell? ⟨gb84001, 2, none⟩ = some (.int .i64 a0_2) := (blk_cell BK84001.out 2).trans rfl; have hcz11_3 : w10.cell? ⟨gb84001, 3, none⟩ = some (.slice A0_3 l0_3.length c0_3) := (blk_cell BK84001.out 3).trans rfl; have hfz11_0 := blk_frozen BK84001.out 0; have hfz11_1 := blk_frozen BK84001.out 1; have hfz11_2 := blk_frozen BK84001.out 2; have hfz11_3 := blk_frozen BK84001.out 3) | ((with_reducible refine gate_callee (f := 131) rfl ?_); refine goesL_ (some 9) rfl rfl Try.func131 (by kernel_rfl) rfl #[.int .i64 a0_0, .int .i64 a0_1, .int .i64 a0_2] rfl (by (try simp only [List.map_toArray, List.map_cons, List.map_nil]); first | done | rfl | (simp only [List.length_drop, List.length_take]; rfl)) ?_; (with_reducible refine (impl_isShape.calls a0_0 a0_1 a0_2 false _ A2.out).mono ?_); rintro e w' ⟨rfl, ⟨nd, rfl⟩⟩; refine ⟨_, rfl, ?_⟩))
    go_ret
    exact ⟨by first | rfl | (simp [errW_none, errW_some] <;> rfl) | (simp [*, errW_none, errW_some] <;> rfl), by repeat (first | (with_reducible first | exact HB.out | apply below_alloc | apply pw_below_drewN | apply below_drew1 | refine below_set ?_ GE84001.out) | exact HB.out)⟩


def impl_isMode.f (a0 : Int) : Option (Bool) := if a0 ≥ 0 then (some (decide (a0 ≤ 4))) else (some false)
set_option maxHeartbeats 8000000 in
set_option maxRecDepth 100000 in
theorem impl_isMode.calls (a0 : Int) (r : Bool) (w : World) (h : impl_isMode.f a0 = some r) :
    Calls Try.prog 141 #[.int .i64 a0] w fun e w' => e = .returned (.bool r) ∧ Drawn0 w w' := by
  have H : (if a0 ≥ 0 then (some (decide (a0 ≤ 4))) else (some false)) = some r := h
  clear h
  by_cases c2 : a0 ≥ 0
  · rw [if_pos c2] at H
    have c2b0 : decide (0 ≤ a0) = true := decide_eq_true c2
    clear c2
    obtain rfl := Option.some.inj H
    go_enter Try.func141, Try.ntmps141
    go_wp2
    go_ret
    exact ⟨by first | rfl | (simp; done) | (simp [*]; done), by repeat (first | exact Drawn0.refl _ | apply Drawn0.step)⟩
  · rw [if_neg c2] at H
    have c2b0 : decide (0 ≤ a0) = false := decide_eq_false c2
    clear c2
    obtain rfl := Option.some.inj H
    go_enter Try.func141, Try.ntmps141
    go_wp2
    go_ret
    exact ⟨by first | rfl | (simp; done) | (simp [*]; done), by repeat (first | exact Drawn0.refl _ | apply Drawn0.step)⟩


def impl_isLayer.f (a0_0 : Int) (a0_1 : Int) (a0_2 : Int) (l0_3 : List Int) (a0_4 : Int) (a0_5 : Int) (a0_6 : Int) (a0_7 : Int) (a0_8 : Bool) (a1 : Int) : Option (Bool) := (impl_isImage.f a0_0 a0_1 a0_2 l0_3).bind fun t104002 => (if t104002 = true then (if a0_2 = a1 then (if a0_4 ≥ (-16) then (if a0_4 ≤ 16 then (if a0_5 ≥ (-16) then (if a0_5 ≤ 16 then ((impl_isMode.f a0_6).bind fun t104003 => (if t104003 = true then (if a0_7 ≥ 0 then (some (decide (a0_7 ≤ 255))) else (some false)) else (some false))) else (some false)) else (some false)) else (some false)) else (some false)) else (some false)) else (some false))
set_option maxHeartbeats 8000000 in
set_option maxRecDepth 100000 in
theorem impl_isLayer.calls (a0_0 : Int) (a0_1 : Int) (a0_2 : Int) (A0_3 : Option Addr) (c0_3 : Nat) (l0_3 : List Int) (a0_4 : Int) (a0_5 : Int) (a0_6 : Int) (a0_7 : Int) (a0_8 : Bool) (a1 : Int) (r : Bool) (w : World) (hr0_3 : Kd.C (Kd.int .i64) w A0_3 l0_3.length l0_3) (hc0_3 : l0_3.length ≤ c0_3) (h : impl_isLayer.f a0_0 a0_1 a0_2 l0_3 a0_4 a0_5 a0_6 a0_7 a0_8 a1 = some r) :
    Calls Try.prog 103 #[.agg #[.int .i64 a0_0, .int .i64 a0_1, .int .i64 a0_2, .slice A0_3 l0_3.length c0_3, .int .i64 a0_4, .int .i64 a0_5, .int .i64 a0_6, .int .i64 a0_7, .bool a0_8], .int .i64 a1] w fun e w' => e = .returned (.bool r) ∧ Below w.heap.size w w' := by
  have hu55 := Try.underlying55
  have hu27 := Try.underlying27
  have HR0_3 := Aside0.mk hr0_3
  have HC0_3 := Aside0.mk hc0_3
  clear hr0_3 hc0_3
  have HB := Aside0.mk (Below.refl w.heap.size w)
  have H : ((impl_isImage.f a0_0 a0_1 a0_2 l0_3).bind fun t104002 => (if t104002 = true then (if a0_2 = a1 then (if a0_4 ≥ (-16) then (if a0_4 ≤ 16 then (if a0_5 ≥ (-16) then (if a0_5 ≤ 16 then ((impl_isMode.f a0_6).bind fun t104003 => (if t104003 = true then (if a0_7 ≥ 0 then (some (decide (a0_7 ≤ 255))) else (some false)) else (some false))) else (some false)) else (some false)) else (some false)) else (some false)) else (some false)) else (some false))) = some r := h
  clear h
  replace H := Option.bind_eq_some_iff.mp H
  obtain ⟨t104002, A30, H⟩ := H
  replace H : (if t104002 = true then (if a0_2 = a1 then (if a0_4 ≥ (-16) then (if a0_4 ≤ 16 then (if a0_5 ≥ (-16) then (if a0_5 ≤ 16 then ((impl_isMode.f a0_6).bind fun t104003 => (if t104003 = true then (if a0_7 ≥ 0 then (some (decide (a0_7 ≤ 255))) else (some false)) else (some false))) else (some false)) else (some false)) else (some false)) else (some false)) else (some false)) else (some false)) = some r := H
  have A3 := Aside0.mk A30
  clear A30
  by_cases c4 : t104002 = true
  · subst c4
    have H1 : (if a0_2 = a1 then (if a0_4 ≥ (-16) then (if a0_4 ≤ 16 then (if a0_5 ≥ (-16) then (if a0_5 ≤ 16 then ((impl_isMode.f a0_6).bind fun t104003 => (if t104003 = true then (if a0_7 ≥ 0 then (some (decide (a0_7 ≤ 255))) else (some false)) else (some false))) else (some false)) else (some false)) else (some false)) else (some false)) else (some false)) = some r := by rw [if_pos rfl] at H; exact H
    clear H
    have H := H1
    clear H1
    by_cases c5 : a0_2 = a1
    · rw [if_pos c5] at H
      have c5b0 : (a0_2 == a1) = true := beq_iff_eq.mpr c5
      have c5b1 : (a0_2 != a1) = false := bne_eq_false_iff_eq.mpr c5
      clear c5
      by_cases c6 : a0_4 ≥ (-16)
      · rw [if_pos c6] at H
        have c6b0 : decide ((-16) ≤ a0_4) = true := decide_eq_true c6
        clear c6
        by_cases c7 : a0_4 ≤ 16
        · rw [if_pos c7] at H
          have c7b0 : decide (a0_4 ≤ 16) = true := decide_eq_true c7
          clear c7
          by_cases c8 : a0_5 ≥ (-16)
          · rw [if_pos c8] at H
            have c8b0 : decide ((-16) ≤ a0_5) = true := decide_eq_true c8
            clear c8
            by_cases c9 : a0_5 ≤ 16
            · rw [if_pos c9] at H
              have c9b0 : decide (a0_5 ≤ 16) = true := decide_eq_true c9
              clear c9
              replace H := Option.bind_eq_some_iff.mp H
              obtain ⟨t104003, A100, H⟩ := H
              replace H : (if t104003 = true then (if a0_7 ≥ 0 then (some (decide (a0_7 ≤ 255))) else (some false)) else (some false)) = some r := H
              have A10 := Aside0.mk A100
              clear A100
              by_cases c11 : t104003 = true
              · subst c11
                have H1 : (if a0_7 ≥ 0 then (some (decide (a0_7 ≤ 255))) else (some false)) = some r := by rw [if_pos rfl] at H; exact H
                clear H
                have H := H1
                clear H1
                by_cases c12 : a0_7 ≥ 0
                · rw [if_pos c12] at H
                  have c12b0 : decide (0 ≤ a0_7) = true := decide_eq_true c12
                  clear c12
                  obtain rfl := Option.some.inj H
                  go_enter Try.func103, Try.ntmps103
                  go_wp2_with (first | ((with_reducible refine gate_dst (N := 2) rfl ?_); refine box_event ?hg (N := 2) ?hd (cs := #[.int .i64 a0_0, .int .i64 a0_1, .int .i64 a0_2, .slice A0_3 l0_3.length c0_3, .int .i64 a0_4, .int .i64 a0_5, .int .i64 a0_6, .int .i64 a0_7, .bool a0_8]) (t := 55) ?hr ?_; (case hd => rfl); (case hg => rfl); (case hr => first | (go_simp; done) | (go_simp; rfl)); intro gb104001 hg w13 hbox hb; have n0_ := Aside0.mk (below_step (by repeat (first | (with_reducible first | exact HB.out | apply below_alloc | apply pw_below_drewN | apply below_drew1) | exact HB.out)) hb); have n1_ := Aside0.mk (hbox); have n2_ := Aside0.mk ((by rw [hg]; exact (below_size (by repeat (first | (with_reducible first | exact HB.out | apply below_alloc | apply pw_below_drewN | apply below_drew1) | exact HB.out))) : w.heap.size ≤ gb104001)); have n3_ := Aside0.mk ((by rw [hg]; exact (below_size (by repeat (first | (with_reducible first | exact HB.out | apply below_alloc | apply pw_below_drewN | apply below_drew1) | exact HB.out))) : w.heap.size ≤ gb104001)); clear HB; have HB := n0_; have BK104001 := n1_; have GW104001 := n2_; have GE104001 := n3_; clear n0_ n1_ n2_ n3_; clear hb hbox hg; have hcz14_0 : w13.cell? ⟨gb104001, 0, none⟩ = some (.int .i64 a0_0) := (blk_cell BK104001.out 0).trans rfl; have hcz14_1 : w13.cell? ⟨gb104001, 1, none⟩ = some (.int .i64 a0_1) := (blk_cell BK104001.out 1).trans rfl; have hcz14_2 : w13.cell? ⟨gb104001, 2, none⟩ = some (.int .i64 a0_2) := (blk_cell BK104001.out 2).trans rfl; have hcz14_3 : w13.cell? ⟨gb104001, 3, none⟩ = some (.slice A0_3 l0_3.length c0_3) := (blk_cell BK104001.out 3).trans rfl; have hcz14_4 : w13.cell? ⟨gb104001, 4, none⟩ = some (.int .i64 a0_4) := (blk_cell BK104001.out 4).trans rfl; have hcz14_5 : w13.cell? ⟨gb104001, 5, none⟩ = some (.int .i64 a0_5) := (blk_cell BK104001.out 5).trans rfl; have hcz14_6 : w13.cell? ⟨gb104001, 6, none⟩ = some (.int .i64 a0_6) := (blk_cell BK104001.out 6).trans rfl; have hcz14_7 : w13.cell? ⟨gb104001, 7, none⟩ = some (.int .i64 a0_7) := (blk_cell BK104001.out 7).trans rfl; have hcz14_8 : w13.cell? ⟨gb104001, 8, none⟩ = some (.bool a0_8) := (blk_cell BK104001.out 8).trans rfl; have hfz14_0 := blk_frozen BK104001.out 0; have hfz14_1 := blk_frozen BK104001.out 1; have hfz14_2 := blk_frozen BK104001.out 2; have hfz14_3 := blk_frozen BK104001.out 3; have hfz14_4 := blk_frozen BK104001.out 4; have hfz14_5 := blk_frozen BK104001.out 5; have hfz14_6 := blk_frozen BK104001.out 6; have hfz14_7 := blk_frozen BK104001.out 7; have hfz14_8 := blk_frozen BK104001.out 8) | ((with_reducible refine gate_callee (f := 83) rfl ?_); refine goesL_ (some 7) rfl rfl Try.func83 (by kernel_rfl) rfl #[.agg #[.int .i64 a0_0, .int .i64 a0_1, .int .i64 a0_2, .slice A0_3 l0_3.length c0_3]] rfl (by (try simp only [List.map_toArray, List.map_cons, List.map_nil]); first | done | rfl | (simp only [List.length_drop, List.length_take]; rfl)) ?_; (with_reducible refine (impl_isImage.calls a0_0 a0_1 a0_2 _ _ l0_3 true _ ?side1 ?side2 A3.out).mono ?_); (case side1 => repeat (first | exact (Kd.C_below HR0_3.out HB.out) | (with_reducible refine Kd.C_alloc ?_ _) | (with_reducible refine Kd.C_drewN ?_ _) | (with_reducible refine Kd.C_drew ?_))); (case side2 => exact HC0_3.out); rintro e w15 ⟨rfl, hb⟩; refine ⟨_, rfl, ?_⟩; have n0_ := Aside0.mk (blk_below (g := gb104001) (o := .cells #[.int .i64 a0_0, .int .i64 a0_1, .int .i64 a0_2, .slice A0_3 l0_3.length c0_3, .int .i64 a0_4, .int .i64 a0_5, .int .i64 a0_6, .int .i64 a0_7, .bool a0_8] 55 (0, 0)) (by (with_reducible repeat (first | refine blk_drewN ?_ _ | refine blk_drew ?_ | refine blk_alloc ?_ _)); exact BK104001.out) hb); have n1_ := Aside0.mk (below_step (by repeat (first | (with_reducible first | exact HB.out | apply below_alloc | apply pw_below_drewN | apply below_drew1 | refine below_set ?_ GE104001.out) | exact HB.out)) hb); clear BK104001; clear HB; have BK104001 := n0_; have HB := n1_; clear n0_ n1_; (try clear hb); (try clear hb2); (try clear hk); (try clear hi); have hcz16_0 : w15.cell? ⟨gb104001, 0, none⟩ = some (.int .i64 a0_0) := (blk_cell BK104001.out 0).trans rfl; have hcz16_1 : w15.cell? ⟨gb104001, 1, none⟩ = some (.int .i64 a0_1) := (blk_cell BK104001.out 1).trans rfl; have hcz16_2 : w15.cell? ⟨gb104001, 2, none⟩ = some (.int .i64 a0_2) := (blk_cell BK104001.out 2).trans rfl; have hcz16_3 : w15.cell? ⟨gb104001, 3, none⟩ = some (.slice A0_3 l0_3.length c0_3) := (blk_cell BK104001.out 3).trans rfl; have hcz16_4 : w15.cell? ⟨gb104001, 4, none⟩ = some (.int .i64 a0_4) := (blk_cell BK104001.out 4).trans rfl; have hcz16_5 : w15.cell? ⟨gb104001, 5, none⟩ = some (.int .i64 a0_5) := (blk_cell BK104001.out 5).trans rfl; have hcz16_6 : w15.cell? ⟨gb104001, 6, none⟩ = some (.int .i64 a0_6) := (blk_cell BK104001.out 6).trans rfl; have hcz16_7 : w15.cell? ⟨gb104001, 7, none⟩ = some (.int .i64 a0_7) := (blk_cell BK104001.out 7).trans rfl; have hcz16_8 : w15.cell? ⟨gb104001, 8, none⟩ = some (.bool a0_8) := (blk_cell BK104001.out 8).trans rfl; have hfz16_0 := blk_frozen BK104001.out 0; have hfz16_1 := blk_frozen BK104001.out 1; have hfz16_2 := blk_frozen BK104001.out 2; have hfz16_3 := blk_frozen BK104001.out 3; have hfz16_4 := blk_frozen BK104001.out 4; have hfz16_5 := blk_frozen BK104001.out 5; have hfz16_6 := blk_frozen BK104001.out 6; have hfz16_7 := blk_frozen BK104001.out 7; have hfz16_8 := blk_frozen BK104001.out 8) | (go_at_call 141; (with_reducible refine (impl_isMode.calls a0_6 true _ A10.out).mono ?_); rintro e w' ⟨rfl, ⟨nd, rfl⟩⟩))
                  go_ret
                  exact ⟨by first | rfl | (simp [errW_none, errW_some] <;> rfl) | (simp [*, errW_none, errW_some] <;> rfl), by repeat (first | (with_reducible first | exact HB.out | apply below_alloc | apply pw_below_drewN | apply below_drew1 | refine below_set ?_ GE104001.out) | exact HB.out)⟩
                · rw [if_neg c12] at H
                  have c12b0 : decide (0 ≤ a0_7) = false := decide_eq_false c12
                  clear c12
                  obtain rfl := Option.some.inj H
                  go_enter Try.func103, Try.ntmps103
                  go_wp2_with (first | ((with_reducible refine gate_dst (N := 2) rfl ?_); refine box_event ?hg (N := 2) ?hd (cs := #[.int .i64 a0_0, .int .i64 a0_1, .int .i64 a0_2, .slice A0_3 l0_3.length c0_3, .int .i64 a0_4, .int .i64 a0_5, .int .i64 a0_6, .int .i64 a0_7, .bool a0_8]) (t := 55) ?hr ?_; (case hd => rfl); (case hg => rfl); (case hr => first | (go_simp; done) | (go_simp; rfl)); intro gb104001 hg w17 hbox hb; have n0_ := Aside0.mk (below_step (by repeat (first | (with_reducible first | exact HB.out | apply below_alloc | apply pw_below_drewN | apply below_drew1) | exact HB.out)) hb); have n1_ := Aside0.mk (hbox); have n2_ := Aside0.mk ((by rw [hg]; exact (below_size (by repeat (first | (with_reducible first | exact HB.out | apply below_alloc | apply pw_below_drewN | apply below_drew1) | exact HB.out))) : w.heap.size ≤ gb104001)); have n3_ := Aside0.mk ((by rw [hg]; exact (below_size (by repeat (first | (with_reducible first | exact HB.out | apply below_alloc | apply pw_below_drewN | apply below_drew1) | exact HB.out))) : w.heap.size ≤ gb104001)); clear HB; have HB := n0_; have BK104001 := n1_; have GW104001 := n2_; have GE104001 := n3_; clear n0_ n1_ n2_ n3_; clear hb hbox hg; have hcz18_0 : w17.cell? ⟨gb104001, 0, none⟩ = some (.int .i64 a0_0) := (blk_cell BK104001.out 0).trans rfl; have hcz18_1 : w17.cell? ⟨gb104001, 1, none⟩ = some (.int .i64 a0_1) := (blk_cell BK104001.out 1).trans rfl; have hcz18_2 : w17.cell? ⟨gb104001, 2, none⟩ = some (.int .i64 a0_2) := (blk_cell BK104001.out 2).trans rfl; have hcz18_3 : w17.cell? ⟨gb104001, 3, none⟩ = some (.slice A0_3 l0_3.length c0_3) := (blk_cell BK104001.out 3).trans rfl; have hcz18_4 : w17.cell? ⟨gb104001, 4, none⟩ = some (.int .i64 a0_4) := (blk_cell BK104001.out 4).trans rfl; have hcz18_5 : w17.cell? ⟨gb104001, 5, none⟩ = some (.int .i64 a0_5) := (blk_cell BK104001.out 5).trans rfl; have hcz18_6 : w17.cell? ⟨gb104001, 6, none⟩ = some (.int .i64 a0_6) := (blk_cell BK104001.out 6).trans rfl; have hcz18_7 : w17.cell? ⟨gb104001, 7, none⟩ = some (.int .i64 a0_7) := (blk_cell BK104001.out 7).trans rfl; have hcz18_8 : w17.cell? ⟨gb104001, 8, none⟩ = some (.bool a0_8) := (blk_cell BK104001.out 8).trans rfl; have hfz18_0 := blk_frozen BK104001.out 0; have hfz18_1 := blk_frozen BK104001.out 1; have hfz18_2 := blk_frozen BK104001.out 2; have hfz18_3 := blk_frozen BK104001.out 3; have hfz18_4 := blk_frozen BK104001.out 4; have hfz18_5 := blk_frozen BK104001.out 5; have hfz18_6 := blk_frozen BK104001.out 6; have hfz18_7 := blk_frozen BK104001.out 7; have hfz18_8 := blk_frozen BK104001.out 8) | ((with_reducible refine gate_callee (f := 83) rfl ?_); refine goesL_ (some 7) rfl rfl Try.func83 (by kernel_rfl) rfl #[.agg #[.int .i64 a0_0, .int .i64 a0_1, .int .i64 a0_2, .slice A0_3 l0_3.length c0_3]] rfl (by (try simp only [List.map_toArray, List.map_cons, List.map_nil]); first | done | rfl | (simp only [List.length_drop, List.length_take]; rfl)) ?_; (with_reducible refine (impl_isImage.calls a0_0 a0_1 a0_2 _ _ l0_3 true _ ?side1 ?side2 A3.out).mono ?_); (case side1 => repeat (first | exact (Kd.C_below HR0_3.out HB.out) | (with_reducible refine Kd.C_alloc ?_ _) | (with_reducible refine Kd.C_drewN ?_ _) | (with_reducible refine Kd.C_drew ?_))); (case side2 => exact HC0_3.out); rintro e w19 ⟨rfl, hb⟩; refine ⟨_, rfl, ?_⟩; have n0_ := Aside0.mk (blk_below (g := gb104001) (o := .cells #[.int .i64 a0_0, .int .i64 a0_1, .int .i64 a0_2, .slice A0_3 l0_3.length c0_3, .int .i64 a0_4, .int .i64 a0_5, .int .i64 a0_6, .int .i64 a0_7, .bool a0_8] 55 (0, 0)) (by (with_reducible repeat (first | refine blk_drewN ?_ _ | refine blk_drew ?_ | refine blk_alloc ?_ _)); exact BK104001.out) hb); have n1_ := Aside0.mk (below_step (by repeat (first | (with_reducible first | exact HB.out | apply below_alloc | apply pw_below_drewN | apply below_drew1 | refine below_set ?_ GE104001.out) | exact HB.out)) hb); clear BK104001; clear HB; have BK104001 := n0_; have HB := n1_; clear n0_ n1_; (try clear hb); (try clear hb2); (try clear hk); (try clear hi); have hcz20_0 : w19.cell? ⟨gb104001, 0, none⟩ = some (.int .i64 a0_0) := (blk_cell BK104001.out 0).trans rfl; have hcz20_1 : w19.cell? ⟨gb104001, 1, none⟩ = some (.int .i64 a0_1) := (blk_cell BK104001.out 1).trans rfl; have hcz20_2 : w19.cell? ⟨gb104001, 2, none⟩ = some (.int .i64 a0_2) := (blk_cell BK104001.out 2).trans rfl; have hcz20_3 : w19.cell? ⟨gb104001, 3, none⟩ = some (.slice A0_3 l0_3.length c0_3) := (blk_cell BK104001.out 3).trans rfl; have hcz20_4 : w19.cell? ⟨gb104001, 4, none⟩ = some (.int .i64 a0_4) := (blk_cell BK104001.out 4).trans rfl; have hcz20_5 : w19.cell? ⟨gb104001, 5, none⟩ = some (.int .i64 a0_5) := (blk_cell BK104001.out 5).trans rfl; have hcz20_6 : w19.cell? ⟨gb104001, 6, none⟩ = some (.int .i64 a0_6) := (blk_cell BK104001.out 6).trans rfl; have hcz20_7 : w19.cell? ⟨gb104001, 7, none⟩ = some (.int .i64 a0_7) := (blk_cell BK104001.out 7).trans rfl; have hcz20_8 : w19.cell? ⟨gb104001, 8, none⟩ = some (.bool a0_8) := (blk_cell BK104001.out 8).trans rfl; have hfz20_0 := blk_frozen BK104001.out 0; have hfz20_1 := blk_frozen BK104001.out 1; have hfz20_2 := blk_frozen BK104001.out 2; have hfz20_3 := blk_frozen BK104001.out 3; have hfz20_4 := blk_frozen BK104001.out 4; have hfz20_5 := blk_frozen BK104001.out 5; have hfz20_6 := blk_frozen BK104001.out 6; have hfz20_7 := blk_frozen BK104001.out 7; have hfz20_8 := blk_frozen BK104001.out 8) | (go_at_call 141; (with_reducible refine (impl_isMode.calls a0_6 true _ A10.out).mono ?_); rintro e w' ⟨rfl, ⟨nd, rfl⟩⟩))
                  go_ret
                  exact ⟨by first | rfl | (simp [errW_none, errW_some] <;> rfl) | (simp [*, errW_none, errW_some] <;> rfl), by repeat (first | (with_reducible first | exact HB.out | apply below_alloc | apply pw_below_drewN | apply below_drew1 | refine below_set ?_ GE104001.out) | exact HB.out)⟩
              · replace c11 := Bool.eq_false_iff.mpr c11
                subst c11
                have H1 : (some false) = some r := by rw [if_neg (show ¬ (false = true) by decide)] at H; exact H
                clear H
                have H := H1
                clear H1
                obtain rfl := Option.some.inj H
                go_enter Try.func103, Try.ntmps103
                go_wp2_with (first | ((with_reducible refine gate_dst (N := 2) rfl ?_); refine box_event ?hg (N := 2) ?hd (cs := #[.int .i64 a0_0, .int .i64 a0_1, .int .i64 a0_2, .slice A0_3 l0_3.length c0_3, .int .i64 a0_4, .int .i64 a0_5, .int .i64 a0_6, .int .i64 a0_7, .bool a0_8]) (t := 55) ?hr ?_; (case hd => rfl); (case hg => rfl); (case hr => first | (go_simp; done) | (go_simp; rfl)); intro gb104001 hg w21 hbox hb; have n0_ := Aside0.mk (below_step (by repeat (first | (with_reducible first | exact HB.out | apply below_alloc | apply pw_below_drewN | apply below_drew1) | exact HB.out)) hb); have n1_ := Aside0.mk (hbox); have n2_ := Aside0.mk ((by rw [hg]; exact (below_size (by repeat (first | (with_reducible first | exact HB.out | apply below_alloc | apply pw_below_drewN | apply below_drew1) | exact HB.out))) : w.heap.size ≤ gb104001)); have n3_ := Aside0.mk ((by rw [hg]; exact (below_size (by repeat (first | (with_reducible first | exact HB.out | apply below_alloc | apply pw_below_drewN | apply below_drew1) | exact HB.out))) : w.heap.size ≤ gb104001)); clear HB; have HB := n0_; have BK104001 := n1_; have GW104001 := n2_; have GE104001 := n3_; clear n0_ n1_ n2_ n3_; clear hb hbox hg; have hcz22_0 : w21.cell? ⟨gb104001, 0, none⟩ = some (.int .i64 a0_0) := (blk_cell BK104001.out 0).trans rfl; have hcz22_1 : w21.cell? ⟨gb104001, 1, none⟩ = some (.int .i64 a0_1) := (blk_cell BK104001.out 1).trans rfl; have hcz22_2 : w21.cell? ⟨gb104001, 2, none⟩ = some (.int .i64 a0_2) := (blk_cell BK104001.out 2).trans rfl; have hcz22_3 : w21.cell? ⟨gb104001, 3, none⟩ = some (.slice A0_3 l0_3.length c0_3) := (blk_cell BK104001.out 3).trans rfl; have hcz22_4 : w21.cell? ⟨gb104001, 4, none⟩ = some (.int .i64 a0_4) := (blk_cell BK104001.out 4).trans rfl; have hcz22_5 : w21.cell? ⟨gb104001, 5, none⟩ = some (.int .i64 a0_5) := (blk_cell BK104001.out 5).trans rfl; have hcz22_6 : w21.cell? ⟨gb104001, 6, none⟩ = some (.int .i64 a0_6) := (blk_cell BK104001.out 6).trans rfl; have hcz22_7 : w21.cell? ⟨gb104001, 7, none⟩ = some (.int .i64 a0_7) := (blk_cell BK104001.out 7).trans rfl; have hcz22_8 : w21.cell? ⟨gb104001, 8, none⟩ = some (.bool a0_8) := (blk_cell BK104001.out 8).trans rfl; have hfz22_0 := blk_frozen BK104001.out 0; have hfz22_1 := blk_frozen BK104001.out 1; have hfz22_2 := blk_frozen BK104001.out 2; have hfz22_3 := blk_frozen BK104001.out 3; have hfz22_4 := blk_frozen BK104001.out 4; have hfz22_5 := blk_frozen BK104001.out 5; have hfz22_6 := blk_frozen BK104001.out 6; have hfz22_7 := blk_frozen BK104001.out 7; have hfz22_8 := blk_frozen BK104001.out 8) | ((with_reducible refine gate_callee (f := 83) rfl ?_); refine goesL_ (some 7) rfl rfl Try.func83 (by kernel_rfl) rfl #[.agg #[.int .i64 a0_0, .int .i64 a0_1, .int .i64 a0_2, .slice A0_3 l0_3.length c0_3]] rfl (by (try simp only [List.map_toArray, List.map_cons, List.map_nil]); first | done | rfl | (simp only [List.length_drop, List.length_take]; rfl)) ?_; (with_reducible refine (impl_isImage.calls a0_0 a0_1 a0_2 _ _ l0_3 true _ ?side1 ?side2 A3.out).mono ?_); (case side1 => repeat (first | exact (Kd.C_below HR0_3.out HB.out) | (with_reducible refine Kd.C_alloc ?_ _) | (with_reducible refine Kd.C_drewN ?_ _) | (with_reducible refine Kd.C_drew ?_))); (case side2 => exact HC0_3.out); rintro e w23 ⟨rfl, hb⟩; refine ⟨_, rfl, ?_⟩; have n0_ := Aside0.mk (blk_below (g := gb104001) (o := .cells #[.int .i64 a0_0, .int .i64 a0_1, .int .i64 a0_2, .slice A0_3 l0_3.length c0_3, .int .i64 a0_4, .int .i64 a0_5, .int .i64 a0_6, .int .i64 a0_7, .bool a0_8] 55 (0, 0)) (by (with_reducible repeat (first | refine blk_drewN ?_ _ | refine blk_drew ?_ | refine blk_alloc ?_ _)); exact BK104001.out) hb); have n1_ := Aside0.mk (below_step (by repeat (first | (with_reducible first | exact HB.out | apply below_alloc | apply pw_below_drewN | apply below_drew1 | refine below_set ?_ GE104001.out) | exact HB.out)) hb); clear BK104001; clear HB; have BK104001 := n0_; have HB := n1_; clear n0_ n1_; (try clear hb); (try clear hb2); (try clear hk); (try clear hi); have hcz24_0 : w23.cell? ⟨gb104001, 0, none⟩ = some (.int .i64 a0_0) := (blk_cell BK104001.out 0).trans rfl; have hcz24_1 : w23.cell? ⟨gb104001, 1, none⟩ = some (.int .i64 a0_1) := (blk_cell BK104001.out 1).trans rfl; have hcz24_2 : w23.cell? ⟨gb104001, 2, none⟩ = some (.int .i64 a0_2) := (blk_cell BK104001.out 2).trans rfl; have hcz24_3 : w23.cell? ⟨gb104001, 3, none⟩ = some (.slice A0_3 l0_3.length c0_3) := (blk_cell BK104001.out 3).trans rfl; have hcz24_4 : w23.cell? ⟨gb104001, 4, none⟩ = some (.int .i64 a0_4) := (blk_cell BK104001.out 4).trans rfl; have hcz24_5 : w23.cell? ⟨gb104001, 5, none⟩ = some (.int .i64 a0_5) := (blk_cell BK104001.out 5).trans rfl; have hcz24_6 : w23.cell? ⟨gb104001, 6, none⟩ = some (.int .i64 a0_6) := (blk_cell BK104001.out 6).trans rfl; have hcz24_7 : w23.cell? ⟨gb104001, 7, none⟩ = some (.int .i64 a0_7) := (blk_cell BK104001.out 7).trans rfl; have hcz24_8 : w23.cell? ⟨gb104001, 8, none⟩ = some (.bool a0_8) := (blk_cell BK104001.out 8).trans rfl; have hfz24_0 := blk_frozen BK104001.out 0; have hfz24_1 := blk_frozen BK104001.out 1; have hfz24_2 := blk_frozen BK104001.out 2; have hfz24_3 := blk_frozen BK104001.out 3; have hfz24_4 := blk_frozen BK104001.out 4; have hfz24_5 := blk_frozen BK104001.out 5; have hfz24_6 := blk_frozen BK104001.out 6; have hfz24_7 := blk_frozen BK104001.out 7; have hfz24_8 := blk_frozen BK104001.out 8) | (go_at_call 141; (with_reducible refine (impl_isMode.calls a0_6 false _ A10.out).mono ?_); rintro e w' ⟨rfl, ⟨nd, rfl⟩⟩))
                go_ret
                exact ⟨by first | rfl | (simp [errW_none, errW_some] <;> rfl) | (simp [*, errW_none, errW_some] <;> rfl), by repeat (first | (with_reducible first | exact HB.out | apply below_alloc | apply pw_below_drewN | apply below_drew1 | refine below_set ?_ GE104001.out) | exact HB.out)⟩
            · rw [if_neg c9] at H
              have c9b0 : decide (a0_5 ≤ 16) = false := decide_eq_false c9
              clear c9
              obtain rfl := Option.some.inj H
              go_enter Try.func103, Try.ntmps103
              go_wp2_with (first | ((with_reducible refine gate_dst (N := 2) rfl ?_); refine box_event ?hg (N := 2) ?hd (cs := #[.int .i64 a0_0, .int .i64 a0_1, .int .i64 a0_2, .slice A0_3 l0_3.length c0_3, .int .i64 a0_4, .int .i64 a0_5, .int .i64 a0_6, .int .i64 a0_7, .bool a0_8]) (t := 55) ?hr ?_; (case hd => rfl); (case hg => rfl); (case hr => first | (go_simp; done) | (go_simp; rfl)); intro gb104001 hg w25 hbox hb; have n0_ := Aside0.mk (below_step (by repeat (first | (with_reducible first | exact HB.out | apply below_alloc | apply pw_below_drewN | apply below_drew1) | exact HB.out)) hb); have n1_ := Aside0.mk (hbox); have n2_ := Aside0.mk ((by rw [hg]; exact (below_size (by repeat (first | (with_reducible first | exact HB.out | apply below_alloc | apply pw_below_drewN | apply below_drew1) | exact HB.out))) : w.heap.size ≤ gb104001)); have n3_ := Aside0.mk ((by rw [hg]; exact (below_size (by repeat (first | (with_reducible first | exact HB.out | apply below_alloc | apply pw_below_drewN | apply below_drew1) | exact HB.out))) : w.heap.size ≤ gb104001)); clear HB; have HB := n0_; have BK104001 := n1_; have GW104001 := n2_; have GE104001 := n3_; clear n0_ n1_ n2_ n3_; clear hb hbox hg; have hcz26_0 : w25.cell? ⟨gb104001, 0, none⟩ = some (.int .i64 a0_0) := (blk_cell BK104001.out 0).trans rfl; have hcz26_1 : w25.cell? ⟨gb104001, 1, none⟩ = some (.int .i64 a0_1) := (blk_cell BK104001.out 1).trans rfl; have hcz26_2 : w25.cell? ⟨gb104001, 2, none⟩ = some (.int .i64 a0_2) := (blk_cell BK104001.out 2).trans rfl; have hcz26_3 : w25.cell? ⟨gb104001, 3, none⟩ = some (.slice A0_3 l0_3.length c0_3) := (blk_cell BK104001.out 3).trans rfl; have hcz26_4 : w25.cell? ⟨gb104001, 4, none⟩ = some (.int .i64 a0_4) := (blk_cell BK104001.out 4).trans rfl; have hcz26_5 : w25.cell? ⟨gb104001, 5, none⟩ = some (.int .i64 a0_5) := (blk_cell BK104001.out 5).trans rfl; have hcz26_6 : w25.cell? ⟨gb104001, 6, none⟩ = some (.int .i64 a0_6) := (blk_cell BK104001.out 6).trans rfl; have hcz26_7 : w25.cell? ⟨gb104001, 7, none⟩ = some (.int .i64 a0_7) := (blk_cell BK104001.out 7).trans rfl; have hcz26_8 : w25.cell? ⟨gb104001, 8, none⟩ = some (.bool a0_8) := (blk_cell BK104001.out 8).trans rfl; have hfz26_0 := blk_frozen BK104001.out 0; have hfz26_1 := blk_frozen BK104001.out 1; have hfz26_2 := blk_frozen BK104001.out 2; have hfz26_3 := blk_frozen BK104001.out 3; have hfz26_4 := blk_frozen BK104001.out 4; have hfz26_5 := blk_frozen BK104001.out 5; have hfz26_6 := blk_frozen BK104001.out 6; have hfz26_7 := blk_frozen BK104001.out 7; have hfz26_8 := blk_frozen BK104001.out 8) | ((with_reducible refine gate_callee (f := 83) rfl ?_); refine goesL_ (some 7) rfl rfl Try.func83 (by kernel_rfl) rfl #[.agg #[.int .i64 a0_0, .int .i64 a0_1, .int .i64 a0_2, .slice A0_3 l0_3.length c0_3]] rfl (by (try simp only [List.map_toArray, List.map_cons, List.map_nil]); first | done | rfl | (simp only [List.length_drop, List.length_take]; rfl)) ?_; (with_reducible refine (impl_isImage.calls a0_0 a0_1 a0_2 _ _ l0_3 true _ ?side1 ?side2 A3.out).mono ?_); (case side1 => repeat (first | exact (Kd.C_below HR0_3.out HB.out) | (with_reducible refine Kd.C_alloc ?_ _) | (with_reducible refine Kd.C_drewN ?_ _) | (with_reducible refine Kd.C_drew ?_))); (case side2 => exact HC0_3.out); rintro e w27 ⟨rfl, hb⟩; refine ⟨_, rfl, ?_⟩; have n0_ := Aside0.mk (blk_below (g := gb104001) (o := .cells #[.int .i64 a0_0, .int .i64 a0_1, .int .i64 a0_2, .slice A0_3 l0_3.length c0_3, .int .i64 a0_4, .int .i64 a0_5, .int .i64 a0_6, .int .i64 a0_7, .bool a0_8] 55 (0, 0)) (by (with_reducible repeat (first | refine blk_drewN ?_ _ | refine blk_drew ?_ | refine blk_alloc ?_ _)); exact BK104001.out) hb); have n1_ := Aside0.mk (below_step (by repeat (first | (with_reducible first | exact HB.out | apply below_alloc | apply pw_below_drewN | apply below_drew1 | refine below_set ?_ GE104001.out) | exact HB.out)) hb); clear BK104001; clear HB; have BK104001 := n0_; have HB := n1_; clear n0_ n1_; (try clear hb); (try clear hb2); (try clear hk); (try clear hi); have hcz28_0 : w27.cell? ⟨gb104001, 0, none⟩ = some (.int .i64 a0_0) := (blk_cell BK104001.out 0).trans rfl; have hcz28_1 : w27.cell? ⟨gb104001, 1, none⟩ = some (.int .i64 a0_1) := (blk_cell BK104001.out 1).trans rfl; have hcz28_2 : w27.cell? ⟨gb104001, 2, none⟩ = some (.int .i64 a0_2) := (blk_cell BK104001.out 2).trans rfl; have hcz28_3 : w27.cell? ⟨gb104001, 3, none⟩ = some (.slice A0_3 l0_3.length c0_3) := (blk_cell BK104001.out 3).trans rfl; have hcz28_4 : w27.cell? ⟨gb104001, 4, none⟩ = some (.int .i64 a0_4) := (blk_cell BK104001.out 4).trans rfl; have hcz28_5 : w27.cell? ⟨gb104001, 5, none⟩ = some (.int .i64 a0_5) := (blk_cell BK104001.out 5).trans rfl; have hcz28_6 : w27.cell? ⟨gb104001, 6, none⟩ = some (.int .i64 a0_6) := (blk_cell BK104001.out 6).trans rfl; have hcz28_7 : w27.cell? ⟨gb104001, 7, none⟩ = some (.int .i64 a0_7) := (blk_cell BK104001.out 7).trans rfl; have hcz28_8 : w27.cell? ⟨gb104001, 8, none⟩ = some (.bool a0_8) := (blk_cell BK104001.out 8).trans rfl; have hfz28_0 := blk_frozen BK104001.out 0; have hfz28_1 := blk_frozen BK104001.out 1; have hfz28_2 := blk_frozen BK104001.out 2; have hfz28_3 := blk_frozen BK104001.out 3; have hfz28_4 := blk_frozen BK104001.out 4; have hfz28_5 := blk_frozen BK104001.out 5; have hfz28_6 := blk_frozen BK104001.out 6; have hfz28_7 := blk_frozen BK104001.out 7; have hfz28_8 := blk_frozen BK104001.out 8))
              go_ret
              exact ⟨by first | rfl | (simp [errW_none, errW_some] <;> rfl) | (simp [*, errW_none, errW_some] <;> rfl), by repeat (first | (with_reducible first | exact HB.out | apply below_alloc | apply pw_below_drewN | apply below_drew1 | refine below_set ?_ GE104001.out) | exact HB.out)⟩
          · rw [if_neg c8] at H
            have c8b0 : decide ((-16) ≤ a0_5) = false := decide_eq_false c8
            clear c8
            obtain rfl := Option.some.inj H
            go_enter Try.func103, Try.ntmps103
            go_wp2_with (first | ((with_reducible refine gate_dst (N := 2) rfl ?_); refine box_event ?hg (N := 2) ?hd (cs := #[.int .i64 a0_0, .int .i64 a0_1, .int .i64 a0_2, .slice A0_3 l0_3.length c0_3, .int .i64 a0_4, .int .i64 a0_5, .int .i64 a0_6, .int .i64 a0_7, .bool a0_8]) (t := 55) ?hr ?_; (case hd => rfl); (case hg => rfl); (case hr => first | (go_simp; done) | (go_simp; rfl)); intro gb104001 hg w29 hbox hb; have n0_ := Aside0.mk (below_step (by repeat (first | (with_reducible first | exact HB.out | apply below_alloc | apply pw_below_drewN | apply below_drew1) | exact HB.out)) hb); have n1_ := Aside0.mk (hbox); have n2_ := Aside0.mk ((by rw [hg]; exact (below_size (by repeat (first | (with_reducible first | exact HB.out | apply below_alloc | apply pw_below_drewN | apply below_drew1) | exact HB.out))) : w.heap.size ≤ gb104001)); have n3_ := Aside0.mk ((by rw [hg]; exact (below_size (by repeat (first | (with_reducible first | exact HB.out | apply below_alloc | apply pw_below_drewN | apply below_drew1) | exact HB.out))) : w.heap.size ≤ gb104001)); clear HB; have HB := n0_; have BK104001 := n1_; have GW104001 := n2_; have GE104001 := n3_; clear n0_ n1_ n2_ n3_; clear hb hbox hg; have hcz30_0 : w29.cell? ⟨gb104001, 0, none⟩ = some (.int .i64 a0_0) := (blk_cell BK104001.out 0).trans rfl; have hcz30_1 : w29.cell? ⟨gb104001, 1, none⟩ = some (.int .i64 a0_1) := (blk_cell BK104001.out 1).trans rfl; have hcz30_2 : w29.cell? ⟨gb104001, 2, none⟩ = some (.int .i64 a0_2) := (blk_cell BK104001.out 2).trans rfl; have hcz30_3 : w29.cell? ⟨gb104001, 3, none⟩ = some (.slice A0_3 l0_3.length c0_3) := (blk_cell BK104001.out 3).trans rfl; have hcz30_4 : w29.cell? ⟨gb104001, 4, none⟩ = some (.int .i64 a0_4) := (blk_cell BK104001.out 4).trans rfl; have hcz30_5 : w29.cell? ⟨gb104001, 5, none⟩ = some (.int .i64 a0_5) := (blk_cell BK104001.out 5).trans rfl; have hcz30_6 : w29.cell? ⟨gb104001, 6, none⟩ = some (.int .i64 a0_6) := (blk_cell BK104001.out 6).trans rfl; have hcz30_7 : w29.cell? ⟨gb104001, 7, none⟩ = some (.int .i64 a0_7) := (blk_cell BK104001.out 7).trans rfl; have hcz30_8 : w29.cell? ⟨gb104001, 8, none⟩ = some (.bool a0_8) := (blk_cell BK104001.out 8).trans rfl; have hfz30_0 := blk_frozen BK104001.out 0; have hfz30_1 := blk_frozen BK104001.out 1; have hfz30_2 := blk_frozen BK104001.out 2; have hfz30_3 := blk_frozen BK104001.out 3; have hfz30_4 := blk_frozen BK104001.out 4; have hfz30_5 := blk_frozen BK104001.out 5; have hfz30_6 := blk_frozen BK104001.out 6; have hfz30_7 := blk_frozen BK104001.out 7; have hfz30_8 := blk_frozen BK104001.out 8) | ((with_reducible refine gate_callee (f := 83) rfl ?_); refine goesL_ (some 7) rfl rfl Try.func83 (by kernel_rfl) rfl #[.agg #[.int .i64 a0_0, .int .i64 a0_1, .int .i64 a0_2, .slice A0_3 l0_3.length c0_3]] rfl (by (try simp only [List.map_toArray, List.map_cons, List.map_nil]); first | done | rfl | (simp only [List.length_drop, List.length_take]; rfl)) ?_; (with_reducible refine (impl_isImage.calls a0_0 a0_1 a0_2 _ _ l0_3 true _ ?side1 ?side2 A3.out).mono ?_); (case side1 => repeat (first | exact (Kd.C_below HR0_3.out HB.out) | (with_reducible refine Kd.C_alloc ?_ _) | (with_reducible refine Kd.C_drewN ?_ _) | (with_reducible refine Kd.C_drew ?_))); (case side2 => exact HC0_3.out); rintro e w31 ⟨rfl, hb⟩; refine ⟨_, rfl, ?_⟩; have n0_ := Aside0.mk (blk_below (g := gb104001) (o := .cells #[.int .i64 a0_0, .int .i64 a0_1, .int .i64 a0_2, .slice A0_3 l0_3.length c0_3, .int .i64 a0_4, .int .i64 a0_5, .int .i64 a0_6, .int .i64 a0_7, .bool a0_8] 55 (0, 0)) (by (with_reducible repeat (first | refine blk_drewN ?_ _ | refine blk_drew ?_ | refine blk_alloc ?_ _)); exact BK104001.out) hb); have n1_ := Aside0.mk (below_step (by repeat (first | (with_reducible first | exact HB.out | apply below_alloc | apply pw_below_drewN | apply below_drew1 | refine below_set ?_ GE104001.out) | exact HB.out)) hb); clear BK104001; clear HB; have BK104001 := n0_; have HB := n1_; clear n0_ n1_; (try clear hb); (try clear hb2); (try clear hk); (try clear hi); have hcz32_0 : w31.cell? ⟨gb104001, 0, none⟩ = some (.int .i64 a0_0) := (blk_cell BK104001.out 0).trans rfl; have hcz32_1 : w31.cell? ⟨gb104001, 1, none⟩ = some (.int .i64 a0_1) := (blk_cell BK104001.out 1).trans rfl; have hcz32_2 : w31.cell? ⟨gb104001, 2, none⟩ = some (.int .i64 a0_2) := (blk_cell BK104001.out 2).trans rfl; have hcz32_3 : w31.cell? ⟨gb104001, 3, none⟩ = some (.slice A0_3 l0_3.length c0_3) := (blk_cell BK104001.out 3).trans rfl; have hcz32_4 : w31.cell? ⟨gb104001, 4, none⟩ = some (.int .i64 a0_4) := (blk_cell BK104001.out 4).trans rfl; have hcz32_5 : w31.cell? ⟨gb104001, 5, none⟩ = some (.int .i64 a0_5) := (blk_cell BK104001.out 5).trans rfl; have hcz32_6 : w31.cell? ⟨gb104001, 6, none⟩ = some (.int .i64 a0_6) := (blk_cell BK104001.out 6).trans rfl; have hcz32_7 : w31.cell? ⟨gb104001, 7, none⟩ = some (.int .i64 a0_7) := (blk_cell BK104001.out 7).trans rfl; have hcz32_8 : w31.cell? ⟨gb104001, 8, none⟩ = some (.bool a0_8) := (blk_cell BK104001.out 8).trans rfl; have hfz32_0 := blk_frozen BK104001.out 0; have hfz32_1 := blk_frozen BK104001.out 1; have hfz32_2 := blk_frozen BK104001.out 2; have hfz32_3 := blk_frozen BK104001.out 3; have hfz32_4 := blk_frozen BK104001.out 4; have hfz32_5 := blk_frozen BK104001.out 5; have hfz32_6 := blk_frozen BK104001.out 6; have hfz32_7 := blk_frozen BK104001.out 7; have hfz32_8 := blk_frozen BK104001.out 8))
            go_ret
            exact ⟨by first | rfl | (simp [errW_none, errW_some] <;> rfl) | (simp [*, errW_none, errW_some] <;> rfl), by repeat (first | (with_reducible first | exact HB.out | apply below_alloc | apply pw_below_drewN | apply below_drew1 | refine below_set ?_ GE104001.out) | exact HB.out)⟩
        · rw [if_neg c7] at H
          have c7b0 : decide (a0_4 ≤ 16) = false := decide_eq_false c7
          clear c7
          obtain rfl := Option.some.inj H
          go_enter Try.func103, Try.ntmps103
          go_wp2_with (first | ((with_reducible refine gate_dst (N := 2) rfl ?_); refine box_event ?hg (N := 2) ?hd (cs := #[.int .i64 a0_0, .int .i64 a0_1, .int .i64 a0_2, .slice A0_3 l0_3.length c0_3, .int .i64 a0_4, .int .i64 a0_5, .int .i64 a0_6, .int .i64 a0_7, .bool a0_8]) (t := 55) ?hr ?_; (case hd => rfl); (case hg => rfl); (case hr => first | (go_simp; done) | (go_simp; rfl)); intro gb104001 hg w33 hbox hb; have n0_ := Aside0.mk (below_step (by repeat (first | (with_reducible first | exact HB.out | apply below_alloc | apply pw_below_drewN | apply below_drew1) | exact HB.out)) hb); have n1_ := Aside0.mk (hbox); have n2_ := Aside0.mk ((by rw [hg]; exact (below_size (by repeat (first | (with_reducible first | exact HB.out | apply below_alloc | apply pw_below_drewN | apply below_drew1) | exact HB.out))) : w.heap.size ≤ gb104001)); have n3_ := Aside0.mk ((by rw [hg]; exact (below_size (by repeat (first | (with_reducible first | exact HB.out | apply below_alloc | apply pw_below_drewN | apply below_drew1) | exact HB.out))) : w.heap.size ≤ gb104001)); clear HB; have HB := n0_; have BK104001 := n1_; have GW104001 := n2_; have GE104001 := n3_; clear n0_ n1_ n2_ n3_; clear hb hbox hg; have hcz34_0 : w33.cell? ⟨gb104001, 0, none⟩ = some (.int .i64 a0_0) := (blk_cell BK104001.out 0).trans rfl; have hcz34_1 : w33.cell? ⟨gb104001, 1, none⟩ = some (.int .i64 a0_1) := (blk_cell BK104001.out 1).trans rfl; have hcz34_2 : w33.cell? ⟨gb104001, 2, none⟩ = some (.int .i64 a0_2) := (blk_cell BK104001.out 2).trans rfl; have hcz34_3 : w33.cell? ⟨gb104001, 3, none⟩ = some (.slice A0_3 l0_3.length c0_3) := (blk_cell BK104001.out 3).trans rfl; have hcz34_4 : w33.cell? ⟨gb104001, 4, none⟩ = some (.int .i64 a0_4) := (blk_cell BK104001.out 4).trans rfl; have hcz34_5 : w33.cell? ⟨gb104001, 5, none⟩ = some (.int .i64 a0_5) := (blk_cell BK104001.out 5).trans rfl; have hcz34_6 : w33.cell? ⟨gb104001, 6, none⟩ = some (.int .i64 a0_6) := (blk_cell BK104001.out 6).trans rfl; have hcz34_7 : w33.cell? ⟨gb104001, 7, none⟩ = some (.int .i64 a0_7) := (blk_cell BK104001.out 7).trans rfl; have hcz34_8 : w33.cell? ⟨gb104001, 8, none⟩ = some (.bool a0_8) := (blk_cell BK104001.out 8).trans rfl; have hfz34_0 := blk_frozen BK104001.out 0; have hfz34_1 := blk_frozen BK104001.out 1; have hfz34_2 := blk_frozen BK104001.out 2; have hfz34_3 := blk_frozen BK104001.out 3; have hfz34_4 := blk_frozen BK104001.out 4; have hfz34_5 := blk_frozen BK104001.out 5; have hfz34_6 := blk_frozen BK104001.out 6; have hfz34_7 := blk_frozen BK104001.out 7; have hfz34_8 := blk_frozen BK104001.out 8) | ((with_reducible refine gate_callee (f := 83) rfl ?_); refine goesL_ (some 7) rfl rfl Try.func83 (by kernel_rfl) rfl #[.agg #[.int .i64 a0_0, .int .i64 a0_1, .int .i64 a0_2, .slice A0_3 l0_3.length c0_3]] rfl (by (try simp only [List.map_toArray, List.map_cons, List.map_nil]); first | done | rfl | (simp only [List.length_drop, List.length_take]; rfl)) ?_; (with_reducible refine (impl_isImage.calls a0_0 a0_1 a0_2 _ _ l0_3 true _ ?side1 ?side2 A3.out).mono ?_); (case side1 => repeat (first | exact (Kd.C_below HR0_3.out HB.out) | (with_reducible refine Kd.C_alloc ?_ _) | (with_reducible refine Kd.C_drewN ?_ _) | (with_reducible refine Kd.C_drew ?_))); (case side2 => exact HC0_3.out); rintro e w35 ⟨rfl, hb⟩; refine ⟨_, rfl, ?_⟩; have n0_ := Aside0.mk (blk_below (g := gb104001) (o := .cells #[.int .i64 a0_0, .int .i64 a0_1, .int .i64 a0_2, .slice A0_3 l0_3.length c0_3, .int .i64 a0_4, .int .i64 a0_5, .int .i64 a0_6, .int .i64 a0_7, .bool a0_8] 55 (0, 0)) (by (with_reducible repeat (first | refine blk_drewN ?_ _ | refine blk_drew ?_ | refine blk_alloc ?_ _)); exact BK104001.out) hb); have n1_ := Aside0.mk (below_step (by repeat (first | (with_reducible first | exact HB.out | apply below_alloc | apply pw_below_drewN | apply below_drew1 | refine below_set ?_ GE104001.out) | exact HB.out)) hb); clear BK104001; clear HB; have BK104001 := n0_; have HB := n1_; clear n0_ n1_; (try clear hb); (try clear hb2); (try clear hk); (try clear hi); have hcz36_0 : w35.cell? ⟨gb104001, 0, none⟩ = some (.int .i64 a0_0) := (blk_cell BK104001.out 0).trans rfl; have hcz36_1 : w35.cell? ⟨gb104001, 1, none⟩ = some (.int .i64 a0_1) := (blk_cell BK104001.out 1).trans rfl; have hcz36_2 : w35.cell? ⟨gb104001, 2, none⟩ = some (.int .i64 a0_2) := (blk_cell BK104001.out 2).trans rfl; have hcz36_3 : w35.cell? ⟨gb104001, 3, none⟩ = some (.slice A0_3 l0_3.length c0_3) := (blk_cell BK104001.out 3).trans rfl; have hcz36_4 : w35.cell? ⟨gb104001, 4, none⟩ = some (.int .i64 a0_4) := (blk_cell BK104001.out 4).trans rfl; have hcz36_5 : w35.cell? ⟨gb104001, 5, none⟩ = some (.int .i64 a0_5) := (blk_cell BK104001.out 5).trans rfl; have hcz36_6 : w35.cell? ⟨gb104001, 6, none⟩ = some (.int .i64 a0_6) := (blk_cell BK104001.out 6).trans rfl; have hcz36_7 : w35.cell? ⟨gb104001, 7, none⟩ = some (.int .i64 a0_7) := (blk_cell BK104001.out 7).trans rfl; have hcz36_8 : w35.cell? ⟨gb104001, 8, none⟩ = some (.bool a0_8) := (blk_cell BK104001.out 8).trans rfl; have hfz36_0 := blk_frozen BK104001.out 0; have hfz36_1 := blk_frozen BK104001.out 1; have hfz36_2 := blk_frozen BK104001.out 2; have hfz36_3 := blk_frozen BK104001.out 3; have hfz36_4 := blk_frozen BK104001.out 4; have hfz36_5 := blk_frozen BK104001.out 5; have hfz36_6 := blk_frozen BK104001.out 6; have hfz36_7 := blk_frozen BK104001.out 7; have hfz36_8 := blk_frozen BK104001.out 8))
          go_ret
          exact ⟨by first | rfl | (simp [errW_none, errW_some] <;> rfl) | (simp [*, errW_none, errW_some] <;> rfl), by repeat (first | (with_reducible first | exact HB.out | apply below_alloc | apply pw_below_drewN | apply below_drew1 | refine below_set ?_ GE104001.out) | exact HB.out)⟩
      · rw [if_neg c6] at H
        have c6b0 : decide ((-16) ≤ a0_4) = false := decide_eq_false c6
        clear c6
        obtain rfl := Option.some.inj H
        go_enter Try.func103, Try.ntmps103
        go_wp2_with (first | ((with_reducible refine gate_dst (N := 2) rfl ?_); refine box_event ?hg (N := 2) ?hd (cs := #[.int .i64 a0_0, .int .i64 a0_1, .int .i64 a0_2, .slice A0_3 l0_3.length c0_3, .int .i64 a0_4, .int .i64 a0_5, .int .i64 a0_6, .int .i64 a0_7, .bool a0_8]) (t := 55) ?hr ?_; (case hd => rfl); (case hg => rfl); (case hr => first | (go_simp; done) | (go_simp; rfl)); intro gb104001 hg w37 hbox hb; have n0_ := Aside0.mk (below_step (by repeat (first | (with_reducible first | exact HB.out | apply below_alloc | apply pw_below_drewN | apply below_drew1) | exact HB.out)) hb); have n1_ := Aside0.mk (hbox); have n2_ := Aside0.mk ((by rw [hg]; exact (below_size (by repeat (first | (with_reducible first | exact HB.out | apply below_alloc | apply pw_below_drewN | apply below_drew1) | exact HB.out))) : w.heap.size ≤ gb104001)); have n3_ := Aside0.mk ((by rw [hg]; exact (below_size (by repeat (first | (with_reducible first | exact HB.out | apply below_alloc | apply pw_below_drewN | apply below_drew1) | exact HB.out))) : w.heap.size ≤ gb104001)); clear HB; have HB := n0_; have BK104001 := n1_; have GW104001 := n2_; have GE104001 := n3_; clear n0_ n1_ n2_ n3_; clear hb hbox hg; have hcz38_0 : w37.cell? ⟨gb104001, 0, none⟩ = some (.int .i64 a0_0) := (blk_cell BK104001.out 0).trans rfl; have hcz38_1 : w37.cell? ⟨gb104001, 1, none⟩ = some (.int .i64 a0_1) := (blk_cell BK104001.out 1).trans rfl; have hcz38_2 : w37.cell? ⟨gb104001, 2, none⟩ = some (.int .i64 a0_2) := (blk_cell BK104001.out 2).trans rfl; have hcz38_3 : w37.cell? ⟨gb104001, 3, none⟩ = some (.slice A0_3 l0_3.length c0_3) := (blk_cell BK104001.out 3).trans rfl; have hcz38_4 : w37.cell? ⟨gb104001, 4, none⟩ = some (.int .i64 a0_4) := (blk_cell BK104001.out 4).trans rfl; have hcz38_5 : w37.cell? ⟨gb104001, 5, none⟩ = some (.int .i64 a0_5) := (blk_cell BK104001.out 5).trans rfl; have hcz38_6 : w37.cell? ⟨gb104001, 6, none⟩ = some (.int .i64 a0_6) := (blk_cell BK104001.out 6).trans rfl; have hcz38_7 : w37.cell? ⟨gb104001, 7, none⟩ = some (.int .i64 a0_7) := (blk_cell BK104001.out 7).trans rfl; have hcz38_8 : w37.cell? ⟨gb104001, 8, none⟩ = some (.bool a0_8) := (blk_cell BK104001.out 8).trans rfl; have hfz38_0 := blk_frozen BK104001.out 0; have hfz38_1 := blk_frozen BK104001.out 1; have hfz38_2 := blk_frozen BK104001.out 2; have hfz38_3 := blk_frozen BK104001.out 3; have hfz38_4 := blk_frozen BK104001.out 4; have hfz38_5 := blk_frozen BK104001.out 5; have hfz38_6 := blk_frozen BK104001.out 6; have hfz38_7 := blk_frozen BK104001.out 7; have hfz38_8 := blk_frozen BK104001.out 8) | ((with_reducible refine gate_callee (f := 83) rfl ?_); refine goesL_ (some 7) rfl rfl Try.func83 (by kernel_rfl) rfl #[.agg #[.int .i64 a0_0, .int .i64 a0_1, .int .i64 a0_2, .slice A0_3 l0_3.length c0_3]] rfl (by (try simp only [List.map_toArray, List.map_cons, List.map_nil]); first | done | rfl | (simp only [List.length_drop, List.length_take]; rfl)) ?_; (with_reducible refine (impl_isImage.calls a0_0 a0_1 a0_2 _ _ l0_3 true _ ?side1 ?side2 A3.out).mono ?_); (case side1 => repeat (first | exact (Kd.C_below HR0_3.out HB.out) | (with_reducible refine Kd.C_alloc ?_ _) | (with_reducible refine Kd.C_drewN ?_ _) | (with_reducible refine Kd.C_drew ?_))); (case side2 => exact HC0_3.out); rintro e w39 ⟨rfl, hb⟩; refine ⟨_, rfl, ?_⟩; have n0_ := Aside0.mk (blk_below (g := gb104001) (o := .cells #[.int .i64 a0_0, .int .i64 a0_1, .int .i64 a0_2, .slice A0_3 l0_3.length c0_3, .int .i64 a0_4, .int .i64 a0_5, .int .i64 a0_6, .int .i64 a0_7, .bool a0_8] 55 (0, 0)) (by (with_reducible repeat (first | refine blk_drewN ?_ _ | refine blk_drew ?_ | refine blk_alloc ?_ _)); exact BK104001.out) hb); have n1_ := Aside0.mk (below_step (by repeat (first | (with_reducible first | exact HB.out | apply below_alloc | apply pw_below_drewN | apply below_drew1 | refine below_set ?_ GE104001.out) | exact HB.out)) hb); clear BK104001; clear HB; have BK104001 := n0_; have HB := n1_; clear n0_ n1_; (try clear hb); (try clear hb2); (try clear hk); (try clear hi); have hcz40_0 : w39.cell? ⟨gb104001, 0, none⟩ = some (.int .i64 a0_0) := (blk_cell BK104001.out 0).trans rfl; have hcz40_1 : w39.cell? ⟨gb104001, 1, none⟩ = some (.int .i64 a0_1) := (blk_cell BK104001.out 1).trans rfl; have hcz40_2 : w39.cell? ⟨gb104001, 2, none⟩ = some (.int .i64 a0_2) := (blk_cell BK104001.out 2).trans rfl; have hcz40_3 : w39.cell? ⟨gb104001, 3, none⟩ = some (.slice A0_3 l0_3.length c0_3) := (blk_cell BK104001.out 3).trans rfl; have hcz40_4 : w39.cell? ⟨gb104001, 4, none⟩ = some (.int .i64 a0_4) := (blk_cell BK104001.out 4).trans rfl; have hcz40_5 : w39.cell? ⟨gb104001, 5, none⟩ = some (.int .i64 a0_5) := (blk_cell BK104001.out 5).trans rfl; have hcz40_6 : w39.cell? ⟨gb104001, 6, none⟩ = some (.int .i64 a0_6) := (blk_cell BK104001.out 6).trans rfl; have hcz40_7 : w39.cell? ⟨gb104001, 7, none⟩ = some (.int .i64 a0_7) := (blk_cell BK104001.out 7).trans rfl; have hcz40_8 : w39.cell? ⟨gb104001, 8, none⟩ = some (.bool a0_8) := (blk_cell BK104001.out 8).trans rfl; have hfz40_0 := blk_frozen BK104001.out 0; have hfz40_1 := blk_frozen BK104001.out 1; have hfz40_2 := blk_frozen BK104001.out 2; have hfz40_3 := blk_frozen BK104001.out 3; have hfz40_4 := blk_frozen BK104001.out 4; have hfz40_5 := blk_frozen BK104001.out 5; have hfz40_6 := blk_frozen BK104001.out 6; have hfz40_7 := blk_frozen BK104001.out 7; have hfz40_8 := blk_frozen BK104001.out 8))
        go_ret
        exact ⟨by first | rfl | (simp [errW_none, errW_some] <;> rfl) | (simp [*, errW_none, errW_some] <;> rfl), by repeat (first | (with_reducible first | exact HB.out | apply below_alloc | apply pw_below_drewN | apply below_drew1 | refine below_set ?_ GE104001.out) | exact HB.out)⟩
    · rw [if_neg c5] at H
      have c5b0 : (a0_2 == a1) = false := beq_eq_false_iff_ne.mpr c5
      have c5b1 : (a0_2 != a1) = true := bne_iff_ne.mpr c5
      obtain rfl := Option.some.inj H
      go_enter Try.func103, Try.ntmps103
      go_wp2_with (first | ((with_reducible refine gate_dst (N := 2) rfl ?_); refine box_event ?hg (N := 2) ?hd (cs := #[.int .i64 a0_0, .int .i64 a0_1, .int .i64 a0_2, .slice A0_3 l0_3.length c0_3, .int .i64 a0_4, .int .i64 a0_5, .int .i64 a0_6, .int .i64 a0_7, .bool a0_8]) (t := 55) ?hr ?_; (case hd => rfl); (case hg => rfl); (case hr => first | (go_simp; done) | (go_simp; rfl)); intro gb104001 hg w41 hbox hb; have n0_ := Aside0.mk (below_step (by repeat (first | (with_reducible first | exact HB.out | apply below_alloc | apply pw_below_drewN | apply below_drew1) | exact HB.out)) hb); have n1_ := Aside0.mk (hbox); have n2_ := Aside0.mk ((by rw [hg]; exact (below_size (by repeat (first | (with_reducible first | exact HB.out | apply below_alloc | apply pw_below_drewN | apply below_drew1) | exact HB.out))) : w.heap.size ≤ gb104001)); have n3_ := Aside0.mk ((by rw [hg]; exact (below_size (by repeat (first | (with_reducible first | exact HB.out | apply below_alloc | apply pw_below_drewN | apply below_drew1) | exact HB.out))) : w.heap.size ≤ gb104001)); clear HB; have HB := n0_; have BK104001 := n1_; have GW104001 := n2_; have GE104001 := n3_; clear n0_ n1_ n2_ n3_; clear hb hbox hg; have hcz42_0 : w41.cell? ⟨gb104001, 0, none⟩ = some (.int .i64 a0_0) := (blk_cell BK104001.out 0).trans rfl; have hcz42_1 : w41.cell? ⟨gb104001, 1, none⟩ = some (.int .i64 a0_1) := (blk_cell BK104001.out 1).trans rfl; have hcz42_2 : w41.cell? ⟨gb104001, 2, none⟩ = some (.int .i64 a0_2) := (blk_cell BK104001.out 2).trans rfl; have hcz42_3 : w41.cell? ⟨gb104001, 3, none⟩ = some (.slice A0_3 l0_3.length c0_3) := (blk_cell BK104001.out 3).trans rfl; have hcz42_4 : w41.cell? ⟨gb104001, 4, none⟩ = some (.int .i64 a0_4) := (blk_cell BK104001.out 4).trans rfl; have hcz42_5 : w41.cell? ⟨gb104001, 5, none⟩ = some (.int .i64 a0_5) := (blk_cell BK104001.out 5).trans rfl; have hcz42_6 : w41.cell? ⟨gb104001, 6, none⟩ = some (.int .i64 a0_6) := (blk_cell BK104001.out 6).trans rfl; have hcz42_7 : w41.cell? ⟨gb104001, 7, none⟩ = some (.int .i64 a0_7) := (blk_cell BK104001.out 7).trans rfl; have hcz42_8 : w41.cell? ⟨gb104001, 8, none⟩ = some (.bool a0_8) := (blk_cell BK104001.out 8).trans rfl; have hfz42_0 := blk_frozen BK104001.out 0; have hfz42_1 := blk_frozen BK104001.out 1; have hfz42_2 := blk_frozen BK104001.out 2; have hfz42_3 := blk_frozen BK104001.out 3; have hfz42_4 := blk_frozen BK104001.out 4; have hfz42_5 := blk_frozen BK104001.out 5; have hfz42_6 := blk_frozen BK104001.out 6; have hfz42_7 := blk_frozen BK104001.out 7; have hfz42_8 := blk_frozen BK104001.out 8) | ((with_reducible refine gate_callee (f := 83) rfl ?_); refine goesL_ (some 7) rfl rfl Try.func83 (by kernel_rfl) rfl #[.agg #[.int .i64 a0_0, .int .i64 a0_1, .int .i64 a0_2, .slice A0_3 l0_3.length c0_3]] rfl (by (try simp only [List.map_toArray, List.map_cons, List.map_nil]); first | done | rfl | (simp only [List.length_drop, List.length_take]; rfl)) ?_; (with_reducible refine (impl_isImage.calls a0_0 a0_1 a0_2 _ _ l0_3 true _ ?side1 ?side2 A3.out).mono ?_); (case side1 => repeat (first | exact (Kd.C_below HR0_3.out HB.out) | (with_reducible refine Kd.C_alloc ?_ _) | (with_reducible refine Kd.C_drewN ?_ _) | (with_reducible refine Kd.C_drew ?_))); (case side2 => exact HC0_3.out); rintro e w43 ⟨rfl, hb⟩; refine ⟨_, rfl, ?_⟩; have n0_ := Aside0.mk (blk_below (g := gb104001) (o := .cells #[.int .i64 a0_0, .int .i64 a0_1, .int .i64 a0_2, .slice A0_3 l0_3.length c0_3, .int .i64 a0_4, .int .i64 a0_5, .int .i64 a0_6, .int .i64 a0_7, .bool a0_8] 55 (0, 0)) (by (with_reducible repeat (first | refine blk_drewN ?_ _ | refine blk_drew ?_ | refine blk_alloc ?_ _)); exact BK104001.out) hb); have n1_ := Aside0.mk (below_step (by repeat (first | (with_reducible first | exact HB.out | apply below_alloc | apply pw_below_drewN | apply below_drew1 | refine below_set ?_ GE104001.out) | exact HB.out)) hb); clear BK104001; clear HB; have BK104001 := n0_; have HB := n1_; clear n0_ n1_; (try clear hb); (try clear hb2); (try clear hk); (try clear hi); have hcz44_0 : w43.cell? ⟨gb104001, 0, none⟩ = some (.int .i64 a0_0) := (blk_cell BK104001.out 0).trans rfl; have hcz44_1 : w43.cell? ⟨gb104001, 1, none⟩ = some (.int .i64 a0_1) := (blk_cell BK104001.out 1).trans rfl; have hcz44_2 : w43.cell? ⟨gb104001, 2, none⟩ = some (.int .i64 a0_2) := (blk_cell BK104001.out 2).trans rfl; have hcz44_3 : w43.cell? ⟨gb104001, 3, none⟩ = some (.slice A0_3 l0_3.length c0_3) := (blk_cell BK104001.out 3).trans rfl; have hcz44_4 : w43.cell? ⟨gb104001, 4, none⟩ = some (.int .i64 a0_4) := (blk_cell BK104001.out 4).trans rfl; have hcz44_5 : w43.cell? ⟨gb104001, 5, none⟩ = some (.int .i64 a0_5) := (blk_cell BK104001.out 5).trans rfl; have hcz44_6 : w43.cell? ⟨gb104001, 6, none⟩ = some (.int .i64 a0_6) := (blk_cell BK104001.out 6).trans rfl; have hcz44_7 : w43.cell? ⟨gb104001, 7, none⟩ = some (.int .i64 a0_7) := (blk_cell BK104001.out 7).trans rfl; have hcz44_8 : w43.cell? ⟨gb104001, 8, none⟩ = some (.bool a0_8) := (blk_cell BK104001.out 8).trans rfl; have hfz44_0 := blk_frozen BK104001.out 0; have hfz44_1 := blk_frozen BK104001.out 1; have hfz44_2 := blk_frozen BK104001.out 2; have hfz44_3 := blk_frozen BK104001.out 3; have hfz44_4 := blk_frozen BK104001.out 4; have hfz44_5 := blk_frozen BK104001.out 5; have hfz44_6 := blk_frozen BK104001.out 6; have hfz44_7 := blk_frozen BK104001.out 7; have hfz44_8 := blk_frozen BK104001.out 8))
      go_ret
      exact ⟨by first | rfl | (simp [errW_none, errW_some] <;> rfl) | (simp [*, errW_none, errW_some] <;> rfl), by repeat (first | (with_reducible first | exact HB.out | apply below_alloc | apply pw_below_drewN | apply below_drew1 | refine below_set ?_ GE104001.out) | exact HB.out)⟩
  · replace c4 := Bool.eq_false_iff.mpr c4
    subst c4
    have H1 : (some false) = some r := by rw [if_neg (show ¬ (false = true) by decide)] at H; exact H
    clear H
    have H := H1
    clear H1
    obtain rfl := Option.some.inj H
    go_enter Try.func103, Try.ntmps103
    go_wp2_with (first | ((with_reducible refine gate_dst (N := 2) rfl ?_); refine box_event ?hg (N := 2) ?hd (cs := #[.int .i64 a0_0, .int .i64 a0_1, .int .i64 a0_2, .slice A0_3 l0_3.length c0_3, .int .i64 a0_4, .int .i64 a0_5, .int .i64 a0_6, .int .i64 a0_7, .bool a0_8]) (t := 55) ?hr ?_; (case hd => rfl); (case hg => rfl); (case hr => first | (go_simp; done) | (go_simp; rfl)); intro gb104001 hg w45 hbox hb; have n0_ := Aside0.mk (below_step (by repeat (first | (with_reducible first | exact HB.out | apply below_alloc | apply pw_below_drewN | apply below_drew1) | exact HB.out)) hb); have n1_ := Aside0.mk (hbox); have n2_ := Aside0.mk ((by rw [hg]; exact (below_size (by repeat (first | (with_reducible first | exact HB.out | apply below_alloc | apply pw_below_drewN | apply below_drew1) | exact HB.out))) : w.heap.size ≤ gb104001)); have n3_ := Aside0.mk ((by rw [hg]; exact (below_size (by repeat (first | (with_reducible first | exact HB.out | apply below_alloc | apply pw_below_drewN | apply below_drew1) | exact HB.out))) : w.heap.size ≤ gb104001)); clear HB; have HB := n0_; have BK104001 := n1_; have GW104001 := n2_; have GE104001 := n3_; clear n0_ n1_ n2_ n3_; clear hb hbox hg; have hcz46_0 : w45.cell? ⟨gb104001, 0, none⟩ = some (.int .i64 a0_0) := (blk_cell BK104001.out 0).trans rfl; have hcz46_1 : w45.cell? ⟨gb104001, 1, none⟩ = some (.int .i64 a0_1) := (blk_cell BK104001.out 1).trans rfl; have hcz46_2 : w45.cell? ⟨gb104001, 2, none⟩ = some (.int .i64 a0_2) := (blk_cell BK104001.out 2).trans rfl; have hcz46_3 : w45.cell? ⟨gb104001, 3, none⟩ = some (.slice A0_3 l0_3.length c0_3) := (blk_cell BK104001.out 3).trans rfl; have hcz46_4 : w45.cell? ⟨gb104001, 4, none⟩ = some (.int .i64 a0_4) := (blk_cell BK104001.out 4).trans rfl; have hcz46_5 : w45.cell? ⟨gb104001, 5, none⟩ = some (.int .i64 a0_5) := (blk_cell BK104001.out 5).trans rfl; have hcz46_6 : w45.cell? ⟨gb104001, 6, none⟩ = some (.int .i64 a0_6) := (blk_cell BK104001.out 6).trans rfl; have hcz46_7 : w45.cell? ⟨gb104001, 7, none⟩ = some (.int .i64 a0_7) := (blk_cell BK104001.out 7).trans rfl; have hcz46_8 : w45.cell? ⟨gb104001, 8, none⟩ = some (.bool a0_8) := (blk_cell BK104001.out 8).trans rfl; have hfz46_0 := blk_frozen BK104001.out 0; have hfz46_1 := blk_frozen BK104001.out 1; have hfz46_2 := blk_frozen BK104001.out 2; have hfz46_3 := blk_frozen BK104001.out 3; have hfz46_4 := blk_frozen BK104001.out 4; have hfz46_5 := blk_frozen BK104001.out 5; have hfz46_6 := blk_frozen BK104001.out 6; have hfz46_7 := blk_frozen BK104001.out 7; have hfz46_8 := blk_frozen BK104001.out 8) | ((with_reducible refine gate_callee (f := 83) rfl ?_); refine goesL_ (some 7) rfl rfl Try.func83 (by kernel_rfl) rfl #[.agg #[.int .i64 a0_0, .int .i64 a0_1, .int .i64 a0_2, .slice A0_3 l0_3.length c0_3]] rfl (by (try simp only [List.map_toArray, List.map_cons, List.map_nil]); first | done | rfl | (simp only [List.length_drop, List.length_take]; rfl)) ?_; (with_reducible refine (impl_isImage.calls a0_0 a0_1 a0_2 _ _ l0_3 false _ ?side1 ?side2 A3.out).mono ?_); (case side1 => repeat (first | exact (Kd.C_below HR0_3.out HB.out) | (with_reducible refine Kd.C_alloc ?_ _) | (with_reducible refine Kd.C_drewN ?_ _) | (with_reducible refine Kd.C_drew ?_))); (case side2 => exact HC0_3.out); rintro e w47 ⟨rfl, hb⟩; refine ⟨_, rfl, ?_⟩; have n0_ := Aside0.mk (blk_below (g := gb104001) (o := .cells #[.int .i64 a0_0, .int .i64 a0_1, .int .i64 a0_2, .slice A0_3 l0_3.length c0_3, .int .i64 a0_4, .int .i64 a0_5, .int .i64 a0_6, .int .i64 a0_7, .bool a0_8] 55 (0, 0)) (by (with_reducible repeat (first | refine blk_drewN ?_ _ | refine blk_drew ?_ | refine blk_alloc ?_ _)); exact BK104001.out) hb); have n1_ := Aside0.mk (below_step (by repeat (first | (with_reducible first | exact HB.out | apply below_alloc | apply pw_below_drewN | apply below_drew1 | refine below_set ?_ GE104001.out) | exact HB.out)) hb); clear BK104001; clear HB; have BK104001 := n0_; have HB := n1_; clear n0_ n1_; (try clear hb); (try clear hb2); (try clear hk); (try clear hi)))
    go_ret
    exact ⟨by first | rfl | (simp [errW_none, errW_some] <;> rfl) | (simp [*, errW_none, errW_some] <;> rfl), by repeat (first | (with_reducible first | exact HB.out | apply below_alloc | apply pw_below_drewN | apply below_drew1 | refine below_set ?_ GE104001.out) | exact HB.out)⟩


/- A part of a row of one's own is overwritten by a copy; loads of images and numbers in a region that draws its order. -/

theorem fn_runs {P : Program} {oi : Oper} {a : Act} {w : World} {x : Operand} {ws : Array Operand} {ts : Array TypeId} (q : Nat) (lb : Array Value) (eg : ∀ args W, (callFunc q args).run P W = .ok (.enter q args) W)
    (hop : oi.op = .call { callee := .value x, args := ws, argTypes := ts }) (hx : a.eval x = .func (.func q) #[] lb) (args : Array Value) (hargs : ws.map a.eval ++ lb = args) : (execOp a.eval oi).run P w = .ok (.enter q args) w := by
  unfold execOp
  simp [hop, resolve, hx, Deferred.ofValue, invoke, hargs, eg]
/-- a row of numbers, a part of it overwritten -/
def laidOver (d : List Int) (j : Nat) (ys : List Int) : List Int := d.take j ++ (ys ++ d.drop (j + ys.length))
theorem laidOver_length (d : List Int) (j : Nat) (ys : List Int) (h : j + ys.length ≤ d.length) : (laidOver d j ys).length = d.length := by
  unfold laidOver
  rw [List.length_append, List.length_append, List.length_take, List.length_drop]
  omega
def rowD (px : Nat → Nat → List Int) (a y : Nat) : List Int := (List.range a).flatMap (fun x => px x y)
def imgD (px : Nat → Nat → List Int) (a b : Nat) : List Int := (List.range b).flatMap (fun y => rowD px a y)
theorem rowD_succ (px : Nat → Nat → List Int) (a y : Nat) : rowD px (a + 1) y = rowD px a y ++ px a y := by unfold rowD; rw [List.range_succ, List.flatMap_append]; simp
theorem imgD_succ (px : Nat → Nat → List Int) (a b : Nat) : imgD px a (b + 1) = imgD px a b ++ rowD px a b := by unfold imgD; rw [List.range_succ, List.flatMap_append]; simp
end Go.Proofs.Ytnofkbbcbpjhfaa.Q

/- Plain words: numbers that do not wrap, elements of lists, rounds that are enough. -/
namespace Go.Proofs.Ytnofkbbcbpjhfaa.Pure
open Go.RowKit Go.Proofs.Ytnofkbbcbpjhfaa.Q Go.Proofs.YtnofkbbcbpjhfaaW.PrintWords Go.Proofs.YtnofkbbcbpjhfaaW.PrintLast Go.Proofs.YtnofkbbcbpjhfaaW.PrintMore
set_option linter.unusedVariables false
set_option linter.unusedSimpArgs false

theorem w64 {x : Int} (h1 : -9223372036854775808 ≤ x) (h2 : x ≤ 9223372036854775807) : wrap64 x = x := by unfold wrap64; omega
theorem w64n (n : Nat) (h : n < 9223372036854775807) : wrap64 ((n : Int) + 1) = ((n + 1 : Nat) : Int) := by unfold wrap64; omega
theorem rd_nat (l : List Int) (i : Nat) (h : i < l.length) : rd l (i : Int) = l[i] := by simp [rd, h]
theorem tdiv_nn (a b : Int) (h : 0 ≤ a) : Int.tdiv a b = a / b := Int.tdiv_eq_ediv_of_nonneg h
theorem ev_const {α : Type} {o : Option α} {r : α} (h : o = some r) : Ev (fun _ => o) r := ⟨0, fun _ _ => h⟩
theorem ev_bind {α β : Type} {g : Nat → Option α} {f : Nat → α → Option β} {a : α} {r : β} (h : Ev g a) (k : Ev (fun n => f n a) r) : Ev (fun n => (g n).bind (f n)) r := Ev.bind h k
theorem ev_now {α β : Type} {o : Option α} {f : Nat → α → Option β} {a : α} {r : β} (h : o = some a) (k : Ev (fun n => f n a) r) : Ev (fun n => o.bind (f n)) r := Ev.bind (ev_const h) k
theorem ev_pos {α : Type} {c : Prop} [Decidable c] {f g : Nat → Option α} {r : α} (h : c) (k : Ev f r) : Ev (fun n => if c then f n else g n) r := by
  simpa [h] using k
theorem ev_neg {α : Type} {c : Prop} [Decidable c] {f g : Nat → Option α} {r : α} (h : ¬ c) (k : Ev g r) : Ev (fun n => if c then f n else g n) r := by
  simpa [h] using k
theorem mn_def (a b : Int) : mn a b = min a b := by unfold mn; omega
theorem mx_def (a b : Int) : mx a b = max a b := by unfold mx; omega
/-- The same, from some number of rounds on: for loops in loops. -/
theorem ev_up {σ ρ : Type} (n : Nat) (L : Nat → Nat → σ → Option ρ) (Inv : Nat → σ → Prop) (F : Nat → σ → ρ)
    (step : ∀ i s, i < n → Inv i s → Ev (fun k => L k i s) (F i s) ∨ ∃ s', (∀ k, L (k + 1) i s = L k (i + 1) s') ∧ Inv (i + 1) s' ∧ F (i + 1) s' = F i s)
    (last : ∀ s, Inv n s → Ev (fun k => L k n s) (F n s)) :
    ∀ d i s, i + d = n → Inv i s → Ev (fun k => L k i s) (F i s) := by
  intro d
  induction d with
  | zero =>
    intro i s hi hinv
    have : i = n := by omega
    subst this
    exact last s hinv
  | succ d ih =>
    intro i s hi hinv
    rcases step i s (by omega) hinv with h | ⟨s', h, hi', hF⟩
    · exact h
    · rw [← hF]
      exact Ev.step h (ih (i + 1) s' (by omega) hi')
theorem take_set {α : Type} (s : List α) (i : Nat) (c : α) (h : i < s.length) : (s.set i c).take (i + 1) = s.take i ++ [c] := by
  rw [List.take_succ_eq_append_getElem (by simpa using h), List.take_set_of_le (Nat.le_refl i)]
  simp
end Go.Proofs.Ytnofkbbcbpjhfaa.Pure

/- (impl.Image).at: the numbers of a pixel, in the memory of the image. -/
namespace Go.Proofs.Ytnofkbbcbpjhfaa.Q
open Go.RowKit Go.Proofs.YtnofkbbcbpjhfaaW.PrintWords Go.Proofs.YtnofkbbcbpjhfaaW.PrintLast Go.Proofs.YtnofkbbcbpjhfaaW.PrintMore
attribute [local go_sem] max2_int min2_int max_two min_two max_three min_three max_four min_four
set_option linter.unusedVariables false
set_option linter.unusedSimpArgs false
open Go.Proofs.Ytnofkbbcbpjhfaa.Pure

/-- the numbers from j on, p of them -/
def pixT (d : List Int) (j p : Int) : List Int := (d.take (wrap64 (j + p) : Int).toNat).drop (j : Int).toNat
set_option maxHeartbeats 1600000 in
set_option maxRecDepth 100000 in
theorem at_callsX (a b p : Int) (A : Option Addr) (c n : Nat) (x y j : Int) (hc : n ≤ c) (hj : wrap64 ((wrap64 ((wrap64 (y * a)) + x)) * p) = j) (h0 : 0 ≤ j) (h1 : j ≤ wrap64 (j + p)) (h2 : wrap64 (j + p) ≤ (n : Int)) (A' : Option Addr) (hA : A' = if c = j.toNat then A else A.map (·.add (j.toNat * 1))) (w : World) :
    Calls Try.prog 109 #[.agg #[.int .i64 a, .int .i64 b, .int .i64 p, .slice A n c], .int .i64 x, .int .i64 y] w fun e w' => e = .returned (.slice A' ((wrap64 (j + p)).toNat - j.toNat) (c - j.toNat)) ∧ Below w.heap.size w w' := by
  obtain ⟨i0, hi0, _, hsz, _⟩ := info_parts info3
  have hcut := cut_mid (P := Try.prog) 22 3 .i64 .i64 Try.underlying22 hi0 1 hsz A n c j (wrap64 (j + p)) h0 h1 h2 hc
  rw [← hA] at hcut
  clear hA
  have hu := Try.underlying27
  have hjw : (IntKind.i64.wrap ((wrap64 ((wrap64 (y * a)) + x)) * p)) = j := (i64_w _).trans hj
  have d0 : decide (0 ≤ j) = true := decide_eq_true h0
  have d1 : decide (j ≤ wrap64 (j + p)) = true := decide_eq_true h1
  have d2 : decide (wrap64 (j + p) ≤ (n : Int)) = true := decide_eq_true h2
  have e0 := eq_true h0
  have e1 := eq_true h1
  have e2 := eq_true h2
  clear hi0 hsz hj
  go_enter Try.func109, Try.ntmps109
  go_wp2_with (first | ((with_reducible refine gate_dst (N := 3) rfl ?_); refine box_event ?hg (N := 3) ?hd (cs := #[.int .i64 a, .int .i64 b, .int .i64 p, .slice A n c]) (t := 27) ?hr ?_; (case hd => rfl); (case hg => rfl); (case hr => first | (go_simp; done) | (go_simp; rfl)); intro gb hg w9 hbox hb; have HB := Aside0.mk (below_step (Below.refl w.heap.size w) hb); have BK := Aside0.mk hbox; have hcz0 : w9.cell? ⟨gb, 0, none⟩ = some (.int .i64 a) := (blk_cell BK.out 0).trans rfl; have hcz1 : w9.cell? ⟨gb, 1, none⟩ = some (.int .i64 b) := (blk_cell BK.out 1).trans rfl; have hcz2 : w9.cell? ⟨gb, 2, none⟩ = some (.int .i64 p) := (blk_cell BK.out 2).trans rfl; have hcz3 : w9.cell? ⟨gb, 3, none⟩ = some (.slice A n c) := (blk_cell BK.out 3).trans rfl; clear hbox hb hg))
  go_ret
  exact ⟨rfl, HB.out⟩
theorem pixT_length (d : List Int) (j p : Int) (h2 : wrap64 (j + p) ≤ (d.length : Int)) : (pixT d j p).length = (wrap64 (j + p)).toNat - j.toNat := by
  unfold pixT
  rw [List.length_drop, List.length_take, Nat.min_eq_left (by omega)]
theorem pixT_C {w : World} {A : Option Addr} {c : Nat} {d : List Int} {j p : Int} (h : Kd.C (Kd.int .i64) w A d.length d) (hc : d.length ≤ c) (h1 : j ≤ wrap64 (j + p)) (h2 : wrap64 (j + p) ≤ (d.length : Int)) :
    Kd.C (Kd.int .i64) w (if c = j.toNat then A else A.map (·.add (j.toNat * 1))) (pixT d j p).length (pixT d j p) := Kd.C_mid h (by omega) (by omega) hc
theorem at_calls (a b p : Int) (A : Option Addr) (c : Nat) (d : List Int) (x y j : Int) (hc : d.length ≤ c) (hj : wrap64 ((wrap64 ((wrap64 (y * a)) + x)) * p) = j) (h0 : 0 ≤ j) (h1 : j ≤ wrap64 (j + p)) (h2 : wrap64 (j + p) ≤ (d.length : Int)) :
    ∃ (A' : Option Addr) (c' : Nat), (pixT d j p).length ≤ c' ∧ ∀ w : World, Kd.C (Kd.int .i64) w A d.length d → (Kd.C (Kd.int .i64) w A' (pixT d j p).length (pixT d j p) ∧
      Calls Try.prog 109 #[.agg #[.int .i64 a, .int .i64 b, .int .i64 p, .slice A d.length c], .int .i64 x, .int .i64 y] w fun e w' => e = .returned (.slice A' (pixT d j p).length c') ∧ Below w.heap.size w w') := by
  refine ⟨_, c - j.toNat, by rw [pixT_length d j p h2]; omega, fun w hr => ⟨pixT_C hr hc h1 h2, ?_⟩⟩
  rw [pixT_length d j p h2]
  exact at_callsX a b p A c d.length x y j hc hj h0 h1 h2 _ rfl w
end Go.Proofs.Ytnofkbbcbpjhfaa.Q

namespace Go.Proofs.Ytnofkbbcbpjhfaa.Q
open Go.RowKit Go.Proofs.YtnofkbbcbpjhfaaW.PrintWords Go.Proofs.YtnofkbbcbpjhfaaW.PrintLast Go.Proofs.YtnofkbbcbpjhfaaW.PrintMore
attribute [local go_sem] max2_int min2_int max_two min_two max_three min_three max_four min_four
set_option linter.unusedVariables false
set_option linter.unusedSimpArgs false
def laws_szIntS.f (l0 : List Int) (a1 : Int) : Option (Int) := if (wrap64 (a1 - (l0.length : Int))) < 0 then (some (-1)) else (some (wrap64 (a1 - (l0.length : Int))))
set_option maxHeartbeats 8000000 in
set_option maxRecDepth 100000 in
theorem laws_szIntS.calls (A0 : Option Addr) (c0 : Nat) (l0 : List Int) (a1 : Int) (r : Int) (w : World) (hr0 : Kd.C (Kd.int .i64) w A0 l0.length l0) (hc0 : l0.length ≤ c0) (h : laws_szIntS.f l0 a1 = some r) :
    Calls Try.prog 80 #[.slice A0 l0.length c0, .int .i64 a1] w fun e w' => e = .returned (.int .i64 r) ∧ Drawn0 w w' := by
  have HR0 := Aside0.mk hr0
  have HC0 := Aside0.mk hc0
  clear hr0 hc0
  have H : (if (wrap64 (a1 - (l0.length : Int))) < 0 then (some (-1)) else (some (wrap64 (a1 - (l0.length : Int))))) = some r := h
  clear h
  by_cases c3 : (wrap64 (a1 - (l0.length : Int))) < 0
  · rw [if_pos c3] at H
    have c3b0 : decide ((wrap64 (a1 - (l0.length : Int))) < 0) = true := decide_eq_true c3
    clear c3
    obtain rfl := Option.some.inj H
    go_enter Try.func80, Try.ntmps80
    go_wp2
    go_ret
    exact ⟨by first | rfl | (simp; done) | (simp [*]; done), by repeat (first | exact Drawn0.refl _ | apply Drawn0.step)⟩
  · rw [if_neg c3] at H
    have c3b0 : decide ((wrap64 (a1 - (l0.length : Int))) < 0) = false := decide_eq_false c3
    clear c3
    obtain rfl := Option.some.inj H
    go_enter Try.func80, Try.ntmps80
    go_wp2
    go_ret
    exact ⟨by first | rfl | (simp; done) | (simp [*]; done), by repeat (first | exact Drawn0.refl _ | apply Drawn0.step)⟩


def laws_szImage.f (a0_0 : Int) (a0_1 : Int) (a0_2 : Int) (l0_3 : List Int) (a1 : Int) : Option (Int) := (laws_szIntS.f l0_3 a1).bind fun t21002 => (if t21002 < 0 then (some (-1)) else (some t21002))
set_option maxHeartbeats 8000000 in
set_option maxRecDepth 100000 in
theorem laws_szImage.calls (a0_0 : Int) (a0_1 : Int) (a0_2 : Int) (A0_3 : Option Addr) (c0_3 : Nat) (l0_3 : List Int) (a1 : Int) (r : Int) (w : World) (hr0_3 : Kd.C (Kd.int .i64) w A0_3 l0_3.length l0_3) (hc0_3 : l0_3.length ≤ c0_3) (h : laws_szImage.f a0_0 a0_1 a0_2 l0_3 a1 = some r) :
    Calls Try.prog 20 #[.agg #[.int .i64 a0_0, .int .i64 a0_1, .int .i64 a0_2, .slice A0_3 l0_3.length c0_3], .int .i64 a1] w fun e w' => e = .returned (.int .i64 r) ∧ Below w.heap.size w w' := by
  have hu24 := Try.underlying24
  have HR0_3 := Aside0.mk hr0_3
  have HC0_3 := Aside0.mk hc0_3
  clear hr0_3 hc0_3
  have HB := Aside0.mk (Below.refl w.heap.size w)
  have H : ((laws_szIntS.f l0_3 a1).bind fun t21002 => (if t21002 < 0 then (some (-1)) else (some t21002))) = some r := h
  clear h
  replace H := Option.bind_eq_some_iff.mp H
  obtain ⟨t21002, A30, H⟩ := H
  replace H : (if t21002 < 0 then (some (-1)) else (some t21002)) = some r := H
  have A3 := Aside0.mk A30
  clear A30
  by_cases c4 : t21002 < 0
  · rw [if_pos c4] at H
    have c4b0 : decide (t21002 < 0) = true := decide_eq_true c4
    clear c4
    obtain rfl := Option.some.inj H
    go_enter Try.func20, Try.ntmps20
    go_wp2_with (first | ((with_reducible refine gate_dst (N := 2) rfl ?_); refine box_event ?hg (N := 2) ?hd (cs := #[.int .i64 a0_0, .int .i64 a0_1, .int .i64 a0_2, .slice A0_3 l0_3.length c0_3]) (t := 24) ?hr ?_; (case hd => rfl); (case hg => rfl); (case hr => first | (go_simp; done) | (go_simp; rfl)); intro gb21001 hg w5 hbox hb; have n0_ := Aside0.mk (below_step (by repeat (first | (with_reducible first | exact HB.out | apply below_alloc | apply pw_below_drewN | apply below_drew1) | exact HB.out)) hb); have n1_ := Aside0.mk (hbox); have n2_ := Aside0.mk ((by rw [hg]; exact (below_size (by repeat (first | (with_reducible first | exact HB.out | apply below_alloc | apply pw_below_drewN | apply below_drew1) | exact HB.out))) : w.heap.size ≤ gb21001)); have n3_ := Aside0.mk ((by rw [hg]; exact (below_size (by repeat (first | (with_reducible first | exact HB.out | apply below_alloc | apply pw_below_drewN | apply below_drew1) | exact HB.out))) : w.heap.size ≤ gb21001)); clear HB; have HB := n0_; have BK21001 := n1_; have GW21001 := n2_; have GE21001 := n3_; clear n0_ n1_ n2_ n3_; clear hb hbox hg; have hcz6_0 : w5.cell? ⟨gb21001, 0, none⟩ = some (.int .i64 a0_0) := (blk_cell BK21001.out 0).trans rfl; have hcz6_1 : w5.cell? ⟨gb21001, 1, none⟩ = some (.int .i64 a0_1) := (blk_cell BK21001.out 1).trans rfl; have hcz6_2 : w5.cell? ⟨gb21001, 2, none⟩ = some (.int .i64 a0_2) := (blk_cell BK21001.out 2).trans rfl; have hcz6_3 : w5.cell? ⟨gb21001, 3, none⟩ = some (.slice A0_3 l0_3.length c0_3) := (blk_cell BK21001.out 3).trans rfl; have hfz6_0 := blk_frozen BK21001.out 0; have hfz6_1 := blk_frozen BK21001.out 1; have hfz6_2 := blk_frozen BK21001.out 2; have hfz6_3 := blk_frozen BK21001.out 3) | ((with_reducible refine gate_callee (f := 80) rfl ?_); refine goesL_ (some 8) rfl rfl Try.func80 (by kernel_rfl) rfl #[.slice A0_3 l0_3.length c0_3, .int .i64 a1] rfl (by (try simp only [List.map_toArray, List.map_cons, List.map_nil]); first | done | rfl | (simp only [List.length_drop, List.length_take]; rfl)) ?_; (with_reducible refine (laws_szIntS.calls _ _ l0_3 a1 t21002 _ ?side1 ?side2 A3.out).mono ?_); (case side1 => repeat (first | exact (Kd.C_below HR0_3.out HB.out) | (with_reducible refine Kd.C_alloc ?_ _) | (with_reducible refine Kd.C_drewN ?_ _) | (with_reducible refine Kd.C_drew ?_))); (case side2 => exact HC0_3.out); rintro e w' ⟨rfl, ⟨nd, rfl⟩⟩; refine ⟨_, rfl, ?_⟩))
    go_ret
    exact ⟨by first | rfl | (simp [errW_none, errW_some] <;> rfl) | (simp [*, errW_none, errW_some] <;> rfl), by repeat (first | (with_reducible first | exact HB.out | apply below_alloc | apply pw_below_drewN | apply below_drew1 | refine below_set ?_ GE21001.out) | exact HB.out)⟩
  · rw [if_neg c4] at H
    have c4b0 : decide (t21002 < 0) = false := decide_eq_false c4
    clear c4
    obtain rfl := Option.some.inj H
    go_enter Try.func20, Try.ntmps20
    go_wp2_with (first | ((with_reducible refine gate_dst (N := 2) rfl ?_); refine box_event ?hg (N := 2) ?hd (cs := #[.int .i64 a0_0, .int .i64 a0_1, .int .i64 a0_2, .slice A0_3 l0_3.length c0_3]) (t := 24) ?hr ?_; (case hd => rfl); (case hg => rfl); (case hr => first | (go_simp; done) | (go_simp; rfl)); intro gb21001 hg w7 hbox hb; have n0_ := Aside0.mk (below_step (by repeat (first | (with_reducible first | exact HB.out | apply below_alloc | apply pw_below_drewN | apply below_drew1) | exact HB.out)) hb); have n1_ := Aside0.mk (hbox); have n2_ := Aside0.mk ((by rw [hg]; exact (below_size (by repeat (first | (with_reducible first | exact HB.out | apply below_alloc | apply pw_below_drewN | apply below_drew1) | exact HB.out))) : w.heap.size ≤ gb21001)); have n3_ := Aside0.mk ((by rw [hg]; exact (below_size (by repeat (first | (with_reducible first | exact HB.out | apply below_alloc | apply pw_below_drewN | apply below_drew1) | exact HB.out))) : w.heap.size ≤ gb21001)); clear HB; have HB := n0_; have BK21001 := n1_; have GW21001 := n2_; have GE21001 := n3_; clear n0_ n1_ n2_ n3_; clear hb hbox hg; have hcz8_0 : w7.cell? ⟨gb21001, 0, none⟩ = some (.int .i64 a0_0) := (blk_cell BK21001.out 0).trans rfl; have hcz8_1 : w7.cell? ⟨gb21001, 1, none⟩ = some (.int .i64 a0_1) := (blk_cell BK21001.out 1).trans rfl; have hcz8_2 : w7.cell? ⟨gb21001, 2, none⟩ = some (.int .i64 a0_2) := (blk_cell BK21001.out 2).trans rfl; have hcz8_3 : w7.cell? ⟨gb21001, 3, none⟩ = some (.slice A0_3 l0_3.length c0_3) := (blk_cell BK21001.out 3).trans rfl; have hfz8_0 := blk_frozen BK21001.out 0; have hfz8_1 := blk_frozen BK21001.out 1; have hfz8_2 := blk_frozen BK21001.out 2; have hfz8_3 := blk_frozen BK21001.out 3) | ((with_reducible refine gate_callee (f := 80) rfl ?_); refine goesL_ (some 8) rfl rfl Try.func80 (by kernel_rfl) rfl #[.slice A0_3 l0_3.length c0_3, .int .i64 a1] rfl (by (try simp only [List.map_toArray, List.map_cons, List.map_nil]); first | done | rfl | (simp only [List.length_drop, List.length_take]; rfl)) ?_; (with_reducible refine (laws_szIntS.calls _ _ l0_3 a1 t21002 _ ?side1 ?side2 A3.out).mono ?_); (case side1 => repeat (first | exact (Kd.C_below HR0_3.out HB.out) | (with_reducible refine Kd.C_alloc ?_ _) | (with_reducible refine Kd.C_drewN ?_ _) | (with_reducible refine Kd.C_drew ?_))); (case side2 => exact HC0_3.out); rintro e w' ⟨rfl, ⟨nd, rfl⟩⟩; refine ⟨_, rfl, ?_⟩))
    go_ret
    exact ⟨by first | rfl | (simp [errW_none, errW_some] <;> rfl) | (simp [*, errW_none, errW_some] <;> rfl), by repeat (first | (with_reducible first | exact HB.out | apply below_alloc | apply pw_below_drewN | apply below_drew1 | refine below_set ?_ GE21001.out) | exact HB.out)⟩


def laws_toIntS.l0 : Nat → List Int → List Int → Int → Option (List Int)
  | 0, _, _, _ => none
  | k + 1, x0, x3, x4 => if x4 < (x0.length : Int) then (if 0 ≤ x4 then (if x4 < (x3.length : Int) then (laws_toIntS.l0 k x0 (x3.set (x4 : Int).toNat (rd x0 x4)) (wrap64 (x4 + 1))) else (none)) else (none)) else (some x3)
def laws_toIntS.f (k : Nat) (l0 : List Int) : Option (List Int) := if 0 ≤ (l0.length : Int) then (if ((l0.length : Int) : Int).toNat ≤ 35184372088832 then (laws_toIntS.l0 k l0 (List.replicate ((l0.length : Int) : Int).toNat 0) 0) else (none)) else (none)
theorem laws_toIntS.mono_l : ∀ k, (∀ y0 y1 y2, LeO (laws_toIntS.l0 k y0 y1 y2) (laws_toIntS.l0 (k + 1) y0 y1 y2))
  | 0 => fun _ _ _ r h => by simp [laws_toIntS.l0] at h
  | k + 1 => by
    have ih0 := laws_toIntS.mono_l k
    · intro y0 y1 y2
      unfold laws_toIntS.l0
      repeat' first
      | (with_reducible exact ih0 _ _ _)
      | (with_reducible exact LeO.refl _)
      | (with_reducible exact LeO.none _)
      | (with_reducible refine LeO.ite ?_ ?_)
      | (with_reducible refine LeO.bind ?_ (fun _ => ?_))
      | exact ih0 _ _ _
      | exact LeO.none _
      | refine LeO.ite ?_ ?_
      | refine LeO.bind ?_ (fun _ => ?_)
theorem laws_toIntS.mono : ∀ a0 k, LeO (laws_toIntS.f k a0) (laws_toIntS.f (k + 1) a0) := by
  intro a0 k
  have ih0 := laws_toIntS.mono_l k
  unfold laws_toIntS.f
  repeat' first
      | (with_reducible exact ih0 _ _ _)
      | (with_reducible exact LeO.refl _)
      | (with_reducible exact LeO.none _)
      | (with_reducible refine LeO.ite ?_ ?_)
      | (with_reducible refine LeO.bind ?_ (fun _ => ?_))
      | exact ih0 _ _ _
      | exact LeO.none _
      | refine LeO.ite ?_ ?_
      | refine LeO.bind ?_ (fun _ => ?_)
set_option maxHeartbeats 8000000 in
set_option maxRecDepth 100000 in
theorem laws_toIntS.calls (k : Nat) (A0 : Option Addr) (c0 : Nat) (l0 : List Int) (r : List Int) (w : World) (hr0 : Kd.C (Kd.int .i64) w A0 l0.length l0) (hc0 : l0.length ≤ c0) (h : laws_toIntS.f k l0 = some r) :
    Calls Try.prog 77 #[.slice A0 l0.length c0] w fun e w' => ∃ v0_ : Value, e = .returned (v0_) ∧ Kd.R (Kd.int .i64) 3 w' w.heap.size (fun _ => True) v0_ r ∧ Below w.heap.size w w' := by
  have HR0 := Aside0.mk hr0
  have HC0 := Aside0.mk hc0
  clear hr0 hc0
  have HB := Aside0.mk (Below.refl w.heap.size w)
  have H : (if 0 ≤ (l0.length : Int) then (if ((l0.length : Int) : Int).toNat ≤ 35184372088832 then (laws_toIntS.l0 k l0 (List.replicate ((l0.length : Int) : Int).toNat 0) 0) else (none)) else (none)) = some r := h
  clear h
  by_cases c2 : 0 ≤ (l0.length : Int)
  · rw [if_pos c2] at H
    have c2b0 := eq_true c2
    have c2b1 : decide (0 ≤ (l0.length : Int)) = true := decide_eq_true c2
    clear c2
    by_cases c3 : ((l0.length : Int) : Int).toNat ≤ 35184372088832
    · rw [if_pos c3] at H
      have c3b0 := eq_true c3
      have c3b1 : decide (((l0.length : Int) : Int).toNat ≤ 35184372088832) = true := decide_eq_true c3
      clear c3
      obtain ⟨y78001, hy78001⟩ : ∃ y_ : List Int, y_ = (List.replicate ((l0.length : Int) : Int).toNat 0) := ⟨_, rfl⟩
      replace H : (laws_toIntS.l0 k l0 y78001 0) = some r := by first | (rw [hy78001]; with_reducible exact H) | (have H2_ := (Option.bind_some _ _).symm.trans H; rw [hy78001]; with_reducible exact H2_) | (have H2_ := (Option.bind_some _ _).symm.trans H; with_reducible exact H2_) | with_reducible exact H | (rw [hy78001]; exact H) | exact H
      have Ny78001 := Aside0.mk hy78001
      clear hy78001
      have H' := Aside0.mk H
      clear H
      go_enter Try.func77, Try.ntmps77
      go_wp2_with (first | ((with_reducible refine gate_dst (N := 7) rfl ?_); refine Kd.R_make (Kd.int .i64) _ 3 rfl (N := 7) rfl 22 _ _ rfl (l0.length : Int) rfl rfl Try.underlying22 (.int .i64 0) 8 info3 rfl (by decide) (by omega) 0 (ok := fun _ => True) (okp := fun _ => True) rfl (fun _ hk => hk) trivial (of_decide_eq_true (by first | (with_reducible assumption) | assumption)) (Nat.le_trans (Nat.mul_le_mul_right _ (of_decide_eq_true (by first | (with_reducible assumption) | assumption) : (l0.length : Int).toNat ≤ 35184372088832)) (by omega)) (Below.refl _ _) (Nat.le_refl _) ?_; intro v78002 w4 ho5 hb hg_ hnew_; clear hg_ hnew_; (first | rw [← Ny78001.out] at ho5 | (simp only [Int.reduceToNat] at ho5; rw [← Ny78001.out] at ho5)); have n0_ := Aside0.mk (Kd.R_lower ho5 (below_size (by repeat (first | (with_reducible first | exact HB.out | apply below_alloc | apply pw_below_drewN | apply below_drew1) | exact HB.out)))); have n1_ := Aside0.mk (below_step (by repeat (first | (with_reducible first | exact HB.out | apply below_alloc | apply pw_below_drewN | apply below_drew1) | exact HB.out)) hb); clear HB; have HO78003 := n0_; have HB := n1_; clear n0_ n1_; clear hb ho5))
      go_loopg [4] k (fun kq v4 w' => ∃ (x3_1 : List Int) (x4_1 : Int), v4 = .int .i64 x4_1 ∧ Aside0 (laws_toIntS.l0 kq l0 x3_1 x4_1 = some r) ∧ Aside0 (kq ≤ k) ∧ Aside0 (Kd.R (Kd.int .i64) 3 w' w.heap.size (fun _ => True) v78002 x3_1) ∧ Aside0 (Below w.heap.size w w'))
      case atStart => exact ⟨(y78001), (0), (by first | rfl | (simp; done) | (simp [*]; done)), H', ⟨Nat.le_refl _⟩, ⟨by (with_reducible repeat (first | apply Kd.R_alloc | apply Kd.R_drewN | apply Kd.R_drew)); exact HO78003.out⟩, ⟨by repeat (first | (with_reducible first | exact HB.out | apply below_alloc | apply pw_below_drewN | apply below_drew1) | exact HB.out)⟩⟩
      case round =>
        clear H'
        try clear c2
        try clear c2b0
        try clear c2b1
        try clear p2
        try clear c3
        try clear c3b0
        try clear c3b1
        obtain ⟨x3_1, x4_1, rfl, HA, HK1, HO_3, HB⟩ := hrel
        cases gk with
        | zero => exact absurd HA.out (by simp [laws_toIntS.l0])
        | succ k1 =>
          have H := HA.out
          clear HA
          simp only [laws_toIntS.l0] at H
          by_cases c6 : x4_1 < (l0.length : Int)
          · rw [if_pos c6] at H
            have c6b0 : decide (x4_1 < (l0.length : Int)) = true := decide_eq_true c6
            clear c6
            by_cases c7 : 0 ≤ x4_1
            · rw [if_pos c7] at H
              have c7b0 : decide (0 ≤ x4_1) = true := decide_eq_true c7
              clear c7
              by_cases c8 : x4_1 < (x3_1.length : Int)
              · rw [if_pos c8] at H
                have c8b0 : decide (x4_1 < (x3_1.length : Int)) = true := decide_eq_true c8
                clear c8
                obtain ⟨y78005, hy78005⟩ : ∃ y_ : List Int, y_ = (x3_1.set (x4_1 : Int).toNat (rd l0 x4_1)) := ⟨_, rfl⟩
                replace H : (laws_toIntS.l0 k1 l0 y78005 (wrap64 (x4_1 + 1))) = some r := by first | (rw [hy78005]; with_reducible exact H) | (have H2_ := (Option.bind_some _ _).symm.trans H; rw [hy78005]; with_reducible exact H2_) | (have H2_ := (Option.bind_some _ _).symm.trans H; with_reducible exact H2_) | with_reducible exact H | (rw [hy78005]; exact H) | exact H
                have Ny78005 := Aside0.mk hy78005
                clear hy78005
                have H' := Aside0.mk H
                clear H
                have p78004 : 0 ≤ (x4_1 : Int) := of_decide_eq_true (by first | (with_reducible assumption) | assumption)
                have q78004 : x4_1 < (l0.length : Int) := of_decide_eq_true (by first | (with_reducible assumption) | assumption)
                obtain ⟨ad78004, e78004, hx78004_0⟩ := Kd.at_int HR0.out x4_1 p78004 q78004
                cases e78004
                replace hx78004_0 := (HB.out.cell (World.block_lt_of_cell? w _ hx78004_0)).trans hx78004_0
                replace p78004 := eq_true p78004
                replace q78004 := eq_true q78004
                have p9 : 0 ≤ (x4_1 : Int) := of_decide_eq_true (by first | (with_reducible assumption) | assumption)
                have q9 : (x4_1 : Int) < ((x3_1.length : Int) : Int) := of_decide_eq_true (by first | (with_reducible assumption) | assumption)
                obtain ⟨go9, co9, eo9, gb9, gl9, cl9, HG9⟩ := Kd.R_form HO_3.out (by omega)
                (first | cases eo9 | (injection eo9 with ea_ en_ ec_; (first | subst ea_ | (injection ea_ with ea_; subst ea_)); subst ec_; clear en_))
                have GB9 := Aside0.mk gb9
                have GG9 := Aside0.mk HG9
                clear gb9 gl9 HG9
                obtain ⟨hx9_0, hf9_0⟩ := Kd.R_celln 0 HO_3.out (x4_1 : Int) p9 q9
                replace p9 := eq_true p9
                replace q9 := eq_true q9
                have HP10 := Kd.R_putg HO_3.out (x4_1 : Int) (rd l0 x4_1)
                go_wp2_with (first | ((with_reducible refine gate_store (t := 3) (p := 20) rfl ?_); refine store_event (t := 3) (p := 20) (v := ?vo_w11) (w1 := (wr.setCell ⟨go9, (x4_1 : Int).toNat, none⟩ (.int .i64 (rd l0 x4_1)))) ?hg ?ho ?hn ?hr ?_; (case ho => rfl); (case hg => rfl); (case hn => rfl); (case hr => first | (go_simp; done) | (go_simp; rfl)); intro w11 hw; have hg : wr.grownBy w11 (some go9) := (by rw [hw]; exact HP10.2); have hp_ : Kd.R (Kd.int .i64) 3 w11 w.heap.size (fun _ => True) (.slice (some ⟨go9, 0, none⟩) x3_1.length co9) y78005 := (by rw [hw, Ny78005.out]; exact HP10.1); clear HP10; have n0_ := Aside0.mk (hp_); have n1_ := Aside0.mk ((by rw [hw]; exact below_set (HB.out) GB9.out : Below w.heap.size w w11)); clear HO_3; clear HB; have HO_3 := n0_; have HB := n1_; clear n0_ n1_; clear hg hw hp_))
                go_roundg k1
                case measure => have := HK1.out; omega
                case rel => exact ⟨(y78005), (wrap64 (x4_1 + 1)), (by first | rfl | (simp; done) | (simp [*]; done)), H', ⟨by have := HK1.out; omega⟩, ⟨by (with_reducible repeat (first | apply Kd.R_alloc | apply Kd.R_drewN | apply Kd.R_drew)); exact HO_3.out⟩, ⟨by repeat (first | (with_reducible first | exact HB.out | apply below_alloc | apply pw_below_drewN | apply below_drew1) | exact HB.out)⟩⟩
              · rw [if_neg c8] at H
                exact absurd H (by simp)
            · rw [if_neg c7] at H
              exact absurd H (by simp)
          · rw [if_neg c6] at H
            have c6b0 : decide (x4_1 < (l0.length : Int)) = false := decide_eq_false c6
            clear c6
            obtain rfl := Option.some.inj H
            go_wp2
            go_ret
            exact ⟨_, by first | rfl | (simp [errW_none, errW_some] <;> rfl) | (simp [*, errW_none, errW_some] <;> rfl), by (with_reducible repeat (first | apply Kd.R_alloc | apply Kd.R_drewN | apply Kd.R_drew)); exact HO_3.out, by repeat (first | (with_reducible first | exact HB.out | apply below_alloc | apply pw_below_drewN | apply below_drew1) | exact HB.out)⟩
    · rw [if_neg c3] at H
      exact absurd H (by simp)
  · rw [if_neg c2] at H
    exact absurd H (by simp)


def laws_toImage.f (k : Nat) (a0_0 : Int) (a0_1 : Int) (a0_2 : Int) (l0_3 : List Int) : Option (Int × Int × Int × List Int) := (laws_toIntS.f k l0_3).bind fun t23004 => (some (a0_0, a0_1, a0_2, t23004))
theorem laws_toImage.mono : ∀ a0 a1 a2 a3 k, LeO (laws_toImage.f k a0 a1 a2 a3) (laws_toImage.f (k + 1) a0 a1 a2 a3) := by
  intro a0 a1 a2 a3 k
  unfold laws_toImage.f
  repeat' first
      | (with_reducible exact laws_toIntS.mono _ _)
      | (with_reducible exact LeO.refl _)
      | (with_reducible exact LeO.none _)
      | (with_reducible refine LeO.ite ?_ ?_)
      | (with_reducible refine LeO.bind ?_ (fun _ => ?_))
      | exact laws_toIntS.mono _ _
      | exact LeO.none _
      | refine LeO.ite ?_ ?_
      | refine LeO.bind ?_ (fun _ => ?_)
set_option maxHeartbeats 8000000 in
set_option maxRecDepth 100000 in
theorem laws_toImage.calls (k : Nat) (a0_0 : Int) (a0_1 : Int) (a0_2 : Int) (A0_3 : Option Addr) (c0_3 : Nat) (l0_3 : List Int) (r1 : Int) (r2 : Int) (r3 : Int) (r4 : List Int) (w : World) (hr0_3 : Kd.C (Kd.int .i64) w A0_3 l0_3.length l0_3) (hc0_3 : l0_3.length ≤ c0_3) (h : laws_toImage.f k a0_0 a0_1 a0_2 l0_3 = some (r1, r2, r3, r4)) :
    Calls Try.prog 22 #[.agg #[.int .i64 a0_0, .int .i64 a0_1, .int .i64 a0_2, .slice A0_3 l0_3.length c0_3]] w fun e w' => ∃ v3_ : Value, e = .returned (.agg #[.int .i64 r1, .int .i64 r2, .int .i64 r3, v3_]) ∧ Kd.R (Kd.int .i64) 3 w' w.heap.size (fun _ => True) v3_ r4 ∧ Below w.heap.size w w' := by
  have hu24 := Try.underlying24
  have hu27 := Try.underlying27
  have HR0_3 := Aside0.mk hr0_3
  have HC0_3 := Aside0.mk hc0_3
  clear hr0_3 hc0_3
  have HB := Aside0.mk (Below.refl w.heap.size w)
  have H : ((laws_toIntS.f k l0_3).bind fun t23004 => (some (a0_0, a0_1, a0_2, t23004))) = some (r1, r2, r3, r4) := h
  clear h
  replace H := Option.bind_eq_some_iff.mp H
  obtain ⟨t23004, A20, H⟩ := H
  replace H : (some (a0_0, a0_1, a0_2, t23004)) = some (r1, r2, r3, r4) := H
  have A2 := Aside0.mk A20
  clear A20
  simp only [Option.some.injEq, Prod.mk.injEq] at H
  obtain ⟨rfl, rfl, rfl, rfl⟩ := H
  go_enter Try.func22, Try.ntmps22
  go_wp2_with (first | ((with_reducible refine gate_dst (N := 1) rfl ?_); refine box_event ?hg (N := 1) ?hd (cs := #[.int .i64 a0_0, .int .i64 a0_1, .int .i64 a0_2, .slice A0_3 l0_3.length c0_3]) (t := 24) ?hr ?_; (case hd => rfl); (case hg => rfl); (case hr => first | (go_simp; done) | (go_simp; rfl)); intro gb23001 hg w3 hbox hb; have n0_ := Aside0.mk (below_step (by repeat (first | (with_reducible first | exact HB.out | apply below_alloc | apply pw_below_drewN | apply below_drew1) | exact HB.out)) hb); have n1_ := Aside0.mk (hbox); have n2_ := Aside0.mk ((by rw [hg]; exact (below_size (by repeat (first | (with_reducible first | exact HB.out | apply below_alloc | apply pw_below_drewN | apply below_drew1) | exact HB.out))) : w.heap.size ≤ gb23001)); have n3_ := Aside0.mk ((by rw [hg]; exact (below_size (by repeat (first | (with_reducible first | exact HB.out | apply below_alloc | apply pw_below_drewN | apply below_drew1) | exact HB.out))) : w.heap.size ≤ gb23001)); clear HB; have HB := n0_; have BK23001 := n1_; have GW23001 := n2_; have GE23001 := n3_; clear n0_ n1_ n2_ n3_; clear hb hbox hg) | ((with_reducible refine gate_dst (N := 2) rfl ?_); refine box_event ?hg (N := 2) ?hd (cs := #[.int .i64 0, .int .i64 0, .int .i64 0, .slice none 0 0]) (t := 27) ?hr ?_; (case hd => rfl); (case hg => rfl); (case hr => first | (go_simp; done) | (go_simp; rfl)); intro gb23002 hg w4 hbox hb; have n0_ := Aside0.mk (blk_below (g := gb23001) (o := .cells #[.int .i64 a0_0, .int .i64 a0_1, .int .i64 a0_2, .slice A0_3 l0_3.length c0_3] 24 (0, 0)) (by (with_reducible repeat (first | refine blk_drewN ?_ _ | refine blk_drew ?_ | refine blk_alloc ?_ _)); exact BK23001.out) hb); have n1_ := Aside0.mk (below_step (by repeat (first | (with_reducible first | exact HB.out | apply below_alloc | apply pw_below_drewN | apply below_drew1 | refine below_set ?_ GE23001.out) | exact HB.out)) hb); have n2_ := Aside0.mk (hbox); have n3_ := Aside0.mk ((by rw [hg]; exact (below_size (by repeat (first | (with_reducible first | exact HB.out | apply below_alloc | apply pw_below_drewN | apply below_drew1 | refine below_set ?_ GE23001.out) | exact HB.out))) : w.heap.size ≤ gb23002)); have n4_ := Aside0.mk ((by rw [hg]; exact (below_size (by repeat (first | (with_reducible first | exact HB.out | apply below_alloc | apply pw_below_drewN | apply below_drew1 | refine below_set ?_ GE23001.out) | exact HB.out))) : w.heap.size ≤ gb23002)); have n5_ := Aside0.mk ((by rw [hg]; exact Nat.ne_of_lt (blk_lt (g := gb23001) (o := .cells #[.int .i64 a0_0, .int .i64 a0_1, .int .i64 a0_2, .slice A0_3 l0_3.length c0_3] 24 (0, 0)) (by (with_reducible repeat (first | refine blk_drewN ?_ _ | refine blk_drew ?_ | refine blk_alloc ?_ _)); exact BK23001.out)) : gb23001 ≠ gb23002)); have n6_ := Aside0.mk ((by rw [hg]; exact Nat.ne_of_gt (blk_lt (g := gb23001) (o := .cells #[.int .i64 a0_0, .int .i64 a0_1, .int .i64 a0_2, .slice A0_3 l0_3.length c0_3] 24 (0, 0)) (by (with_reducible repeat (first | refine blk_drewN ?_ _ | refine blk_drew ?_ | refine blk_alloc ?_ _)); exact BK23001.out)) : gb23002 ≠ gb23001)); clear BK23001; clear HB; have BK23001 := n0_; have HB := n1_; have BK23002 := n2_; have GW23002 := n3_; have GE23002 := n4_; have NB23001_23002 := n5_; have NB23002_23001 := n6_; clear n0_ n1_ n2_ n3_ n4_ n5_ n6_; clear hb hbox hg) | ((with_reducible refine gate_dst (N := 3) rfl ?_); refine box_event ?hg (N := 3) ?hd (cs := #[.int .i64 0, .int .i64 0, .int .i64 0, .slice none 0 0]) (t := 27) ?hr ?_; (case hd => rfl); (case hg => rfl); (case hr => first | (go_simp; done) | (go_simp; rfl)); intro gb23003 hg w5 hbox hb; have n0_ := Aside0.mk (blk_below (g := gb23001) (o := .cells #[.int .i64 a0_0, .int .i64 a0_1, .int .i64 a0_2, .slice A0_3 l0_3.length c0_3] 24 (0, 0)) (by (with_reducible repeat (first | refine blk_drewN ?_ _ | refine blk_drew ?_ | refine blk_alloc ?_ _)); exact BK23001.out) hb); have n1_ := Aside0.mk (blk_below (g := gb23002) (o := .cells #[.int .i64 0, .int .i64 0, .int .i64 0, .slice none 0 0] 27 (0, 0)) (by (with_reducible repeat (first | refine blk_drewN ?_ _ | refine blk_drew ?_ | refine blk_alloc ?_ _)); exact BK23002.out) hb); have n2_ := Aside0.mk (below_step (by repeat (first | (with_reducible first | exact HB.out | apply below_alloc | apply pw_below_drewN | apply below_drew1 | refine below_set ?_ GE23001.out | refine below_set ?_ GE23002.out) | exact HB.out)) hb); have n3_ := Aside0.mk (hbox); have n4_ := Aside0.mk ((by rw [hg]; exact (below_size (by repeat (first | (with_reducible first | exact HB.out | apply below_alloc | apply pw_below_drewN | apply below_drew1 | refine below_set ?_ GE23001.out | refine below_set ?_ GE23002.out) | exact HB.out))) : w.heap.size ≤ gb23003)); have n5_ := Aside0.mk ((by rw [hg]; exact (below_size (by repeat (first | (with_reducible first | exact HB.out | apply below_alloc | apply pw_below_drewN | apply below_drew1 | refine below_set ?_ GE23001.out | refine below_set ?_ GE23002.out) | exact HB.out))) : w.heap.size ≤ gb23003)); have n6_ := Aside0.mk ((by rw [hg]; exact Nat.ne_of_lt (blk_lt (g := gb23001) (o := .cells #[.int .i64 a0_0, .int .i64 a0_1, .int .i64 a0_2, .slice A0_3 l0_3.length c0_3] 24 (0, 0)) (by (with_reducible repeat (first | refine blk_drewN ?_ _ | refine blk_drew ?_ | refine blk_alloc ?_ _)); exact BK23001.out)) : gb23001 ≠ gb23003)); have n7_ := Aside0.mk ((by rw [hg]; exact Nat.ne_of_gt (blk_lt (g := gb23001) (o := .cells #[.int .i64 a0_0, .int .i64 a0_1, .int .i64 a0_2, .slice A0_3 l0_3.length c0_3] 24 (0, 0)) (by (with_reducible repeat (first | refine blk_drewN ?_ _ | refine blk_drew ?_ | refine blk_alloc ?_ _)); exact BK23001.out)) : gb23003 ≠ gb23001)); have n8_ := Aside0.mk ((by rw [hg]; exact Nat.ne_of_lt (blk_lt (g := gb23002) (o := .cells #[.int .i64 0, .int .i64 0, .int .i64 0, .slice none 0 0] 27 (0, 0)) (by (with_reducible repeat (first | refine blk_drewN ?_ _ | refine blk_drew ?_ | refine blk_alloc ?_ _)); exact BK23002.out)) : gb23002 ≠ gb23003)); have n9_ := Aside0.mk ((by rw [hg]; exact Nat.ne_of_gt (blk_lt (g := gb23002) (o := .cells #[.int .i64 0, .int .i64 0, .int .i64 0, .slice none 0 0] 27 (0, 0)) (by (with_reducible repeat (first | refine blk_drewN ?_ _ | refine blk_drew ?_ | refine blk_alloc ?_ _)); exact BK23002.out)) : gb23003 ≠ gb23002)); clear BK23001; clear BK23002; clear HB; have BK23001 := n0_; have BK23002 := n1_; have HB := n2_; have BK23003 := n3_; have GW23003 := n4_; have GE23003 := n5_; have NB23001_23003 := n6_; have NB23003_23001 := n7_; have NB23002_23003 := n8_; have NB23003_23002 := n9_; clear n0_ n1_ n2_ n3_ n4_ n5_ n6_ n7_ n8_ n9_; clear hb hbox hg; have hnb6 := NB23001_23002.out; have hnc6 := NB23002_23001.out; have hnb7 := NB23001_23003.out; have hnc7 := NB23003_23001.out; have hcz8_0 : w5.cell? ⟨gb23001, 0, none⟩ = some (.int .i64 a0_0) := (blk_cell BK23001.out 0).trans rfl; have hcz8_1 : w5.cell? ⟨gb23001, 1, none⟩ = some (.int .i64 a0_1) := (blk_cell BK23001.out 1).trans rfl; have hcz8_2 : w5.cell? ⟨gb23001, 2, none⟩ = some (.int .i64 a0_2) := (blk_cell BK23001.out 2).trans rfl; have hcz8_3 : w5.cell? ⟨gb23001, 3, none⟩ = some (.slice A0_3 l0_3.length c0_3) := (blk_cell BK23001.out 3).trans rfl; have hfz8_0 := blk_frozen BK23001.out 0; have hfz8_1 := blk_frozen BK23001.out 1; have hfz8_2 := blk_frozen BK23001.out 2; have hfz8_3 := blk_frozen BK23001.out 3; have hnb9 := NB23003_23002.out; have hnc9 := NB23002_23003.out; have hcz10_0 : w5.cell? ⟨gb23003, 0, none⟩ = some (.int .i64 0) := (blk_cell BK23003.out 0).trans rfl; have hcz10_1 : w5.cell? ⟨gb23003, 1, none⟩ = some (.int .i64 0) := (blk_cell BK23003.out 1).trans rfl; have hcz10_2 : w5.cell? ⟨gb23003, 2, none⟩ = some (.int .i64 0) := (blk_cell BK23003.out 2).trans rfl; have hcz10_3 : w5.cell? ⟨gb23003, 3, none⟩ = some (.slice none 0 0) := (blk_cell BK23003.out 3).trans rfl; have hfz10_0 := blk_frozen BK23003.out 0; have hfz10_1 := blk_frozen BK23003.out 1; have hfz10_2 := blk_frozen BK23003.out 2; have hfz10_3 := blk_frozen BK23003.out 3) | ((with_reducible refine gate_callee (f := 77) rfl ?_); refine goesL_ (some 15) rfl rfl Try.func77 (by kernel_rfl) rfl #[.slice A0_3 l0_3.length c0_3] rfl (by (try simp only [List.map_toArray, List.map_cons, List.map_nil]); first | done | rfl | (simp only [List.length_drop, List.length_take]; rfl)) ?_; (with_reducible refine (laws_toIntS.calls k _ _ l0_3 t23004 _ ?side1 ?side2 A2.out).mono ?_); (case side1 => exact Kd.C_below HR0_3.out (by repeat (first | (with_reducible first | exact HB.out | apply below_alloc | apply pw_below_drewN | apply below_drew1 | refine below_set ?_ GE23001.out | refine below_set ?_ GE23002.out | refine below_set ?_ GE23003.out) | exact HB.out))); (case side2 => exact HC0_3.out); rintro e w11 ⟨v23005, rfl, ho0, hb⟩; refine ⟨_, rfl, ?_⟩; have n0_ := Aside0.mk (Kd.R_lower ho0 (below_size (by repeat (first | (with_reducible first | exact HB.out | apply below_alloc | apply pw_below_drewN | apply below_drew1 | refine below_set ?_ GE23001.out | refine below_set ?_ GE23002.out | refine below_set ?_ GE23003.out) | exact HB.out)))); have n1_ := Aside0.mk (blk_below (g := gb23001) (o := .cells #[.int .i64 a0_0, .int .i64 a0_1, .int .i64 a0_2, .slice A0_3 l0_3.length c0_3] 24 (0, 0)) (by (with_reducible repeat (first | refine blk_drewN ?_ _ | refine blk_drew ?_ | refine blk_alloc ?_ _)); refine blk_far ?_ NB23001_23003.out _; (with_reducible repeat (first | refine blk_drewN ?_ _ | refine blk_drew ?_ | refine blk_alloc ?_ _)); refine blk_far ?_ NB23001_23003.out _; (with_reducible repeat (first | refine blk_drewN ?_ _ | refine blk_drew ?_ | refine blk_alloc ?_ _)); refine blk_far ?_ NB23001_23003.out _; (with_reducible repeat (first | refine blk_drewN ?_ _ | refine blk_drew ?_ | refine blk_alloc ?_ _)); exact BK23001.out) hb); have n2_ := Aside0.mk (blk_below (g := gb23002) (o := .cells #[.int .i64 0, .int .i64 0, .int .i64 0, .slice none 0 0] 27 (0, 0)) (by (with_reducible repeat (first | refine blk_drewN ?_ _ | refine blk_drew ?_ | refine blk_alloc ?_ _)); refine blk_far ?_ NB23002_23003.out _; (with_reducible repeat (first | refine blk_drewN ?_ _ | refine blk_drew ?_ | refine blk_alloc ?_ _)); refine blk_far ?_ NB23002_23003.out _; (with_reducible repeat (first | refine blk_drewN ?_ _ | refine blk_drew ?_ | refine blk_alloc ?_ _)); refine blk_far ?_ NB23002_23003.out _; (with_reducible repeat (first | refine blk_drewN ?_ _ | refine blk_drew ?_ | refine blk_alloc ?_ _)); exact BK23002.out) hb); have n3_ := Aside0.mk (blk_below (g := gb23003) (o := .cells #[.int .i64 a0_0, .int .i64 a0_1, .int .i64 a0_2, .slice none 0 0] 27 (0, 0)) (by (with_reducible repeat (first | refine blk_drewN ?_ _ | refine blk_drew ?_ | refine blk_alloc ?_ _)); refine blk_put (cs := #[.int .i64 a0_0, .int .i64 a0_1, .int .i64 0, .slice none 0 0]) ?_ 2 _ rfl; (with_reducible repeat (first | refine blk_drewN ?_ _ | refine blk_drew ?_ | refine blk_alloc ?_ _)); refine blk_put (cs := #[.int .i64 a0_0, .int .i64 0, .int .i64 0, .slice none 0 0]) ?_ 1 _ rfl; (with_reducible repeat (first | refine blk_drewN ?_ _ | refine blk_drew ?_ | refine blk_alloc ?_ _)); refine blk_put (cs := #[.int .i64 0, .int .i64 0, .int .i64 0, .slice none 0 0]) ?_ 0 _ rfl; (with_reducible repeat (first | refine blk_drewN ?_ _ | refine blk_drew ?_ | refine blk_alloc ?_ _)); exact BK23003.out) hb); have n4_ := Aside0.mk (below_step (by repeat (first | (with_reducible first | exact HB.out | apply below_alloc | apply pw_below_drewN | apply below_drew1 | refine below_set ?_ GE23001.out | refine below_set ?_ GE23002.out | refine below_set ?_ GE23003.out) | exact HB.out)) hb); clear BK23001; clear BK23002; clear BK23003; clear HB; have HO23006 := n0_; have BK23001 := n1_; have BK23002 := n2_; have BK23003 := n3_; have HB := n4_; clear n0_ n1_ n2_ n3_ n4_; (try clear hb); (try clear hb2); (try clear hk); (try clear hi); (try clear ho0); obtain ⟨Ao12, co12, eo12⟩ := Kd.R_slice HO23006.out; subst eo12; have hcz13_0 : w11.cell? ⟨gb23003, 0, none⟩ = some (.int .i64 a0_0) := (blk_cell BK23003.out 0).trans rfl; have hcz13_1 : w11.cell? ⟨gb23003, 1, none⟩ = some (.int .i64 a0_1) := (blk_cell BK23003.out 1).trans rfl; have hcz13_2 : w11.cell? ⟨gb23003, 2, none⟩ = some (.int .i64 a0_2) := (blk_cell BK23003.out 2).trans rfl; have hcz13_3 : w11.cell? ⟨gb23003, 3, none⟩ = some (.slice none 0 0) := (blk_cell BK23003.out 3).trans rfl; have hfz13_0 := blk_frozen BK23003.out 0; have hfz13_1 := blk_frozen BK23003.out 1; have hfz13_2 := blk_frozen BK23003.out 2; have hfz13_3 := blk_frozen BK23003.out 3; have hcz14_0 : w11.cell? ⟨gb23002, 0, none⟩ = some (.int .i64 0) := (blk_cell BK23002.out 0).trans rfl; have hcz14_1 : w11.cell? ⟨gb23002, 1, none⟩ = some (.int .i64 0) := (blk_cell BK23002.out 1).trans rfl; have hcz14_2 : w11.cell? ⟨gb23002, 2, none⟩ = some (.int .i64 0) := (blk_cell BK23002.out 2).trans rfl; have hcz14_3 : w11.cell? ⟨gb23002, 3, none⟩ = some (.slice none 0 0) := (blk_cell BK23002.out 3).trans rfl; have hfz14_0 := blk_frozen BK23002.out 0; have hfz14_1 := blk_frozen BK23002.out 1; have hfz14_2 := blk_frozen BK23002.out 2; have hfz14_3 := blk_frozen BK23002.out 3))
  refine bodyPost_ret (results_cell_row rfl _ _ gb23002 27 #[.int .i64 a0_0, .int .i64 a0_1, .int .i64 a0_2, .slice Ao12 t23004.length co12] (0, 0) _ rfl (by (with_reducible repeat (first | refine blk_drewN ?_ _ | refine blk_drew ?_ | refine blk_alloc ?_ _)); refine blk_put (cs := #[.int .i64 a0_0, .int .i64 a0_1, .int .i64 a0_2, .slice none 0 0]) ?_ 3 _ rfl; (with_reducible repeat (first | refine blk_drewN ?_ _ | refine blk_drew ?_ | refine blk_alloc ?_ _)); refine blk_put (cs := #[.int .i64 a0_0, .int .i64 a0_1, .int .i64 0, .slice none 0 0]) ?_ 2 _ rfl; (with_reducible repeat (first | refine blk_drewN ?_ _ | refine blk_drew ?_ | refine blk_alloc ?_ _)); refine blk_put (cs := #[.int .i64 a0_0, .int .i64 0, .int .i64 0, .slice none 0 0]) ?_ 1 _ rfl; (with_reducible repeat (first | refine blk_drewN ?_ _ | refine blk_drew ?_ | refine blk_alloc ?_ _)); refine blk_put (cs := #[.int .i64 0, .int .i64 0, .int .i64 0, .slice none 0 0]) ?_ 0 _ rfl; (with_reducible repeat (first | refine blk_drewN ?_ _ | refine blk_drew ?_ | refine blk_alloc ?_ _)); refine blk_far ?_ NB23002_23003.out _; (with_reducible repeat (first | refine blk_drewN ?_ _ | refine blk_drew ?_ | refine blk_alloc ?_ _)); exact BK23002.out) Try.underlying27 rfl (by kernel_rfl)) rfl ?_
  exact ⟨_, by first | rfl | (simp [errW_none, errW_some] <;> rfl) | (simp [*, errW_none, errW_some] <;> rfl), by (with_reducible repeat (first | apply Kd.R_alloc | apply Kd.R_drewN | apply Kd.R_drew)); exact Kd.R_mono (Kd.R_far (p := ⟨gb23002, 3, none⟩) (Kd.R_far (p := ⟨gb23002, 2, none⟩) (Kd.R_far (p := ⟨gb23002, 1, none⟩) (Kd.R_far (p := ⟨gb23002, 0, none⟩) (Kd.R_far (p := ⟨gb23003, 3, none⟩) (Kd.R_types (Kd.R_types HO23006.out BK23003.out (by decide)) BK23002.out (by decide)) (fun _ hk => hk.1.2) (.slice Ao12 t23004.length co12)) (fun _ hk => hk.2) (.int .i64 a0_0)) (fun _ hk => hk.2) (.int .i64 a0_1)) (fun _ hk => hk.2) (.int .i64 a0_2)) (fun _ hk => hk.2) (.slice Ao12 t23004.length co12)) (fun _ hk => trivial), by repeat (first | (with_reducible first | exact HB.out | apply below_alloc | apply pw_below_drewN | apply below_drew1 | refine below_set ?_ GE23001.out | refine below_set ?_ GE23002.out | refine below_set ?_ GE23003.out) | exact HB.out)⟩


def laws_eqIntS.l0 : Nat → List Int → List Int → Int → Option (Bool)
  | 0, _, _, _ => none
  | k + 1, x0, x1, x5 => if x5 < (x0.length : Int) then (if 0 ≤ x5 then (if x5 < (x1.length : Int) then (if (rd x0 x5) = (rd x1 x5) then (laws_eqIntS.l0 k x0 x1 (wrap64 (x5 + 1))) else (some false)) else (none)) else (none)) else (some true)
def laws_eqIntS.f (k : Nat) (l0 : List Int) (l1 : List Int) : Option (Bool) := if (l0.length : Int) = (l1.length : Int) then (laws_eqIntS.l0 k l0 l1 0) else (some false)
theorem laws_eqIntS.mono_l : ∀ k, (∀ y0 y1 y2, LeO (laws_eqIntS.l0 k y0 y1 y2) (laws_eqIntS.l0 (k + 1) y0 y1 y2))
  | 0 => fun _ _ _ r h => by simp [laws_eqIntS.l0] at h
  | k + 1 => by
    have ih0 := laws_eqIntS.mono_l k
    · intro y0 y1 y2
      unfold laws_eqIntS.l0
      repeat' first
      | (with_reducible exact ih0 _ _ _)
      | (with_reducible exact LeO.refl _)
      | (with_reducible exact LeO.none _)
      | (with_reducible refine LeO.ite ?_ ?_)
      | (with_reducible refine LeO.bind ?_ (fun _ => ?_))
      | exact ih0 _ _ _
      | exact LeO.none _
      | refine LeO.ite ?_ ?_
      | refine LeO.bind ?_ (fun _ => ?_)
theorem laws_eqIntS.mono : ∀ a0 a1 k, LeO (laws_eqIntS.f k a0 a1) (laws_eqIntS.f (k + 1) a0 a1) := by
  intro a0 a1 k
  have ih0 := laws_eqIntS.mono_l k
  unfold laws_eqIntS.f
  repeat' first
      | (with_reducible exact ih0 _ _ _)
      | (with_reducible exact LeO.refl _)
      | (with_reducible exact LeO.none _)
      | (with_reducible refine LeO.ite ?_ ?_)
      | (with_reducible refine LeO.bind ?_ (fun _ => ?_))
      | exact ih0 _ _ _
      | exact LeO.none _
      | refine LeO.ite ?_ ?_
      | refine LeO.bind ?_ (fun _ => ?_)
set_option maxHeartbeats 8000000 in
set_option maxRecDepth 100000 in
theorem laws_eqIntS.calls (k : Nat) (A0 : Option Addr) (c0 : Nat) (l0 : List Int) (A1 : Option Addr) (c1 : Nat) (l1 : List Int) (r : Bool) (w : World) (hr0 : Kd.C (Kd.int .i64) w A0 l0.length l0) (hc0 : l0.length ≤ c0) (hr1 : Kd.C (Kd.int .i64) w A1 l1.length l1) (hc1 : l1.length ≤ c1) (h : laws_eqIntS.f k l0 l1 = some r) :
    Calls Try.prog 43 #[.slice A0 l0.length c0, .slice A1 l1.length c1] w fun e w' => e = .returned (.bool r) ∧ Drawn0 w w' := by
  have HR0 := Aside0.mk hr0
  have HC0 := Aside0.mk hc0
  clear hr0 hc0
  have HR1 := Aside0.mk hr1
  have HC1 := Aside0.mk hc1
  clear hr1 hc1
  have H : (if (l0.length : Int) = (l1.length : Int) then (laws_eqIntS.l0 k l0 l1 0) else (some false)) = some r := h
  clear h
  by_cases c3 : (l0.length : Int) = (l1.length : Int)
  · rw [if_pos c3] at H
    have c3b0 : ((l0.length : Int) == (l1.length : Int)) = true := beq_iff_eq.mpr c3
    have c3b1 : ((l0.length : Int) != (l1.length : Int)) = false := bne_eq_false_iff_eq.mpr c3
    have c3b2 : (l0.length == l1.length) = true := by first | simpa using c3 | (simp at c3 ⊢; omega)
    clear c3
    have H' := Aside0.mk H
    clear H
    go_enter Try.func43, Try.ntmps43
    go_wp2
    repeat (go_quiet (fail); try go_wp2)
    go_loopg [5] k (fun kq v5 w' => ∃ (x5_1 : Int), v5 = .int .i64 x5_1 ∧ Aside0 (laws_eqIntS.l0 kq l0 l1 x5_1 = some r) ∧ Aside0 (kq ≤ k) ∧ Drawn0 w w')
    case atStart => exact ⟨(0), (by first | rfl | (simp; done) | (simp [*]; done)), H', ⟨Nat.le_refl _⟩, by repeat (first | exact Drawn0.refl _ | apply Drawn0.step)⟩
    case round =>
      clear H'
      try clear c1
      try clear p2
      try clear c3
      try clear c3b0
      try clear c3b1
      try clear c3b2
      obtain ⟨x5_1, rfl, HA, HK1, ⟨m1, rfl⟩⟩ := hrel
      cases gk with
      | zero => exact absurd HA.out (by simp [laws_eqIntS.l0])
      | succ k1 =>
        have H := HA.out
        clear HA
        simp only [laws_eqIntS.l0] at H
        by_cases c4 : x5_1 < (l0.length : Int)
        · rw [if_pos c4] at H
          have c4b0 : decide (x5_1 < (l0.length : Int)) = true := decide_eq_true c4
          clear c4
          by_cases c5 : 0 ≤ x5_1
          · rw [if_pos c5] at H
            have c5b0 : decide (0 ≤ x5_1) = true := decide_eq_true c5
            clear c5
            by_cases c6 : x5_1 < (l1.length : Int)
            · rw [if_pos c6] at H
              have c6b0 : decide (x5_1 < (l1.length : Int)) = true := decide_eq_true c6
              clear c6
              by_cases c7 : (rd l0 x5_1) = (rd l1 x5_1)
              · rw [if_pos c7] at H
                have c7b0 : ((rd l0 x5_1) == (rd l1 x5_1)) = true := beq_iff_eq.mpr c7
                have c7b1 : ((rd l0 x5_1) != (rd l1 x5_1)) = false := bne_eq_false_iff_eq.mpr c7
                clear c7
                have H' := Aside0.mk H
                clear H
                have p44001 : 0 ≤ (x5_1 : Int) := of_decide_eq_true (by first | (with_reducible assumption) | assumption)
                have q44001 : x5_1 < (l0.length : Int) := of_decide_eq_true (by first | (with_reducible assumption) | assumption)
                obtain ⟨ad44001, e44001, hx44001_0⟩ := Kd.at_int HR0.out x5_1 p44001 q44001
                cases e44001
                replace p44001 := eq_true p44001
                replace q44001 := eq_true q44001
                have p44002 : 0 ≤ (x5_1 : Int) := of_decide_eq_true (by first | (with_reducible assumption) | assumption)
                have q44002 : x5_1 < (l1.length : Int) := of_decide_eq_true (by first | (with_reducible assumption) | assumption)
                obtain ⟨ad44002, e44002, hx44002_0⟩ := Kd.at_int HR1.out x5_1 p44002 q44002
                cases e44002
                replace p44002 := eq_true p44002
                replace q44002 := eq_true q44002
                go_wp2
                repeat (go_quiet (fail); try go_wp2)
                go_roundg k1
                case measure => have := HK1.out; omega
                case rel => exact ⟨(wrap64 (x5_1 + 1)), (by first | rfl | (simp; done) | (simp [*]; done)), H', ⟨by have := HK1.out; omega⟩, by repeat (first | exact Drawn0.refl _ | apply Drawn0.step)⟩
              · rw [if_neg c7] at H
                have c7b0 : ((rd l0 x5_1) == (rd l1 x5_1)) = false := beq_eq_false_iff_ne.mpr c7
                have c7b1 : ((rd l0 x5_1) != (rd l1 x5_1)) = true := bne_iff_ne.mpr c7
                obtain rfl := Option.some.inj H
                have p44001 : 0 ≤ (x5_1 : Int) := of_decide_eq_true (by first | (with_reducible assumption) | assumption)
                have q44001 : x5_1 < (l0.length : Int) := of_decide_eq_true (by first | (with_reducible assumption) | assumption)
                obtain ⟨ad44001, e44001, hx44001_0⟩ := Kd.at_int HR0.out x5_1 p44001 q44001
                cases e44001
                replace p44001 := eq_true p44001
                replace q44001 := eq_true q44001
                have p44002 : 0 ≤ (x5_1 : Int) := of_decide_eq_true (by first | (with_reducible assumption) | assumption)
                have q44002 : x5_1 < (l1.length : Int) := of_decide_eq_true (by first | (with_reducible assumption) | assumption)
                obtain ⟨ad44002, e44002, hx44002_0⟩ := Kd.at_int HR1.out x5_1 p44002 q44002
                cases e44002
                replace p44002 := eq_true p44002
                replace q44002 := eq_true q44002
                go_wp2
                repeat (go_quiet (fail); try go_wp2)
                go_ret
                exact ⟨by first | rfl | (simp; done) | (simp [*]; done), by repeat (first | exact Drawn0.refl _ | apply Drawn0.step)⟩
            · rw [if_neg c6] at H
              exact absurd H (by simp)
          · rw [if_neg c5] at H
            exact absurd H (by simp)
        · rw [if_neg c4] at H
          have c4b0 : decide (x5_1 < (l0.length : Int)) = false := decide_eq_false c4
          clear c4
          obtain rfl := Option.some.inj H
          go_wp2
          repeat (go_quiet (fail); try go_wp2)
          go_ret
          exact ⟨by first | rfl | (simp; done) | (simp [*]; done), by repeat (first | exact Drawn0.refl _ | apply Drawn0.step)⟩
  · rw [if_neg c3] at H
    have c3b0 : ((l0.length : Int) == (l1.length : Int)) = false := beq_eq_false_iff_ne.mpr c3
    have c3b1 : ((l0.length : Int) != (l1.length : Int)) = true := bne_iff_ne.mpr c3
    have c3b2 : (l0.length == l1.length) = false := by first | simpa using c3 | (simp at c3 ⊢; omega)
    obtain rfl := Option.some.inj H
    go_enter Try.func43, Try.ntmps43
    go_wp2
    repeat (go_quiet (fail); try go_wp2)
    go_ret
    exact ⟨by first | rfl | (simp; done) | (simp [*]; done), by repeat (first | exact Drawn0.refl _ | apply Drawn0.step)⟩


def laws_eqImage.f (k : Nat) (a0_0 : Int) (a0_1 : Int) (a0_2 : Int) (l0_3 : List Int) (a1_0 : Int) (a1_1 : Int) (a1_2 : Int) (l1_3 : List Int) : Option (Bool) := if a0_0 = a1_0 then (if a0_1 = a1_1 then (if a0_2 = a1_2 then ((laws_eqIntS.f k l0_3 l1_3).bind fun t25003 => (if t25003 = true then (some true) else (some false))) else (some false)) else (some false)) else (some false)
theorem laws_eqImage.mono : ∀ a0 a1 a2 a3 a4 a5 a6 a7 k, LeO (laws_eqImage.f k a0 a1 a2 a3 a4 a5 a6 a7) (laws_eqImage.f (k + 1) a0 a1 a2 a3 a4 a5 a6 a7) := by
  intro a0 a1 a2 a3 a4 a5 a6 a7 k
  unfold laws_eqImage.f
  repeat' first
      | (with_reducible exact laws_eqIntS.mono _ _ _)
      | (with_reducible exact LeO.refl _)
      | (with_reducible exact LeO.none _)
      | (with_reducible refine LeO.ite ?_ ?_)
      | (with_reducible refine LeO.bind ?_ (fun _ => ?_))
      | exact laws_eqIntS.mono _ _ _
      | exact LeO.none _
      | refine LeO.ite ?_ ?_
      | refine LeO.bind ?_ (fun _ => ?_)
set_option maxHeartbeats 8000000 in
set_option maxRecDepth 100000 in
theorem laws_eqImage.calls (k : Nat) (a0_0 : Int) (a0_1 : Int) (a0_2 : Int) (A0_3 : Option Addr) (c0_3 : Nat) (l0_3 : List Int) (a1_0 : Int) (a1_1 : Int) (a1_2 : Int) (A1_3 : Option Addr) (c1_3 : Nat) (l1_3 : List Int) (r : Bool) (w : World) (hr0_3 : Kd.C (Kd.int .i64) w A0_3 l0_3.length l0_3) (hc0_3 : l0_3.length ≤ c0_3) (hr1_3 : Kd.C (Kd.int .i64) w A1_3 l1_3.length l1_3) (hc1_3 : l1_3.length ≤ c1_3) (h : laws_eqImage.f k a0_0 a0_1 a0_2 l0_3 a1_0 a1_1 a1_2 l1_3 = some r) (hrt : r = true) :
    Calls Try.prog 24 #[.agg #[.int .i64 a0_0, .int .i64 a0_1, .int .i64 a0_2, .slice A0_3 l0_3.length c0_3], .agg #[.int .i64 a1_0, .int .i64 a1_1, .int .i64 a1_2, .slice A1_3 l1_3.length c1_3]] w fun e w' => e = .returned (.bool r) ∧ Below w.heap.size w w' := by
  have HRT := Aside0.mk hrt
  clear hrt
  have hu27 := Try.underlying27
  have HR0_3 := Aside0.mk hr0_3
  have HC0_3 := Aside0.mk hc0_3
  clear hr0_3 hc0_3
  have HR1_3 := Aside0.mk hr1_3
  have HC1_3 := Aside0.mk hc1_3
  clear hr1_3 hc1_3
  have HB := Aside0.mk (Below.refl w.heap.size w)
  have H : (if a0_0 = a1_0 then (if a0_1 = a1_1 then (if a0_2 = a1_2 then ((laws_eqIntS.f k l0_3 l1_3).bind fun t25003 => (if t25003 = true then (some true) else (some false))) else (some false)) else (some false)) else (some false)) = some r := h
  clear h
  by_cases c3 : a0_0 = a1_0
  · rw [if_pos c3] at H
    have c3b0 : (a0_0 == a1_0) = true := beq_iff_eq.mpr c3
    have c3b1 : (a0_0 != a1_0) = false := bne_eq_false_iff_eq.mpr c3
    clear c3
    by_cases c4 : a0_1 = a1_1
    · rw [if_pos c4] at H
      have c4b0 : (a0_1 == a1_1) = true := beq_iff_eq.mpr c4
      have c4b1 : (a0_1 != a1_1) = false := bne_eq_false_iff_eq.mpr c4
      clear c4
      by_cases c5 : a0_2 = a1_2
      · rw [if_pos c5] at H
        have c5b0 : (a0_2 == a1_2) = true := beq_iff_eq.mpr c5
        have c5b1 : (a0_2 != a1_2) = false := bne_eq_false_iff_eq.mpr c5
        clear c5
        replace H := Option.bind_eq_some_iff.mp H
        obtain ⟨t25003, A60, H⟩ := H
        replace H : (if t25003 = true then (some true) else (some false)) = some r := H
        have A6 := Aside0.mk A60
        clear A60
        by_cases c7 : t25003 = true
        · subst c7
          have H1 : (some true) = some r := by rw [if_pos rfl] at H; exact H
          clear H
          have H := H1
          clear H1
          obtain rfl := Option.some.inj H
          go_enter Try.func24, Try.ntmps24
          go_wp2_with (first | ((with_reducible refine gate_dst (N := 2) rfl ?_); refine box_event ?hg (N := 2) ?hd (cs := #[.int .i64 a0_0, .int .i64 a0_1, .int .i64 a0_2, .slice A0_3 l0_3.length c0_3]) (t := 27) ?hr ?_; (case hd => rfl); (case hg => rfl); (case hr => first | (go_simp; done) | (go_simp; rfl)); intro gb25001 hg w8 hbox hb; have n0_ := Aside0.mk (below_step (by repeat (first | (with_reducible first | exact HB.out | apply below_alloc | apply pw_below_drewN | apply below_drew1) | exact HB.out)) hb); have n1_ := Aside0.mk (hbox); have n2_ := Aside0.mk ((by rw [hg]; exact (below_size (by repeat (first | (with_reducible first | exact HB.out | apply below_alloc | apply pw_below_drewN | apply below_drew1) | exact HB.out))) : w.heap.size ≤ gb25001)); have n3_ := Aside0.mk ((by rw [hg]; exact (below_size (by repeat (first | (with_reducible first | exact HB.out | apply below_alloc | apply pw_below_drewN | apply below_drew1) | exact HB.out))) : w.heap.size ≤ gb25001)); clear HB; have HB := n0_; have BK25001 := n1_; have GW25001 := n2_; have GE25001 := n3_; clear n0_ n1_ n2_ n3_; clear hb hbox hg) | ((with_reducible refine gate_dst (N := 3) rfl ?_); refine box_event ?hg (N := 3) ?hd (cs := #[.int .i64 a1_0, .int .i64 a1_1, .int .i64 a1_2, .slice A1_3 l1_3.length c1_3]) (t := 27) ?hr ?_; (case hd => rfl); (case hg => rfl); (case hr => first | (go_simp; done) | (go_simp; rfl)); intro gb25002 hg w9 hbox hb; have n0_ := Aside0.mk (blk_below (g := gb25001) (o := .cells #[.int .i64 a0_0, .int .i64 a0_1, .int .i64 a0_2, .slice A0_3 l0_3.length c0_3] 27 (0, 0)) (by (with_reducible repeat (first | refine blk_drewN ?_ _ | refine blk_drew ?_ | refine blk_alloc ?_ _)); exact BK25001.out) hb); have n1_ := Aside0.mk (below_step (by repeat (first | (with_reducible first | exact HB.out | apply below_alloc | apply pw_below_drewN | apply below_drew1 | refine below_set ?_ GE25001.out) | exact HB.out)) hb); have n2_ := Aside0.mk (hbox); have n3_ := Aside0.mk ((by rw [hg]; exact (below_size (by repeat (first | (with_reducible first | exact HB.out | apply below_alloc | apply pw_below_drewN | apply below_drew1 | refine below_set ?_ GE25001.out) | exact HB.out))) : w.heap.size ≤ gb25002)); have n4_ := Aside0.mk ((by rw [hg]; exact (below_size (by repeat (first | (with_reducible first | exact HB.out | apply below_alloc | apply pw_below_drewN | apply below_drew1 | refine below_set ?_ GE25001.out) | exact HB.out))) : w.heap.size ≤ gb25002)); have n5_ := Aside0.mk ((by rw [hg]; exact Nat.ne_of_lt (blk_lt (g := gb25001) (o := .cells #[.int .i64 a0_0, .int .i64 a0_1, .int .i64 a0_2, .slice A0_3 l0_3.length c0_3] 27 (0, 0)) (by (with_reducible repeat (first | refine blk_drewN ?_ _ | refine blk_drew ?_ | refine blk_alloc ?_ _)); exact BK25001.out)) : gb25001 ≠ gb25002)); have n6_ := Aside0.mk ((by rw [hg]; exact Nat.ne_of_gt (blk_lt (g := gb25001) (o := .cells #[.int .i64 a0_0, .int .i64 a0_1, .int .i64 a0_2, .slice A0_3 l0_3.length c0_3] 27 (0, 0)) (by (with_reducible repeat (first | refine blk_drewN ?_ _ | refine blk_drew ?_ | refine blk_alloc ?_ _)); exact BK25001.out)) : gb25002 ≠ gb25001)); clear BK25001; clear HB; have BK25001 := n0_; have HB := n1_; have BK25002 := n2_; have GW25002 := n3_; have GE25002 := n4_; have NB25001_25002 := n5_; have NB25002_25001 := n6_; clear n0_ n1_ n2_ n3_ n4_ n5_ n6_; clear hb hbox hg; have hnb10 := NB25001_25002.out; have hnc10 := NB25002_25001.out; have hcz11_0 : w9.cell? ⟨gb25001, 0, none⟩ = some (.int .i64 a0_0) := (blk_cell BK25001.out 0).trans rfl; have hcz11_1 : w9.cell? ⟨gb25001, 1, none⟩ = some (.int .i64 a0_1) := (blk_cell BK25001.out 1).trans rfl; have hcz11_2 : w9.cell? ⟨gb25001, 2, none⟩ = some (.int .i64 a0_2) := (blk_cell BK25001.out 2).trans rfl; have hcz11_3 : w9.cell? ⟨gb25001, 3, none⟩ = some (.slice A0_3 l0_3.length c0_3) := (blk_cell BK25001.out 3).trans rfl; have hfz11_0 := blk_frozen BK25001.out 0; have hfz11_1 := blk_frozen BK25001.out 1; have hfz11_2 := blk_frozen BK25001.out 2; have hfz11_3 := blk_frozen BK25001.out 3; have hcz12_0 : w9.cell? ⟨gb25002, 0, none⟩ = some (.int .i64 a1_0) := (blk_cell BK25002.out 0).trans rfl; have hcz12_1 : w9.cell? ⟨gb25002, 1, none⟩ = some (.int .i64 a1_1) := (blk_cell BK25002.out 1).trans rfl; have hcz12_2 : w9.cell? ⟨gb25002, 2, none⟩ = some (.int .i64 a1_2) := (blk_cell BK25002.out 2).trans rfl; have hcz12_3 : w9.cell? ⟨gb25002, 3, none⟩ = some (.slice A1_3 l1_3.length c1_3) := (blk_cell BK25002.out 3).trans rfl; have hfz12_0 := blk_frozen BK25002.out 0; have hfz12_1 := blk_frozen BK25002.out 1; have hfz12_2 := blk_frozen BK25002.out 2; have hfz12_3 := blk_frozen BK25002.out 3) | ((with_reducible refine gate_callee (f := 43) rfl ?_); refine goesL_ (some 24) rfl rfl Try.func43 (by kernel_rfl) rfl #[.slice A0_3 l0_3.length c0_3, .slice A1_3 l1_3.length c1_3] rfl (by (try simp only [List.map_toArray, List.map_cons, List.map_nil]); first | done | rfl | (simp only [List.length_drop, List.length_take]; rfl)) ?_; (with_reducible refine (laws_eqIntS.calls k _ _ l0_3 _ _ l1_3 true _ ?side1 ?side2 ?side3 ?side4 A6.out).mono ?_); (case side1 => repeat (first | exact (Kd.C_below HR0_3.out HB.out) | (with_reducible refine Kd.C_alloc ?_ _) | (with_reducible refine Kd.C_drewN ?_ _) | (with_reducible refine Kd.C_drew ?_))); (case side2 => exact HC0_3.out); (case side3 => repeat (first | exact (Kd.C_below HR1_3.out HB.out) | (with_reducible refine Kd.C_alloc ?_ _) | (with_reducible refine Kd.C_drewN ?_ _) | (with_reducible refine Kd.C_drew ?_))); (case side4 => exact HC1_3.out); rintro e w' ⟨rfl, ⟨nd, rfl⟩⟩; refine ⟨_, rfl, ?_⟩))
          go_ret
          exact ⟨by first | rfl | (simp [errW_none, errW_some] <;> rfl) | (simp [*, errW_none, errW_some] <;> rfl), by repeat (first | (with_reducible first | exact HB.out | apply below_alloc | apply pw_below_drewN | apply below_drew1 | refine below_set ?_ GE25001.out | refine below_set ?_ GE25002.out) | exact HB.out)⟩
        · replace c7 := Bool.eq_false_iff.mpr c7
          subst c7
          have H1 : (some false) = some r := by rw [if_neg (show ¬ (false = true) by decide)] at H; exact H
          clear H
          have H := H1
          clear H1
          exact absurd ((Option.some.inj H).trans HRT.out) (by decide)
      · rw [if_neg c5] at H
        have c5b0 : (a0_2 == a1_2) = false := beq_eq_false_iff_ne.mpr c5
        have c5b1 : (a0_2 != a1_2) = true := bne_iff_ne.mpr c5
        exact absurd ((Option.some.inj H).trans HRT.out) (by decide)
    · rw [if_neg c4] at H
      have c4b0 : (a0_1 == a1_1) = false := beq_eq_false_iff_ne.mpr c4
      have c4b1 : (a0_1 != a1_1) = true := bne_iff_ne.mpr c4
      exact absurd ((Option.some.inj H).trans HRT.out) (by decide)
  · rw [if_neg c3] at H
    have c3b0 : (a0_0 == a1_0) = false := beq_eq_false_iff_ne.mpr c3
    have c3b1 : (a0_0 != a1_0) = true := bne_iff_ne.mpr c3
    exact absurd ((Option.some.inj H).trans HRT.out) (by decide)


def laws_markIntS.l0 : Nat → List Int → Int → Int → Option (Int × List Int)
  | 0, _, _, _ => none
  | k + 1, x0, x1, x5 => if x5 < (x0.length : Int) then (if 0 ≤ x5 then (laws_markIntS.l0 k (x0.set (x5 : Int).toNat x1) (wrap64 (x1 + 1)) (wrap64 (x5 + 1))) else (none)) else (some (x1, x0))
def laws_markIntS.f (k : Nat) (l0 : List Int) (a1 : Int) : Option (Int × List Int) := laws_markIntS.l0 k l0 a1 0
theorem laws_markIntS.mono_l : ∀ k, (∀ y0 y1 y2, LeO (laws_markIntS.l0 k y0 y1 y2) (laws_markIntS.l0 (k + 1) y0 y1 y2))
  | 0 => fun _ _ _ r h => by simp [laws_markIntS.l0] at h
  | k + 1 => by
    have ih0 := laws_markIntS.mono_l k
    · intro y0 y1 y2
      unfold laws_markIntS.l0
      repeat' first
      | (with_reducible exact ih0 _ _ _)
      | (with_reducible exact LeO.refl _)
      | (with_reducible exact LeO.none _)
      | (with_reducible refine LeO.ite ?_ ?_)
      | (with_reducible refine LeO.bind ?_ (fun _ => ?_))
      | exact ih0 _ _ _
      | exact LeO.none _
      | refine LeO.ite ?_ ?_
      | refine LeO.bind ?_ (fun _ => ?_)
theorem laws_markIntS.mono : ∀ a0 a1 k, LeO (laws_markIntS.f k a0 a1) (laws_markIntS.f (k + 1) a0 a1) := by
  intro a0 a1 k
  have ih0 := laws_markIntS.mono_l k
  unfold laws_markIntS.f
  repeat' first
      | (with_reducible exact ih0 _ _ _)
      | (with_reducible exact LeO.refl _)
      | (with_reducible exact LeO.none _)
      | (with_reducible refine LeO.ite ?_ ?_)
      | (with_reducible refine LeO.bind ?_ (fun _ => ?_))
      | exact ih0 _ _ _
      | exact LeO.none _
      | refine LeO.ite ?_ ?_
      | refine LeO.bind ?_ (fun _ => ?_)
set_option maxHeartbeats 8000000 in
set_option maxRecDepth 100000 in
theorem laws_markIntS.calls (k : Nat) (P0_ : Nat → Prop) (u9000_ : Value) (l0 : List Int) (a1 : Int) (r1 : Int) (r2 : List Int) (w0 w : World) (hB : Below w0.heap.size w0 w) (ho0 : Kd.R (Kd.int .i64) 3 w w0.heap.size P0_ u9000_ l0) (h : laws_markIntS.f k l0 a1 = some (r1, r2)) :
    Calls Try.prog 46 #[u9000_, .int .i64 a1] w fun e w' => e = .returned (.int .i64 r1) ∧ Kd.R (Kd.int .i64) 3 w' w0.heap.size (fun k_ => (P0_ k_ ∨ w.heap.size ≤ k_)) u9000_ r2 ∧ Below w0.heap.size w0 w' ∧ Kept w w' (fun k_ => P0_ k_) := by
  have HO0 := Aside0.mk (show Kd.R (Kd.int .i64) 3 w w0.heap.size (fun k_ => (P0_ k_ ∨ w.heap.size ≤ k_)) u9000_ l0 from Kd.R_mono ho0 (fun k_ hk => (.inl hk)))
  have HK := Aside0.mk (Kept.refl w (fun k_ => P0_ k_))
  have HW0 := Aside0.mk hB.size
  have HB := Aside0.mk hB
  clear hB
  have H : (laws_markIntS.l0 k l0 a1 0) = some (r1, r2) := h
  clear h
  have H' := Aside0.mk H
  clear H
  go_enter Try.func46, Try.ntmps46
  go_wp2
  go_loopg [1, 5] k (fun kq v1 v5 w' => ∃ (x0_1 : List Int) (x1_1 : Int) (x5_1 : Int), v1 = .int .i64 x1_1 ∧ v5 = .int .i64 x5_1 ∧ Aside0 (laws_markIntS.l0 kq x0_1 x1_1 x5_1 = some (r1, r2)) ∧ Aside0 (kq ≤ k) ∧ Aside0 (Kd.R (Kd.int .i64) 3 w' w0.heap.size (fun k_ => (P0_ k_ ∨ w.heap.size ≤ k_)) u9000_ x0_1) ∧ Aside0 (Kept w w' (fun k_ => P0_ k_)) ∧ Aside0 (Below w0.heap.size w0 w'))
  case atStart => exact ⟨(l0), (a1), (0), (by first | rfl | (simp; done) | (simp [*]; done)), (by first | rfl | (simp; done) | (simp [*]; done)), H', ⟨Nat.le_refl _⟩, ⟨by (with_reducible repeat (first | apply Kd.R_alloc | apply Kd.R_drewN | apply Kd.R_drew)); exact HO0.out⟩, ⟨by repeat (first | (with_reducible first | exact HK.out | apply Kept.alloc | apply Kept.drewN | apply Kept.drew) | exact HK.out)⟩, ⟨by repeat (first | (with_reducible first | exact HB.out | apply below_alloc | apply pw_below_drewN | apply below_drew1) | exact HB.out)⟩⟩
  case round =>
    clear H'
    try clear p2
    obtain ⟨x0_1, x1_1, x5_1, rfl, rfl, HA, HK1, HO_0, HK, HB⟩ := hrel
    cases gk with
    | zero => exact absurd HA.out (by simp [laws_markIntS.l0])
    | succ k1 =>
      have H := HA.out
      clear HA
      simp only [laws_markIntS.l0] at H
      by_cases c3 : x5_1 < (x0_1.length : Int)
      · rw [if_pos c3] at H
        have c3b0 : decide (x5_1 < (x0_1.length : Int)) = true := decide_eq_true c3
        clear c3
        by_cases c4 : 0 ≤ x5_1
        · rw [if_pos c4] at H
          have c4b0 : decide (0 ≤ x5_1) = true := decide_eq_true c4
          clear c4
          obtain ⟨y47001, hy47001⟩ : ∃ y_ : List Int, y_ = (x0_1.set (x5_1 : Int).toNat x1_1) := ⟨_, rfl⟩
          replace H : (laws_markIntS.l0 k1 y47001 (wrap64 (x1_1 + 1)) (wrap64 (x5_1 + 1))) = some (r1, r2) := by first | (rw [hy47001]; with_reducible exact H) | (have H2_ := (Option.bind_some _ _).symm.trans H; rw [hy47001]; with_reducible exact H2_) | (have H2_ := (Option.bind_some _ _).symm.trans H; with_reducible exact H2_) | with_reducible exact H | (rw [hy47001]; exact H) | exact H
          have Ny47001 := Aside0.mk hy47001
          clear hy47001
          have H' := Aside0.mk H
          clear H
          obtain ⟨Ao6, co6, eo6⟩ := Kd.R_slice HO_0.out
          subst eo6
          have p5 : 0 ≤ (x5_1 : Int) := of_decide_eq_true (by first | (with_reducible assumption) | assumption)
          have q5 : (x5_1 : Int) < ((x0_1.length : Int) : Int) := of_decide_eq_true (by first | (with_reducible assumption) | assumption)
          obtain ⟨go5, co5, eo5, gb5, gl5, cl5, HG5⟩ := Kd.R_form HO_0.out (by omega)
          (first | cases eo5 | (injection eo5 with ea_ en_ ec_; (first | subst ea_ | (injection ea_ with ea_; subst ea_)); subst ec_; clear en_))
          have GB5 := Aside0.mk gb5
          have GG5 := Aside0.mk HG5
          clear gb5 gl5 HG5
          have HMgo5 := Aside0.mk (show (P0_ go5 ∨ w.heap.size ≤ go5) from (HO_0.out.1 _ rfl))
          obtain ⟨hx5_0, hf5_0⟩ := Kd.R_celln 0 HO_0.out (x5_1 : Int) p5 q5
          replace p5 := eq_true p5
          replace q5 := eq_true q5
          have HP7 := Kd.R_putg HO_0.out (x5_1 : Int) x1_1
          go_wp2_with (first | ((with_reducible refine gate_store (t := 3) (p := 15) rfl ?_); refine store_event (t := 3) (p := 15) (v := ?vo_w8) (w1 := (wr.setCell ⟨go5, (x5_1 : Int).toNat, none⟩ (.int .i64 x1_1))) ?hg ?ho ?hn ?hr ?_; (case ho => rfl); (case hg => rfl); (case hn => rfl); (case hr => first | (go_simp; done) | (go_simp; rfl)); intro w8 hw; have hg : wr.grownBy w8 (some go5) := (by rw [hw]; exact HP7.2); have hp_ : Kd.R (Kd.int .i64) 3 w8 w0.heap.size (fun k_ => (P0_ k_ ∨ w.heap.size ≤ k_)) (.slice (some ⟨go5, 0, none⟩) x0_1.length co6) y47001 := (by rw [hw, Ny47001.out]; exact HP7.1); clear HP7; have n0_ := Aside0.mk (hp_); have n1_ := Aside0.mk ((by rw [hw]; exact below_set (HB.out) GB5.out : Below w0.heap.size w0 w8)); have n2_ := Aside0.mk (Kept.of_grown (S := (fun k_ => P0_ k_)) hg (by repeat (first | (with_reducible first | exact HK.out | apply Kept.alloc | apply Kept.drewN | apply Kept.drew) | exact HK.out)) (fun k_ e_ => (HO_0.out.1 k_ e_))); clear HO_0; clear HB; clear HK; have HO_0 := n0_; have HB := n1_; have HK := n2_; clear n0_ n1_ n2_; clear hg hw hp_))
          go_roundg k1
          case measure => have := HK1.out; omega
          case rel => exact ⟨(y47001), (wrap64 (x1_1 + 1)), (wrap64 (x5_1 + 1)), (by first | rfl | (simp; done) | (simp [*]; done)), (by first | rfl | (simp; done) | (simp [*]; done)), H', ⟨by have := HK1.out; omega⟩, ⟨by (with_reducible repeat (first | apply Kd.R_alloc | apply Kd.R_drewN | apply Kd.R_drew)); exact HO_0.out⟩, ⟨by repeat (first | (with_reducible first | exact HK.out | apply Kept.alloc | apply Kept.drewN | apply Kept.drew) | exact HK.out)⟩, ⟨by repeat (first | (with_reducible first | exact HB.out | apply below_alloc | apply pw_below_drewN | apply below_drew1) | exact HB.out)⟩⟩
        · rw [if_neg c4] at H
          exact absurd H (by simp)
      · rw [if_neg c3] at H
        have c3b0 : decide (x5_1 < (x0_1.length : Int)) = false := decide_eq_false c3
        clear c3
        simp only [Option.some.injEq, Prod.mk.injEq] at H
        obtain ⟨rfl, rfl⟩ := H
        obtain ⟨Ao9, co9, eo9⟩ := Kd.R_slice HO_0.out
        subst eo9
        go_wp2
        go_ret
        exact ⟨by first | rfl | (simp [errW_none, errW_some] <;> rfl) | (simp [*, errW_none, errW_some] <;> rfl), by (with_reducible repeat (first | apply Kd.R_alloc | apply Kd.R_drewN | apply Kd.R_drew)); exact HO_0.out, by repeat (first | (with_reducible first | exact HB.out | apply below_alloc | apply pw_below_drewN | apply below_drew1) | exact HB.out), by repeat (first | (with_reducible first | exact HK.out | apply Kept.alloc | apply Kept.drewN | apply Kept.drew) | exact HK.out)⟩


def laws_markImage.f (k : Nat) (a0_0 : Int) (a0_1 : Int) (a0_2 : Int) (l0_3 : List Int) (a1 : Int) : Option (Int × List Int) := (laws_markIntS.f k l0_3 a1).bind fun bt32002 => (some (bt32002.1, bt32002.2))
theorem laws_markImage.mono : ∀ a0 a1 a2 a3 a4 k, LeO (laws_markImage.f k a0 a1 a2 a3 a4) (laws_markImage.f (k + 1) a0 a1 a2 a3 a4) := by
  intro a0 a1 a2 a3 a4 k
  unfold laws_markImage.f
  repeat' first
      | (with_reducible exact laws_markIntS.mono _ _ _)
      | (with_reducible exact LeO.refl _)
      | (with_reducible exact LeO.none _)
      | (with_reducible refine LeO.ite ?_ ?_)
      | (with_reducible refine LeO.bind ?_ (fun _ => ?_))
      | exact laws_markIntS.mono _ _ _
      | exact LeO.none _
      | refine LeO.ite ?_ ?_
      | refine LeO.bind ?_ (fun _ => ?_)
set_option maxHeartbeats 8000000 in
set_option maxRecDepth 100000 in
theorem laws_markImage.calls (k : Nat) (a0_0 : Int) (a0_1 : Int) (a0_2 : Int) (P0_3_ : Nat → Prop) (u9000_ : Value) (l0_3 : List Int) (a1 : Int) (r1 : Int) (r2 : List Int) (w0 w : World) (hB : Below w0.heap.size w0 w) (ho0_3 : Kd.R (Kd.int .i64) 3 w w0.heap.size P0_3_ u9000_ l0_3) (h : laws_markImage.f k a0_0 a0_1 a0_2 l0_3 a1 = some (r1, r2)) :
    Calls Try.prog 31 #[.agg #[.int .i64 a0_0, .int .i64 a0_1, .int .i64 a0_2, u9000_], .int .i64 a1] w fun e w' => e = .returned (.int .i64 r1) ∧ Kd.R (Kd.int .i64) 3 w' w0.heap.size (fun k_ => (P0_3_ k_ ∨ w.heap.size ≤ k_)) u9000_ r2 ∧ Below w0.heap.size w0 w' ∧ Kept w w' (fun k_ => P0_3_ k_) := by
  have hu27 := Try.underlying27
  have HO0_3 := Aside0.mk (show Kd.R (Kd.int .i64) 3 w w0.heap.size (fun k_ => (P0_3_ k_ ∨ w.heap.size ≤ k_)) u9000_ l0_3 from Kd.R_mono ho0_3 (fun k_ hk => (.inl hk)))
  have HK := Aside0.mk (Kept.refl w (fun k_ => P0_3_ k_))
  have HW0 := Aside0.mk hB.size
  have HB := Aside0.mk hB
  clear hB
  have H : ((laws_markIntS.f k l0_3 a1).bind fun bt32002 => (some (bt32002.1, bt32002.2))) = some (r1, r2) := h
  clear h
  replace H := Option.bind_eq_some_iff.mp H
  obtain ⟨⟨t32002, t32003⟩, A30, H⟩ := H
  replace H : (some (t32002, t32003)) = some (r1, r2) := H
  have A3 := Aside0.mk A30
  clear A30
  simp only [Option.some.injEq, Prod.mk.injEq] at H
  obtain ⟨rfl, rfl⟩ := H
  obtain ⟨Ao4, co4, eo4⟩ := Kd.R_slice HO0_3.out
  subst eo4
  go_enter Try.func31, Try.ntmps31
  go_wp2_with (first | ((with_reducible refine gate_dst (N := 2) rfl ?_); refine box_event ?hg (N := 2) ?hd (cs := #[.int .i64 a0_0, .int .i64 a0_1, .int .i64 a0_2, .slice Ao4 l0_3.length co4]) (t := 27) ?hr ?_; (case hd => rfl); (case hg => rfl); (case hr => first | (go_simp; done) | (go_simp; rfl)); intro gb32001 hg w5 hbox hb; have n0_ := Aside0.mk (Kd.R_below (by (with_reducible repeat (first | apply Kd.R_alloc | apply Kd.R_drewN | apply Kd.R_drew)); exact HO0_3.out) hb); have n1_ := Aside0.mk (Kept.below (S := (fun k_ => P0_3_ k_)) (by repeat (first | (with_reducible first | exact HK.out | apply Kept.alloc | apply Kept.drewN | apply Kept.drew) | exact HK.out)) hb); have n2_ := Aside0.mk (below_step (by repeat (first | (with_reducible first | exact HB.out | apply below_alloc | apply pw_below_drewN | apply below_drew1) | exact HB.out)) hb); have n3_ := Aside0.mk (hbox); have n4_ := Aside0.mk ((by rw [hg]; exact (by first | exact HK.out.1 | exact (show Kept w _ (fun k_ => P0_3_ k_) from by repeat (first | (with_reducible first | exact HK.out | apply Kept.alloc | apply Kept.drewN | apply Kept.drew) | exact HK.out)).1) : w.heap.size ≤ gb32001)); have n5_ := Aside0.mk ((by rw [hg]; exact (below_size (by repeat (first | (with_reducible first | exact HB.out | apply below_alloc | apply pw_below_drewN | apply below_drew1) | exact HB.out))) : w0.heap.size ≤ gb32001)); clear HO0_3; clear HK; clear HB; have HO0_3 := n0_; have HK := n1_; have HB := n2_; have BK32001 := n3_; have GW32001 := n4_; have GE32001 := n5_; clear n0_ n1_ n2_ n3_ n4_ n5_; clear hb hbox hg; have hcz6_0 : w5.cell? ⟨gb32001, 0, none⟩ = some (.int .i64 a0_0) := (blk_cell BK32001.out 0).trans rfl; have hcz6_1 : w5.cell? ⟨gb32001, 1, none⟩ = some (.int .i64 a0_1) := (blk_cell BK32001.out 1).trans rfl; have hcz6_2 : w5.cell? ⟨gb32001, 2, none⟩ = some (.int .i64 a0_2) := (blk_cell BK32001.out 2).trans rfl; have hcz6_3 : w5.cell? ⟨gb32001, 3, none⟩ = some (.slice Ao4 l0_3.length co4) := (blk_cell BK32001.out 3).trans rfl; have hfz6_0 := blk_frozen BK32001.out 0; have hfz6_1 := blk_frozen BK32001.out 1; have hfz6_2 := blk_frozen BK32001.out 2; have hfz6_3 := blk_frozen BK32001.out 3) | ((with_reducible refine gate_callee (f := 46) rfl ?_); refine goesL_ (some 8) rfl rfl Try.func46 (by kernel_rfl) rfl #[.slice Ao4 l0_3.length co4, .int .i64 a1] rfl (by (try simp only [List.map_toArray, List.map_cons, List.map_nil]); first | done | rfl | (simp only [List.length_drop, List.length_take]; rfl)) ?_; (with_reducible refine (laws_markIntS.calls k (fun k_ => some k_ = (.slice Ao4 l0_3.length co4 : Value).ownBlock) (.slice Ao4 l0_3.length co4) l0_3 a1 t32002 t32003 w0 _ ?side1 ?side2 A3.out).mono ?_); (case side1 => repeat (first | (with_reducible first | exact HB.out | apply below_alloc | apply pw_below_drewN | apply below_drew1 | refine below_set ?_ GE32001.out) | exact HB.out)); (case side2 => exact Kd.R_tight rfl HO0_3.out); rintro e w7 ⟨rfl, hy0, hb, hkp⟩; refine ⟨_, rfl, ?_⟩; have n0_ := Aside0.mk (Kd.R_reok rfl hy0 (fun k_ e_ => HO0_3.out.1 k_ e_)); have n1_ := Aside0.mk (blk_kept (by (with_reducible repeat (first | refine blk_drewN ?_ _ | refine blk_drew ?_ | refine blk_alloc ?_ _)); exact BK32001.out) hkp (fun hs_ => (fun e_ => (Kd.R_ne HO0_3.out BK32001.out (by decide)) e_) hs_)); have n2_ := Aside0.mk (Kept.then_ (S := (fun k_ => P0_3_ k_)) (by repeat (first | (with_reducible first | exact HK.out | apply Kept.alloc | apply Kept.drewN | apply Kept.drew | refine Kept.setCell ?_ (.inr GW32001.out) _) | exact HK.out)) hkp (fun k_ hs_ => (fun e_ => (HO0_3.out.1 k_ e_.symm)) hs_)); have n3_ := Aside0.mk (hb); clear HO0_3; clear BK32001; clear HK; clear HB; have HO0_3 := n0_; have BK32001 := n1_; have HK := n2_; have HB := n3_; clear n0_ n1_ n2_ n3_; (try clear hb); (try clear hkp); (try clear hy0)))
  go_ret
  exact ⟨by first | rfl | (simp [errW_none, errW_some] <;> rfl) | (simp [*, errW_none, errW_some] <;> rfl), by (with_reducible repeat (first | apply Kd.R_alloc | apply Kd.R_drewN | apply Kd.R_drew)); exact HO0_3.out, by repeat (first | (with_reducible first | exact HB.out | apply below_alloc | apply pw_below_drewN | apply below_drew1 | refine below_set ?_ GE32001.out) | exact HB.out), by repeat (first | (with_reducible first | exact HK.out | apply Kept.alloc | apply Kept.drewN | apply Kept.drew | refine Kept.setCell ?_ (.inr GW32001.out) _) | exact HK.out)⟩

end Go.Proofs.Ytnofkbbcbpjhfaa.Q

/- Images: valid ones, as the program and the reference have it; copies of lists of numbers. -/
namespace Go.Proofs.Ytnofkbbcbpjhfaa.Pure
open Go.RowKit Go.Proofs.Ytnofkbbcbpjhfaa.Q Go.Proofs.YtnofkbbcbpjhfaaW.PrintWords Go.Proofs.YtnofkbbcbpjhfaaW.PrintLast Go.Proofs.YtnofkbbcbpjhfaaW.PrintMore
set_option linter.unusedVariables false
set_option linter.unusedSimpArgs false

def byteI (n : Int) : Bool := decide (0 ≤ n) && decide (n ≤ 255)
def shapeI (w h p : Int) : Bool := decide (1 ≤ w ∧ w ≤ 16 ∧ 1 ≤ h ∧ h ≤ 16 ∧ 1 ≤ p ∧ p ≤ 4)
theorem shapeI_iff (w h p : Int) : shapeI w h p = true ↔ 1 ≤ w ∧ w ≤ 16 ∧ 1 ≤ h ∧ h ≤ 16 ∧ 1 ≤ p ∧ p ≤ 4 := by simp [shapeI]
def validI (w h p : Int) (d : List Int) : Bool := shapeI w h p && (decide ((d.length : Int) = w * h * p) && d.all byteI)
theorem validI_iff (w h p : Int) (d : List Int) : validI w h p d = true ↔ (1 ≤ w ∧ w ≤ 16 ∧ 1 ≤ h ∧ h ≤ 16 ∧ 1 ≤ p ∧ p ≤ 4) ∧ (d.length : Int) = w * h * p ∧ ∀ n ∈ d, 0 ≤ n ∧ n ≤ 255 := by
  simp [validI, shapeI_iff, byteI, and_assoc]
theorem shape_prod {w h p : Int} (hs : 1 ≤ w ∧ w ≤ 16 ∧ 1 ≤ h ∧ h ≤ 16 ∧ 1 ≤ p ∧ p ≤ 4) : 0 ≤ w * h ∧ w * h ≤ 256 ∧ 0 ≤ w * h * p ∧ w * h * p ≤ 1024 := by
  have h1 : 0 ≤ w * h := Int.mul_nonneg (by omega) (by omega)
  have h2 : w * h ≤ 16 * 16 := Int.mul_le_mul (by omega) (by omega) (by omega) (by omega)
  have h3 : 0 ≤ w * h * p := Int.mul_nonneg h1 (by omega)
  have h4 : w * h * p ≤ 256 * 4 := Int.mul_le_mul (by omega) (by omega) (by omega) (by omega)
  omega
theorem shape_wrap {w h p : Int} (hs : 1 ≤ w ∧ w ≤ 16 ∧ 1 ≤ h ∧ h ≤ 16 ∧ 1 ≤ p ∧ p ≤ 4) : wrap64 (wrap64 (w * h) * p) = w * h * p := by
  have := shape_prod hs
  rw [w64 (x := w * h) (by omega) (by omega), w64 (by omega) (by omega)]
theorem impl_isSide_eq (a : Int) : impl_isSide.f a = some (decide (1 ≤ a ∧ a ≤ 16)) := by
  unfold impl_isSide.f
  by_cases c : a ≥ 1
  · rw [if_pos c]; congr 1; rw [decide_eq_decide]; omega
  · rw [if_neg c, decide_eq_false (by omega)]
theorem impl_isShape_eq (w h p : Int) : impl_isShape.f w h p = some (shapeI w h p) := by
  unfold impl_isShape.f shapeI
  rw [impl_isSide_eq, impl_isSide_eq]
  simp only [Option.bind_some]
  by_cases c1 : 1 ≤ w ∧ w ≤ 16
  · rw [if_pos (by simpa using c1)]
    by_cases c2 : 1 ≤ h ∧ h ≤ 16
    · rw [if_pos (by simpa using c2)]
      by_cases c3 : p ≥ 1
      · rw [if_pos c3]; congr 1; rw [decide_eq_decide]; omega
      · rw [if_neg c3, decide_eq_false (by omega)]
    · rw [if_neg (by simpa using c2), decide_eq_false (by omega)]
  · rw [if_neg (by simpa using c1), decide_eq_false (by omega)]
theorem areBytesI_eq (l : List Int) : impl_areBytes.f l = some (l.all byteI) := by
  unfold impl_areBytes.f
  congr 1
  rw [List.not_any_eq_all_not]
  congr 1
  funext n
  unfold notByte byteI
  rw [Bool.eq_iff_iff]
  simp
theorem impl_isImage_eq (w h p : Int) (d : List Int) : impl_isImage.f w h p d = some (validI w h p d) := by
  unfold impl_isImage.f validI
  rw [impl_isShape_eq, areBytesI_eq]
  simp only [Option.bind_some]
  by_cases c : shapeI w h p = true
  · rw [if_pos c, shape_wrap ((shapeI_iff w h p).1 c), c]
    by_cases e : (d.length : Int) = w * h * p
    · rw [if_pos e, decide_eq_true e]; rfl
    · rw [if_neg e, decide_eq_false e]; rfl
  · rw [if_neg c, Bool.eq_false_iff.2 c]; rfl
theorem spec_inRangeI_eq (n a b : Int) : spec_inRange.f n a b = some (decide (a ≤ n) && decide (n ≤ b)) := by
  unfold spec_inRange.f
  by_cases c : a ≤ n
  · rw [if_pos c, decide_eq_true c, Bool.true_and]
  · rw [if_neg c, decide_eq_false c, Bool.false_and]
theorem spec_validShape_eq (w h p : Int) : spec_validShape.f w h p = some (shapeI w h p) := by
  unfold spec_validShape.f shapeI
  rw [spec_inRangeI_eq, spec_inRangeI_eq, spec_inRangeI_eq]
  simp only [Option.bind_some]
  by_cases c1 : 1 ≤ w ∧ w ≤ 16
  · rw [if_pos (by simpa using c1)]
    by_cases c2 : 1 ≤ h ∧ h ≤ 16
    · rw [if_pos (by simpa using c2)]; congr 1; rw [Bool.eq_iff_iff]; simp; omega
    · rw [if_neg (by simpa using c2), decide_eq_false (by omega)]
  · rw [if_neg (by simpa using c1), decide_eq_false (by omega)]
theorem spec_allInI_ev (l : List Int) (hl : l.length ≤ 1000000000000) : Ev (fun k => spec_allIn.f k l 0 255) (l.all byteI) := by
  have key := ev_up l.length (fun k i (_ : Unit) => spec_allIn.l0 k l 0 255 (i : Int)) (fun _ _ => True) (fun i _ => (l.drop i).all byteI)
    (by
      intro i s hi _
      have hd : (l.drop i).all byteI = (byteI l[i] && (l.drop (i + 1)).all byteI) := by rw [List.drop_eq_getElem_cons hi, List.all_cons]
      cases hb : byteI l[i] with
      | true =>
        right
        refine ⟨(), fun k => ?_, trivial, by rw [hd, hb, Bool.true_and]⟩
        simp only [spec_allIn.l0]
        rw [if_pos (by omega), if_pos (by omega), rd_nat l i hi, spec_inRangeI_eq]
        simp only [Option.bind_some]
        rw [if_pos (show (decide (0 ≤ l[i]) && decide (l[i] ≤ 255)) = true from hb), w64n i (by omega)]
      | false =>
        left
        rw [hd, hb, Bool.false_and]
        refine Ev.step (f := fun _ => some false) (fun k => ?_) (Ev.now false)
        simp only [spec_allIn.l0]
        rw [if_pos (by omega), if_pos (by omega), rd_nat l i hi, spec_inRangeI_eq]
        simp only [Option.bind_some]
        rw [if_neg (Bool.eq_false_iff.1 (show (decide (0 ≤ l[i]) && decide (l[i] ≤ 255)) = false from hb))])
    (by
      intro s _
      rw [List.drop_length]
      refine Ev.step (f := fun _ => some true) (fun k => ?_) (Ev.now true)
      simp only [spec_allIn.l0]
      rw [if_neg (by omega)])
    l.length 0 () (by omega) trivial
  unfold spec_allIn.f
  simpa using key
theorem spec_validImage_ev (w h p : Int) (d : List Int) (hl : d.length ≤ 1000000000000) : Ev (fun k => spec_validImage.f k w h p d) (validI w h p d) := by
  unfold spec_validImage.f validI
  refine ev_now (spec_validShape_eq w h p) ?_
  by_cases c : shapeI w h p = true
  · refine ev_pos c ?_
    rw [shape_wrap ((shapeI_iff w h p).1 c), c, Bool.true_and]
    by_cases e : (d.length : Int) = w * h * p
    · refine ev_pos e ?_
      rw [decide_eq_true e, Bool.true_and]
      exact ev_bind (spec_allInI_ev d hl) (Ev.now _)
    · refine ev_neg e ?_
      rw [decide_eq_false e]
      exact Ev.now _
  · refine ev_neg c ?_
    rw [Bool.eq_false_iff.2 c]
    exact Ev.now _

/- A pixel's numbers, and where they lie. -/

/-- where a pixel's numbers begin -/
def pixJ (a p : Int) (x y : Nat) : Int := wrap64 ((wrap64 ((wrap64 ((y : Int) * a)) + (x : Int))) * p)
theorem pixJ_is {a b p : Int} {d : List Int} (hv : validI a b p d = true) {x y : Nat} (hx : (x : Int) < a) (hy : (y : Int) < b) : 0 ≤ pixJ a p x y ∧ pixJ a p x y ≤ 1024 ∧ pixJ a p x y = ((y : Int) * a + x) * p ∧ pixJ a p x y + p ≤ (d.length : Int) := by
  have h := (validI_iff a b p d).1 hv
  have hp := shape_prod h.1
  have h1 : 0 ≤ (y : Int) * a := Int.mul_nonneg (by omega) (by omega)
  have h2 : (y : Int) * a ≤ (b - 1) * a := Int.mul_le_mul_of_nonneg_right (by omega) (by omega)
  have h3 : (b - 1) * a = a * b - a := by rw [Int.sub_mul, Int.mul_comm b a]; omega
  have h4 : 0 ≤ ((y : Int) * a + x) * p := Int.mul_nonneg (by omega) (by omega)
  have h5 : ((y : Int) * a + x) * p ≤ (a * b - 1) * p := Int.mul_le_mul_of_nonneg_right (by omega) (by omega)
  have h6 : (a * b - 1) * p = a * b * p - p := by rw [Int.sub_mul]; omega
  have e : pixJ a p x y = ((y : Int) * a + x) * p := by
    unfold pixJ
    rw [w64 (x := (y : Int) * a) (by omega) (by omega), w64 (x := (y : Int) * a + (x : Int)) (by omega) (by omega), w64 (by omega) (by omega)]
  omega
end Go.Proofs.Ytnofkbbcbpjhfaa.Pure

/- A pixel's numbers read out of an image that is valid. -/
namespace Go.Proofs.Ytnofkbbcbpjhfaa.Q
open Go.RowKit Go.Proofs.YtnofkbbcbpjhfaaW.PrintWords Go.Proofs.YtnofkbbcbpjhfaaW.PrintLast Go.Proofs.YtnofkbbcbpjhfaaW.PrintMore
attribute [local go_sem] max2_int min2_int max_two min_two max_three min_three max_four min_four
set_option linter.unusedVariables false
set_option linter.unusedSimpArgs false
open Go.Proofs.Ytnofkbbcbpjhfaa.Pure

def pxAt (a p : Int) (d : List Int) (x y : Nat) : List Int := pixT d (pixJ a p x y) p
theorem pxAt_len {a b p : Int} {d : List Int} (hv : validI a b p d = true) {x y : Nat} (hx : (x : Int) < a) (hy : (y : Int) < b) : ((pxAt a p d x y).length : Int) = p := by
  have hb := pixJ_is hv hx hy
  have hs := ((validI_iff a b p d).1 hv).1
  unfold pxAt
  rw [pixT_length _ _ _ (by rw [w64 (by omega) (by omega)]; omega), w64 (by omega) (by omega)]
  omega
theorem pxAt_le {a b p : Int} {d : List Int} (hv : validI a b p d = true) {x y : Nat} (hx : (x : Int) < a) (hy : (y : Int) < b) : (pxAt a p d x y).length ≤ 4 := by
  have h1 := pxAt_len hv hx hy
  have hs := ((validI_iff a b p d).1 hv).1
  omega
theorem at_px {a b p : Int} (A : Option Addr) (c : Nat) {d : List Int} (hv : validI a b p d = true) (hc : d.length ≤ c) {x y : Nat} (hx : (x : Int) < a) (hy : (y : Int) < b) :
    ∃ (A' : Option Addr) (c' : Nat), (pxAt a p d x y).length ≤ c' ∧ ∀ w : World, Kd.C (Kd.int .i64) w A d.length d → (Kd.C (Kd.int .i64) w A' (pxAt a p d x y).length (pxAt a p d x y) ∧
      Calls Try.prog 109 #[.agg #[.int .i64 a, .int .i64 b, .int .i64 p, .slice A d.length c], .int .i64 (x : Int), .int .i64 (y : Int)] w fun e w' => e = .returned (.slice A' (pxAt a p d x y).length c') ∧ Below w.heap.size w w') := by
  have hb := pixJ_is hv hx hy
  have hs := ((validI_iff a b p d).1 hv).1
  have hw : wrap64 (pixJ a p x y + p) = pixJ a p x y + p := w64 (by omega) (by omega)
  exact at_calls a b p A c d (x : Int) (y : Int) (pixJ a p x y) hc rfl (by omega) (by omega) (by omega)
end Go.Proofs.Ytnofkbbcbpjhfaa.Q

namespace Go.Proofs.Ytnofkbbcbpjhfaa.Q
open Go.RowKit Go.Proofs.YtnofkbbcbpjhfaaW.PrintWords Go.Proofs.YtnofkbbcbpjhfaaW.PrintLast Go.Proofs.YtnofkbbcbpjhfaaW.PrintMore
attribute [local go_sem] max2_int min2_int max_two min_two max_three min_three max_four min_four
set_option linter.unusedVariables false
set_option linter.unusedSimpArgs false
def impl_Box_has.f (a0_0 : Int) (a0_1 : Int) (a0_2 : Int) (a0_3 : Int) (a1 : Int) (a2 : Int) : Option (Bool) := if a1 ≥ a0_0 then (if a1 < (wrap64 (a0_0 + a0_2)) then (if a2 ≥ a0_1 then (some (decide (a2 < (wrap64 (a0_1 + a0_3))))) else (some false)) else (some false)) else (some false)
set_option maxHeartbeats 8000000 in
set_option maxRecDepth 100000 in
theorem impl_Box_has.calls (a0_0 : Int) (a0_1 : Int) (a0_2 : Int) (a0_3 : Int) (a1 : Int) (a2 : Int) (r : Bool) (w : World) (h : impl_Box_has.f a0_0 a0_1 a0_2 a0_3 a1 a2 = some r) :
    Calls Try.prog 97 #[.agg #[.int .i64 a0_0, .int .i64 a0_1, .int .i64 a0_2, .int .i64 a0_3], .int .i64 a1, .int .i64 a2] w fun e w' => e = .returned (.bool r) ∧ Below w.heap.size w w' := by
  have hu47 := Try.underlying47
  have HB := Aside0.mk (Below.refl w.heap.size w)
  have H : (if a1 ≥ a0_0 then (if a1 < (wrap64 (a0_0 + a0_2)) then (if a2 ≥ a0_1 then (some (decide (a2 < (wrap64 (a0_1 + a0_3))))) else (some false)) else (some false)) else (some false)) = some r := h
  clear h
  by_cases c4 : a1 ≥ a0_0
  · rw [if_pos c4] at H
    have c4b0 : decide (a0_0 ≤ a1) = true := decide_eq_true c4
    clear c4
    by_cases c5 : a1 < (wrap64 (a0_0 + a0_2))
    · rw [if_pos c5] at H
      have c5b0 : decide (a1 < (wrap64 (a0_0 + a0_2))) = true := decide_eq_true c5
      clear c5
      by_cases c6 : a2 ≥ a0_1
      · rw [if_pos c6] at H
        have c6b0 : decide (a0_1 ≤ a2) = true := decide_eq_true c6
        clear c6
        obtain rfl := Option.some.inj H
        go_enter Try.func97, Try.ntmps97
        go_wp2_with (first | ((with_reducible refine gate_dst (N := 3) rfl ?_); refine box_event ?hg (N := 3) ?hd (cs := #[.int .i64 a0_0, .int .i64 a0_1, .int .i64 a0_2, .int .i64 a0_3]) (t := 47) ?hr ?_; (case hd => rfl); (case hg => rfl); (case hr => first | (go_simp; done) | (go_simp; rfl)); intro gb98001 hg w7 hbox hb; have n0_ := Aside0.mk (below_step (by repeat (first | (with_reducible first | exact HB.out | apply below_alloc | apply pw_below_drewN | apply below_drew1) | exact HB.out)) hb); have n1_ := Aside0.mk (hbox); have n2_ := Aside0.mk ((by rw [hg]; exact (below_size (by repeat (first | (with_reducible first | exact HB.out | apply below_alloc | apply pw_below_drewN | apply below_drew1) | exact HB.out))) : w.heap.size ≤ gb98001)); have n3_ := Aside0.mk ((by rw [hg]; exact (below_size (by repeat (first | (with_reducible first | exact HB.out | apply below_alloc | apply pw_below_drewN | apply below_drew1) | exact HB.out))) : w.heap.size ≤ gb98001)); clear HB; have HB := n0_; have BK98001 := n1_; have GW98001 := n2_; have GE98001 := n3_; clear n0_ n1_ n2_ n3_; clear hb hbox hg; have hcz8_0 : w7.cell? ⟨gb98001, 0, none⟩ = some (.int .i64 a0_0) := (blk_cell BK98001.out 0).trans rfl; have hcz8_1 : w7.cell? ⟨gb98001, 1, none⟩ = some (.int .i64 a0_1) := (blk_cell BK98001.out 1).trans rfl; have hcz8_2 : w7.cell? ⟨gb98001, 2, none⟩ = some (.int .i64 a0_2) := (blk_cell BK98001.out 2).trans rfl; have hcz8_3 : w7.cell? ⟨gb98001, 3, none⟩ = some (.int .i64 a0_3) := (blk_cell BK98001.out 3).trans rfl; have hfz8_0 := blk_frozen BK98001.out 0; have hfz8_1 := blk_frozen BK98001.out 1; have hfz8_2 := blk_frozen BK98001.out 2; have hfz8_3 := blk_frozen BK98001.out 3))
        go_ret
        exact ⟨by first | rfl | (simp [errW_none, errW_some] <;> rfl) | (simp [*, errW_none, errW_some] <;> rfl), by repeat (first | (with_reducible first | exact HB.out | apply below_alloc | apply pw_below_drewN | apply below_drew1 | refine below_set ?_ GE98001.out) | exact HB.out)⟩
      · rw [if_neg c6] at H
        have c6b0 : decide (a0_1 ≤ a2) = false := decide_eq_false c6
        clear c6
        obtain rfl := Option.some.inj H
        go_enter Try.func97, Try.ntmps97
        go_wp2_with (first | ((with_reducible refine gate_dst (N := 3) rfl ?_); refine box_event ?hg (N := 3) ?hd (cs := #[.int .i64 a0_0, .int .i64 a0_1, .int .i64 a0_2, .int .i64 a0_3]) (t := 47) ?hr ?_; (case hd => rfl); (case hg => rfl); (case hr => first | (go_simp; done) | (go_simp; rfl)); intro gb98001 hg w9 hbox hb; have n0_ := Aside0.mk (below_step (by repeat (first | (with_reducible first | exact HB.out | apply below_alloc | apply pw_below_drewN | apply below_drew1) | exact HB.out)) hb); have n1_ := Aside0.mk (hbox); have n2_ := Aside0.mk ((by rw [hg]; exact (below_size (by repeat (first | (with_reducible first | exact HB.out | apply below_alloc | apply pw_below_drewN | apply below_drew1) | exact HB.out))) : w.heap.size ≤ gb98001)); have n3_ := Aside0.mk ((by rw [hg]; exact (below_size (by repeat (first | (with_reducible first | exact HB.out | apply below_alloc | apply pw_below_drewN | apply below_drew1) | exact HB.out))) : w.heap.size ≤ gb98001)); clear HB; have HB := n0_; have BK98001 := n1_; have GW98001 := n2_; have GE98001 := n3_; clear n0_ n1_ n2_ n3_; clear hb hbox hg; have hcz10_0 : w9.cell? ⟨gb98001, 0, none⟩ = some (.int .i64 a0_0) := (blk_cell BK98001.out 0).trans rfl; have hcz10_1 : w9.cell? ⟨gb98001, 1, none⟩ = some (.int .i64 a0_1) := (blk_cell BK98001.out 1).trans rfl; have hcz10_2 : w9.cell? ⟨gb98001, 2, none⟩ = some (.int .i64 a0_2) := (blk_cell BK98001.out 2).trans rfl; have hcz10_3 : w9.cell? ⟨gb98001, 3, none⟩ = some (.int .i64 a0_3) := (blk_cell BK98001.out 3).trans rfl; have hfz10_0 := blk_frozen BK98001.out 0; have hfz10_1 := blk_frozen BK98001.out 1; have hfz10_2 := blk_frozen BK98001.out 2; have hfz10_3 := blk_frozen BK98001.out 3))
        go_ret
        exact ⟨by first | rfl | (simp [errW_none, errW_some] <;> rfl) | (simp [*, errW_none, errW_some] <;> rfl), by repeat (first | (with_reducible first | exact HB.out | apply below_alloc | apply pw_below_drewN | apply below_drew1 | refine below_set ?_ GE98001.out) | exact HB.out)⟩
    · rw [if_neg c5] at H
      have c5b0 : decide (a1 < (wrap64 (a0_0 + a0_2))) = false := decide_eq_false c5
      clear c5
      obtain rfl := Option.some.inj H
      go_enter Try.func97, Try.ntmps97
      go_wp2_with (first | ((with_reducible refine gate_dst (N := 3) rfl ?_); refine box_event ?hg (N := 3) ?hd (cs := #[.int .i64 a0_0, .int .i64 a0_1, .int .i64 a0_2, .int .i64 a0_3]) (t := 47) ?hr ?_; (case hd => rfl); (case hg => rfl); (case hr => first | (go_simp; done) | (go_simp; rfl)); intro gb98001 hg w11 hbox hb; have n0_ := Aside0.mk (below_step (by repeat (first | (with_reducible first | exact HB.out | apply below_alloc | apply pw_below_drewN | apply below_drew1) | exact HB.out)) hb); have n1_ := Aside0.mk (hbox); have n2_ := Aside0.mk ((by rw [hg]; exact (below_size (by repeat (first | (with_reducible first | exact HB.out | apply below_alloc | apply pw_below_drewN | apply below_drew1) | exact HB.out))) : w.heap.size ≤ gb98001)); have n3_ := Aside0.mk ((by rw [hg]; exact (below_size (by repeat (first | (with_reducible first | exact HB.out | apply below_alloc | apply pw_below_drewN | apply below_drew1) | exact HB.out))) : w.heap.size ≤ gb98001)); clear HB; have HB := n0_; have BK98001 := n1_; have GW98001 := n2_; have GE98001 := n3_; clear n0_ n1_ n2_ n3_; clear hb hbox hg; have hcz12_0 : w11.cell? ⟨gb98001, 0, none⟩ = some (.int .i64 a0_0) := (blk_cell BK98001.out 0).trans rfl; have hcz12_1 : w11.cell? ⟨gb98001, 1, none⟩ = some (.int .i64 a0_1) := (blk_cell BK98001.out 1).trans rfl; have hcz12_2 : w11.cell? ⟨gb98001, 2, none⟩ = some (.int .i64 a0_2) := (blk_cell BK98001.out 2).trans rfl; have hcz12_3 : w11.cell? ⟨gb98001, 3, none⟩ = some (.int .i64 a0_3) := (blk_cell BK98001.out 3).trans rfl; have hfz12_0 := blk_frozen BK98001.out 0; have hfz12_1 := blk_frozen BK98001.out 1; have hfz12_2 := blk_frozen BK98001.out 2; have hfz12_3 := blk_frozen BK98001.out 3))
      go_ret
      exact ⟨by first | rfl | (simp [errW_none, errW_some] <;> rfl) | (simp [*, errW_none, errW_some] <;> rfl), by repeat (first | (with_reducible first | exact HB.out | apply below_alloc | apply pw_below_drewN | apply below_drew1 | refine below_set ?_ GE98001.out) | exact HB.out)⟩
  · rw [if_neg c4] at H
    have c4b0 : decide (a0_0 ≤ a1) = false := decide_eq_false c4
    clear c4
    obtain rfl := Option.some.inj H
    go_enter Try.func97, Try.ntmps97
    go_wp2_with (first | ((with_reducible refine gate_dst (N := 3) rfl ?_); refine box_event ?hg (N := 3) ?hd (cs := #[.int .i64 a0_0, .int .i64 a0_1, .int .i64 a0_2, .int .i64 a0_3]) (t := 47) ?hr ?_; (case hd => rfl); (case hg => rfl); (case hr => first | (go_simp; done) | (go_simp; rfl)); intro gb98001 hg w13 hbox hb; have n0_ := Aside0.mk (below_step (by repeat (first | (with_reducible first | exact HB.out | apply below_alloc | apply pw_below_drewN | apply below_drew1) | exact HB.out)) hb); have n1_ := Aside0.mk (hbox); have n2_ := Aside0.mk ((by rw [hg]; exact (below_size (by repeat (first | (with_reducible first | exact HB.out | apply below_alloc | apply pw_below_drewN | apply below_drew1) | exact HB.out))) : w.heap.size ≤ gb98001)); have n3_ := Aside0.mk ((by rw [hg]; exact (below_size (by repeat (first | (with_reducible first | exact HB.out | apply below_alloc | apply pw_below_drewN | apply below_drew1) | exact HB.out))) : w.heap.size ≤ gb98001)); clear HB; have HB := n0_; have BK98001 := n1_; have GW98001 := n2_; have GE98001 := n3_; clear n0_ n1_ n2_ n3_; clear hb hbox hg; have hcz14_0 : w13.cell? ⟨gb98001, 0, none⟩ = some (.int .i64 a0_0) := (blk_cell BK98001.out 0).trans rfl; have hcz14_1 : w13.cell? ⟨gb98001, 1, none⟩ = some (.int .i64 a0_1) := (blk_cell BK98001.out 1).trans rfl; have hcz14_2 : w13.cell? ⟨gb98001, 2, none⟩ = some (.int .i64 a0_2) := (blk_cell BK98001.out 2).trans rfl; have hcz14_3 : w13.cell? ⟨gb98001, 3, none⟩ = some (.int .i64 a0_3) := (blk_cell BK98001.out 3).trans rfl; have hfz14_0 := blk_frozen BK98001.out 0; have hfz14_1 := blk_frozen BK98001.out 1; have hfz14_2 := blk_frozen BK98001.out 2; have hfz14_3 := blk_frozen BK98001.out 3))
    go_ret
    exact ⟨by first | rfl | (simp [errW_none, errW_some] <;> rfl) | (simp [*, errW_none, errW_some] <;> rfl), by repeat (first | (with_reducible first | exact HB.out | apply below_alloc | apply pw_below_drewN | apply below_drew1 | refine below_set ?_ GE98001.out) | exact HB.out)⟩


def impl_Layer_box.f (a0_0 : Int) (a0_1 : Int) (a0_2 : Int) (l0_3 : List Int) (a0_4 : Int) (a0_5 : Int) (a0_6 : Int) (a0_7 : Int) (a0_8 : Bool) : Option (Int × Int × Int × Int) := some (a0_4, a0_5, a0_0, a0_1)
set_option maxHeartbeats 8000000 in
set_option maxRecDepth 100000 in
theorem impl_Layer_box.calls (a0_0 : Int) (a0_1 : Int) (a0_2 : Int) (A0_3 : Option Addr) (c0_3 : Nat) (l0_3 : List Int) (a0_4 : Int) (a0_5 : Int) (a0_6 : Int) (a0_7 : Int) (a0_8 : Bool) (r1 : Int) (r2 : Int) (r3 : Int) (r4 : Int) (w : World) (hr0_3 : Kd.C (Kd.int .i64) w A0_3 l0_3.length l0_3) (hc0_3 : l0_3.length ≤ c0_3) (h : impl_Layer_box.f a0_0 a0_1 a0_2 l0_3 a0_4 a0_5 a0_6 a0_7 a0_8 = some (r1, r2, r3, r4)) :
    Calls Try.prog 104 #[.agg #[.int .i64 a0_0, .int .i64 a0_1, .int .i64 a0_2, .slice A0_3 l0_3.length c0_3, .int .i64 a0_4, .int .i64 a0_5, .int .i64 a0_6, .int .i64 a0_7, .bool a0_8]] w fun e w' => e = .returned (.agg #[.int .i64 r1, .int .i64 r2, .int .i64 r3, .int .i64 r4]) ∧ Below w.heap.size w w' := by
  have hu55 := Try.underlying55
  have hu47 := Try.underlying47
  have HR0_3 := Aside0.mk hr0_3
  have HC0_3 := Aside0.mk hc0_3
  clear hr0_3 hc0_3
  have HB := Aside0.mk (Below.refl w.heap.size w)
  have H : (some (a0_4, a0_5, a0_0, a0_1)) = some (r1, r2, r3, r4) := h
  clear h
  simp only [Option.some.injEq, Prod.mk.injEq] at H
  obtain ⟨rfl, rfl, rfl, rfl⟩ := H
  go_enter Try.func104, Try.ntmps104
  go_wp2_with (first | ((with_reducible refine gate_dst (N := 1) rfl ?_); refine box_event ?hg (N := 1) ?hd (cs := #[.int .i64 a0_0, .int .i64 a0_1, .int .i64 a0_2, .slice A0_3 l0_3.length c0_3, .int .i64 a0_4, .int .i64 a0_5, .int .i64 a0_6, .int .i64 a0_7, .bool a0_8]) (t := 55) ?hr ?_; (case hd => rfl); (case hg => rfl); (case hr => first | (go_simp; done) | (go_simp; rfl)); intro gb105001 hg w2 hbox hb; have n0_ := Aside0.mk (below_step (by repeat (first | (with_reducible first | exact HB.out | apply below_alloc | apply pw_below_drewN | apply below_drew1) | exact HB.out)) hb); have n1_ := Aside0.mk (hbox); have n2_ := Aside0.mk ((by rw [hg]; exact (below_size (by repeat (first | (with_reducible first | exact HB.out | apply below_alloc | apply pw_below_drewN | apply below_drew1) | exact HB.out))) : w.heap.size ≤ gb105001)); have n3_ := Aside0.mk ((by rw [hg]; exact (below_size (by repeat (first | (with_reducible first | exact HB.out | apply below_alloc | apply pw_below_drewN | apply below_drew1) | exact HB.out))) : w.heap.size ≤ gb105001)); clear HB; have HB := n0_; have BK105001 := n1_; have GW105001 := n2_; have GE105001 := n3_; clear n0_ n1_ n2_ n3_; clear hb hbox hg) | ((with_reducible refine gate_dst (N := 2) rfl ?_); refine box_event ?hg (N := 2) ?hd (cs := #[.int .i64 0, .int .i64 0, .int .i64 0, .int .i64 0]) (t := 47) ?hr ?_; (case hd => rfl); (case hg => rfl); (case hr => first | (go_simp; done) | (go_simp; rfl)); intro gb105002 hg w3 hbox hb; have n0_ := Aside0.mk (blk_below (g := gb105001) (o := .cells #[.int .i64 a0_0, .int .i64 a0_1, .int .i64 a0_2, .slice A0_3 l0_3.length c0_3, .int .i64 a0_4, .int .i64 a0_5, .int .i64 a0_6, .int .i64 a0_7, .bool a0_8] 55 (0, 0)) (by (with_reducible repeat (first | refine blk_drewN ?_ _ | refine blk_drew ?_ | refine blk_alloc ?_ _)); exact BK105001.out) hb); have n1_ := Aside0.mk (below_step (by repeat (first | (with_reducible first | exact HB.out | apply below_alloc | apply pw_below_drewN | apply below_drew1 | refine below_set ?_ GE105001.out) | exact HB.out)) hb); have n2_ := Aside0.mk (hbox); have n3_ := Aside0.mk ((by rw [hg]; exact (below_size (by repeat (first | (with_reducible first | exact HB.out | apply below_alloc | apply pw_below_drewN | apply below_drew1 | refine below_set ?_ GE105001.out) | exact HB.out))) : w.heap.size ≤ gb105002)); have n4_ := Aside0.mk ((by rw [hg]; exact (below_size (by repeat (first | (with_reducible first | exact HB.out | apply below_alloc | apply pw_below_drewN | apply below_drew1 | refine below_set ?_ GE105001.out) | exact HB.out))) : w.heap.size ≤ gb105002)); have n5_ := Aside0.mk ((by rw [hg]; exact Nat.ne_of_lt (blk_lt (g := gb105001) (o := .cells #[.int .i64 a0_0, .int .i64 a0_1, .int .i64 a0_2, .slice A0_3 l0_3.length c0_3, .int .i64 a0_4, .int .i64 a0_5, .int .i64 a0_6, .int .i64 a0_7, .bool a0_8] 55 (0, 0)) (by (with_reducible repeat (first | refine blk_drewN ?_ _ | refine blk_drew ?_ | refine blk_alloc ?_ _)); exact BK105001.out)) : gb105001 ≠ gb105002)); have n6_ := Aside0.mk ((by rw [hg]; exact Nat.ne_of_gt (blk_lt (g := gb105001) (o := .cells #[.int .i64 a0_0, .int .i64 a0_1, .int .i64 a0_2, .slice A0_3 l0_3.length c0_3, .int .i64 a0_4, .int .i64 a0_5, .int .i64 a0_6, .int .i64 a0_7, .bool a0_8] 55 (0, 0)) (by (with_reducible repeat (first | refine blk_drewN ?_ _ | refine blk_drew ?_ | refine blk_alloc ?_ _)); exact BK105001.out)) : gb105002 ≠ gb105001)); clear BK105001; clear HB; have BK105001 := n0_; have HB := n1_; have BK105002 := n2_; have GW105002 := n3_; have GE105002 := n4_; have NB105001_105002 := n5_; have NB105002_105001 := n6_; clear n0_ n1_ n2_ n3_ n4_ n5_ n6_; clear hb hbox hg; have hnb4 := NB105001_105002.out; have hnc4 := NB105002_105001.out; have hcz5_0 : w3.cell? ⟨gb105001, 0, none⟩ = some (.int .i64 a0_0) := (blk_cell BK105001.out 0).trans rfl; have hcz5_1 : w3.cell? ⟨gb105001, 1, none⟩ = some (.int .i64 a0_1) := (blk_cell BK105001.out 1).trans rfl; have hcz5_2 : w3.cell? ⟨gb105001, 2, none⟩ = some (.int .i64 a0_2) := (blk_cell BK105001.out 2).trans rfl; have hcz5_3 : w3.cell? ⟨gb105001, 3, none⟩ = some (.slice A0_3 l0_3.length c0_3) := (blk_cell BK105001.out 3).trans rfl; have hcz5_4 : w3.cell? ⟨gb105001, 4, none⟩ = some (.int .i64 a0_4) := (blk_cell BK105001.out 4).trans rfl; have hcz5_5 : w3.cell? ⟨gb105001, 5, none⟩ = some (.int .i64 a0_5) := (blk_cell BK105001.out 5).trans rfl; have hcz5_6 : w3.cell? ⟨gb105001, 6, none⟩ = some (.int .i64 a0_6) := (blk_cell BK105001.out 6).trans rfl; have hcz5_7 : w3.cell? ⟨gb105001, 7, none⟩ = some (.int .i64 a0_7) := (blk_cell BK105001.out 7).trans rfl; have hcz5_8 : w3.cell? ⟨gb105001, 8, none⟩ = some (.bool a0_8) := (blk_cell BK105001.out 8).trans rfl; have hfz5_0 := blk_frozen BK105001.out 0; have hfz5_1 := blk_frozen BK105001.out 1; have hfz5_2 := blk_frozen BK105001.out 2; have hfz5_3 := blk_frozen BK105001.out 3; have hfz5_4 := blk_frozen BK105001.out 4; have hfz5_5 := blk_frozen BK105001.out 5; have hfz5_6 := blk_frozen BK105001.out 6; have hfz5_7 := blk_frozen BK105001.out 7; have hfz5_8 := blk_frozen BK105001.out 8; have hcz6_0 : w3.cell? ⟨gb105002, 0, none⟩ = some (.int .i64 0) := (blk_cell BK105002.out 0).trans rfl; have hcz6_1 : w3.cell? ⟨gb105002, 1, none⟩ = some (.int .i64 0) := (blk_cell BK105002.out 1).trans rfl; have hcz6_2 : w3.cell? ⟨gb105002, 2, none⟩ = some (.int .i64 0) := (blk_cell BK105002.out 2).trans rfl; have hcz6_3 : w3.cell? ⟨gb105002, 3, none⟩ = some (.int .i64 0) := (blk_cell BK105002.out 3).trans rfl; have hfz6_0 := blk_frozen BK105002.out 0; have hfz6_1 := blk_frozen BK105002.out 1; have hfz6_2 := blk_frozen BK105002.out 2; have hfz6_3 := blk_frozen BK105002.out 3))
  refine bodyPost_ret (results_cell_row rfl _ _ gb105002 47 #[.int .i64 a0_4, .int .i64 a0_5, .int .i64 a0_0, .int .i64 a0_1] (0, 0) _ rfl (by (with_reducible repeat (first | refine blk_drewN ?_ _ | refine blk_drew ?_ | refine blk_alloc ?_ _)); refine blk_put (cs := #[.int .i64 a0_4, .int .i64 a0_5, .int .i64 a0_0, .int .i64 0]) ?_ 3 _ rfl; (with_reducible repeat (first | refine blk_drewN ?_ _ | refine blk_drew ?_ | refine blk_alloc ?_ _)); refine blk_put (cs := #[.int .i64 a0_4, .int .i64 a0_5, .int .i64 0, .int .i64 0]) ?_ 2 _ rfl; (with_reducible repeat (first | refine blk_drewN ?_ _ | refine blk_drew ?_ | refine blk_alloc ?_ _)); refine blk_put (cs := #[.int .i64 a0_4, .int .i64 0, .int .i64 0, .int .i64 0]) ?_ 1 _ rfl; (with_reducible repeat (first | refine blk_drewN ?_ _ | refine blk_drew ?_ | refine blk_alloc ?_ _)); refine blk_put (cs := #[.int .i64 0, .int .i64 0, .int .i64 0, .int .i64 0]) ?_ 0 _ rfl; (with_reducible repeat (first | refine blk_drewN ?_ _ | refine blk_drew ?_ | refine blk_alloc ?_ _)); exact BK105002.out) Try.underlying47 rfl (by kernel_rfl)) rfl ?_
  exact ⟨by first | rfl | (simp [errW_none, errW_some] <;> rfl) | (simp [*, errW_none, errW_some] <;> rfl), by repeat (first | (with_reducible first | exact HB.out | apply below_alloc | apply pw_below_drewN | apply below_drew1 | refine below_set ?_ GE105001.out | refine below_set ?_ GE105002.out) | exact HB.out)⟩


def impl_part255.f (a0 : Int) : Option (Int) := some (wrap64 (Int.tdiv (wrap64 ((wrap64 (2 * a0)) + 255)) 510))
set_option maxHeartbeats 8000000 in
set_option maxRecDepth 100000 in
theorem impl_part255.calls (a0 : Int) (r : Int) (w : World) (h : impl_part255.f a0 = some r) :
    Calls Try.prog 156 #[.int .i64 a0] w fun e w' => e = .returned (.int .i64 r) ∧ Drawn0 w w' := by
  have H : (some (wrap64 (Int.tdiv (wrap64 ((wrap64 (2 * a0)) + 255)) 510))) = some r := h
  clear h
  obtain rfl := Option.some.inj H
  go_enter Try.func156, Try.ntmps156
  go_wp2
  go_ret
  exact ⟨by first | rfl | (simp; done) | (simp [*]; done), by repeat (first | exact Drawn0.refl _ | apply Drawn0.step)⟩


def impl_blended.f (a0 : Int) (a1 : Int) (a2 : Int) (a3 : Int) : Option (Int) := if a0 = 1 then ((impl_part255.f (wrap64 (a1 * a2))).bind fun t144001 => ((impl_part255.f (wrap64 ((wrap64 (a3 * t144001)) + (wrap64 ((wrap64 (255 - a3)) * a1))))).bind fun t144002 => (some t144002))) else (if a0 = 2 then ((impl_part255.f (wrap64 ((wrap64 (255 - a1)) * (wrap64 (255 - a2))))).bind fun t144003 => ((impl_part255.f (wrap64 ((wrap64 (a3 * (wrap64 (255 - t144003)))) + (wrap64 ((wrap64 (255 - a3)) * a1))))).bind fun t144004 => (some t144004))) else (if a0 = 3 then ((impl_part255.f (wrap64 ((wrap64 (a3 * (mn a1 a2))) + (wrap64 ((wrap64 (255 - a3)) * a1))))).bind fun t144005 => (some t144005)) else (if a0 = 4 then ((impl_part255.f (wrap64 ((wrap64 (a3 * (mx a1 a2))) + (wrap64 ((wrap64 (255 - a3)) * a1))))).bind fun t144006 => (some t144006)) else ((impl_part255.f (wrap64 ((wrap64 (a3 * a2)) + (wrap64 ((wrap64 (255 - a3)) * a1))))).bind fun t144007 => (some t144007)))))
set_option maxHeartbeats 8000000 in
set_option maxRecDepth 100000 in
theorem impl_blended.calls (a0 : Int) (a1 : Int) (a2 : Int) (a3 : Int) (r : Int) (w : World) (h : impl_blended.f a0 a1 a2 a3 = some r) :
    Calls Try.prog 143 #[.int .i64 a0, .int .i64 a1, .int .i64 a2, .int .i64 a3] w fun e w' => e = .returned (.int .i64 r) ∧ Below w.heap.size w w' := by
  have HB := Aside0.mk (Below.refl w.heap.size w)
  have H : (if a0 = 1 then ((impl_part255.f (wrap64 (a1 * a2))).bind fun t144001 => ((impl_part255.f (wrap64 ((wrap64 (a3 * t144001)) + (wrap64 ((wrap64 (255 - a3)) * a1))))).bind fun t144002 => (some t144002))) else (if a0 = 2 then ((impl_part255.f (wrap64 ((wrap64 (255 - a1)) * (wrap64 (255 - a2))))).bind fun t144003 => ((impl_part255.f (wrap64 ((wrap64 (a3 * (wrap64 (255 - t144003)))) + (wrap64 ((wrap64 (255 - a3)) * a1))))).bind fun t144004 => (some t144004))) else (if a0 = 3 then ((impl_part255.f (wrap64 ((wrap64 (a3 * (mn a1 a2))) + (wrap64 ((wrap64 (255 - a3)) * a1))))).bind fun t144005 => (some t144005)) else (if a0 = 4 then ((impl_part255.f (wrap64 ((wrap64 (a3 * (mx a1 a2))) + (wrap64 ((wrap64 (255 - a3)) * a1))))).bind fun t144006 => (some t144006)) else ((impl_part255.f (wrap64 ((wrap64 (a3 * a2)) + (wrap64 ((wrap64 (255 - a3)) * a1))))).bind fun t144007 => (some t144007)))))) = some r := h
  clear h
  by_cases c5 : a0 = 1
  · rw [if_pos c5] at H
    have c5b0 : (a0 == 1) = true := beq_iff_eq.mpr c5
    have c5b1 : (a0 != 1) = false := bne_eq_false_iff_eq.mpr c5
    clear c5
    replace H := Option.bind_eq_some_iff.mp H
    obtain ⟨t144001, A60, H⟩ := H
    replace H : ((impl_part255.f (wrap64 ((wrap64 (a3 * t144001)) + (wrap64 ((wrap64 (255 - a3)) * a1))))).bind fun t144002 => (some t144002)) = some r := H
    have A6 := Aside0.mk A60
    clear A60
    replace H := Option.bind_eq_some_iff.mp H
    obtain ⟨t144002, A70, H⟩ := H
    replace H : (some t144002) = some r := H
    have A7 := Aside0.mk A70
    clear A70
    obtain rfl := Option.some.inj H
    go_enter Try.func143, Try.ntmps143
    go_wp2_with (first | ((with_reducible refine gate_callee (f := 156) rfl ?_); refine goesL_ (some 17) rfl rfl Try.func156 (by kernel_rfl) rfl #[.int .i64 (wrap64 (a1 * a2))] rfl (by (try simp only [List.map_toArray, List.map_cons, List.map_nil]); first | done | rfl | (simp only [List.length_drop, List.length_take]; rfl)) ?_; (with_reducible refine (impl_part255.calls (wrap64 (a1 * a2)) t144001 _ A6.out).mono ?_); rintro e w' ⟨rfl, ⟨nd, rfl⟩⟩; refine ⟨_, rfl, ?_⟩) | ((with_reducible refine gate_callee (f := 156) rfl ?_); refine goesL_ (some 45) rfl rfl Try.func156 (by kernel_rfl) rfl #[.int .i64 (wrap64 ((wrap64 (a3 * t144001)) + (wrap64 ((wrap64 (255 - a3)) * a1))))] rfl (by (try simp only [List.map_toArray, List.map_cons, List.map_nil]); first | done | rfl | (simp only [List.length_drop, List.length_take]; rfl)) ?_; (with_reducible refine (impl_part255.calls (wrap64 ((wrap64 (a3 * t144001)) + (wrap64 ((wrap64 (255 - a3)) * a1)))) t144002 _ A7.out).mono ?_); rintro e w' ⟨rfl, ⟨nd, rfl⟩⟩; refine ⟨_, rfl, ?_⟩))
    go_ret
    exact ⟨by first | rfl | (simp [errW_none, errW_some] <;> rfl) | (simp [*, errW_none, errW_some] <;> rfl), by repeat (first | (with_reducible first | exact HB.out | apply below_alloc | apply pw_below_drewN | apply below_drew1) | exact HB.out)⟩
  · rw [if_neg c5] at H
    have c5b0 : (a0 == 1) = false := beq_eq_false_iff_ne.mpr c5
    have c5b1 : (a0 != 1) = true := bne_iff_ne.mpr c5
    by_cases c8 : a0 = 2
    · rw [if_pos c8] at H
      have c8b0 : (a0 == 2) = true := beq_iff_eq.mpr c8
      have c8b1 : (a0 != 2) = false := bne_eq_false_iff_eq.mpr c8
      clear c8
      replace H := Option.bind_eq_some_iff.mp H
      obtain ⟨t144003, A90, H⟩ := H
      replace H : ((impl_part255.f (wrap64 ((wrap64 (a3 * (wrap64 (255 - t144003)))) + (wrap64 ((wrap64 (255 - a3)) * a1))))).bind fun t144004 => (some t144004)) = some r := H
      have A9 := Aside0.mk A90
      clear A90
      replace H := Option.bind_eq_some_iff.mp H
      obtain ⟨t144004, A100, H⟩ := H
      replace H : (some t144004) = some r := H
      have A10 := Aside0.mk A100
      clear A100
      obtain rfl := Option.some.inj H
      go_enter Try.func143, Try.ntmps143
      go_wp2_with (first | ((with_reducible refine gate_callee (f := 156) rfl ?_); refine goesL_ (some 25) rfl rfl Try.func156 (by kernel_rfl) rfl #[.int .i64 (wrap64 ((wrap64 (255 - a1)) * (wrap64 (255 - a2))))] rfl (by (try simp only [List.map_toArray, List.map_cons, List.map_nil]); first | done | rfl | (simp only [List.length_drop, List.length_take]; rfl)) ?_; (with_reducible refine (impl_part255.calls (wrap64 ((wrap64 (255 - a1)) * (wrap64 (255 - a2)))) t144003 _ A9.out).mono ?_); rintro e w' ⟨rfl, ⟨nd, rfl⟩⟩; refine ⟨_, rfl, ?_⟩) | ((with_reducible refine gate_callee (f := 156) rfl ?_); refine goesL_ (some 45) rfl rfl Try.func156 (by kernel_rfl) rfl #[.int .i64 (wrap64 ((wrap64 (a3 * (wrap64 (255 - t144003)))) + (wrap64 ((wrap64 (255 - a3)) * a1))))] rfl (by (try simp only [List.map_toArray, List.map_cons, List.map_nil]); first | done | rfl | (simp only [List.length_drop, List.length_take]; rfl)) ?_; (with_reducible refine (impl_part255.calls (wrap64 ((wrap64 (a3 * (wrap64 (255 - t144003)))) + (wrap64 ((wrap64 (255 - a3)) * a1)))) t144004 _ A10.out).mono ?_); rintro e w' ⟨rfl, ⟨nd, rfl⟩⟩; refine ⟨_, rfl, ?_⟩))
      go_ret
      exact ⟨by first | rfl | (simp [errW_none, errW_some] <;> rfl) | (simp [*, errW_none, errW_some] <;> rfl), by repeat (first | (with_reducible first | exact HB.out | apply below_alloc | apply pw_below_drewN | apply below_drew1) | exact HB.out)⟩
    · rw [if_neg c8] at H
      have c8b0 : (a0 == 2) = false := beq_eq_false_iff_ne.mpr c8
      have c8b1 : (a0 != 2) = true := bne_iff_ne.mpr c8
      by_cases c11 : a0 = 3
      · rw [if_pos c11] at H
        have c11b0 : (a0 == 3) = true := beq_iff_eq.mpr c11
        have c11b1 : (a0 != 3) = false := bne_eq_false_iff_eq.mpr c11
        clear c11
        obtain ⟨ji12, hji12⟩ : ∃ j_ : Int, (mn a1 a2) = j_ := ⟨_, rfl⟩
        replace H : ((impl_part255.f (wrap64 ((wrap64 (a3 * (ji12))) + (wrap64 ((wrap64 (255 - a3)) * a1))))).bind fun t144005 => (some t144005)) = some r := by first | (rw [hji12] at H; exact H) | (simp only [hji12] at H ⊢; exact H)
        have hji12_ : (if a2 < a1 then a2 else a1) = ji12 := hji12
        replace H := Option.bind_eq_some_iff.mp H
        obtain ⟨t144005, A130, H⟩ := H
        replace H : (some t144005) = some r := H
        have A13 := Aside0.mk A130
        clear A130
        obtain rfl := Option.some.inj H
        go_enter Try.func143, Try.ntmps143
        go_wp2_with (first | ((with_reducible refine gate_callee (f := 156) rfl ?_); refine goesL_ (some 45) rfl rfl Try.func156 (by kernel_rfl) rfl #[.int .i64 (wrap64 ((wrap64 (a3 * (ji12))) + (wrap64 ((wrap64 (255 - a3)) * a1))))] rfl (by (try simp only [List.map_toArray, List.map_cons, List.map_nil]); first | done | (simp only [hji12]; rfl) | rfl | (simp only [List.length_drop, List.length_take]; rfl)) ?_; (with_reducible refine (impl_part255.calls (wrap64 ((wrap64 (a3 * (ji12))) + (wrap64 ((wrap64 (255 - a3)) * a1)))) t144005 _ A13.out).mono ?_); rintro e w' ⟨rfl, ⟨nd, rfl⟩⟩; refine ⟨_, rfl, ?_⟩))
        go_ret
        exact ⟨by first | rfl | (simp [errW_none, errW_some] <;> rfl) | (simp only [← hji12]; first | rfl | (simp [errW_none, errW_some] <;> rfl)) | (simp [*, errW_none, errW_some] <;> rfl), by repeat (first | (with_reducible first | exact HB.out | apply below_alloc | apply pw_below_drewN | apply below_drew1) | exact HB.out)⟩
      · rw [if_neg c11] at H
        have c11b0 : (a0 == 3) = false := beq_eq_false_iff_ne.mpr c11
        have c11b1 : (a0 != 3) = true := bne_iff_ne.mpr c11
        by_cases c14 : a0 = 4
        · rw [if_pos c14] at H
          have c14b0 : (a0 == 4) = true := beq_iff_eq.mpr c14
          have c14b1 : (a0 != 4) = false := bne_eq_false_iff_eq.mpr c14
          clear c14
          obtain ⟨ji15, hji15⟩ : ∃ j_ : Int, (mx a1 a2) = j_ := ⟨_, rfl⟩
          replace H : ((impl_part255.f (wrap64 ((wrap64 (a3 * (ji15))) + (wrap64 ((wrap64 (255 - a3)) * a1))))).bind fun t144006 => (some t144006)) = some r := by first | (rw [hji15] at H; exact H) | (simp only [hji15] at H ⊢; exact H)
          have hji15_ : (if a1 < a2 then a2 else a1) = ji15 := hji15
          replace H := Option.bind_eq_some_iff.mp H
          obtain ⟨t144006, A160, H⟩ := H
          replace H : (some t144006) = some r := H
          have A16 := Aside0.mk A160
          clear A160
          obtain rfl := Option.some.inj H
          go_enter Try.func143, Try.ntmps143
          go_wp2_with (first | ((with_reducible refine gate_callee (f := 156) rfl ?_); refine goesL_ (some 45) rfl rfl Try.func156 (by kernel_rfl) rfl #[.int .i64 (wrap64 ((wrap64 (a3 * (ji15))) + (wrap64 ((wrap64 (255 - a3)) * a1))))] rfl (by (try simp only [List.map_toArray, List.map_cons, List.map_nil]); first | done | (simp only [hji15]; rfl) | rfl | (simp only [List.length_drop, List.length_take]; rfl)) ?_; (with_reducible refine (impl_part255.calls (wrap64 ((wrap64 (a3 * (ji15))) + (wrap64 ((wrap64 (255 - a3)) * a1)))) t144006 _ A16.out).mono ?_); rintro e w' ⟨rfl, ⟨nd, rfl⟩⟩; refine ⟨_, rfl, ?_⟩))
          go_ret
          exact ⟨by first | rfl | (simp [errW_none, errW_some] <;> rfl) | (simp only [← hji15]; first | rfl | (simp [errW_none, errW_some] <;> rfl)) | (simp [*, errW_none, errW_some] <;> rfl), by repeat (first | (with_reducible first | exact HB.out | apply below_alloc | apply pw_below_drewN | apply below_drew1) | exact HB.out)⟩
        · rw [if_neg c14] at H
          have c14b0 : (a0 == 4) = false := beq_eq_false_iff_ne.mpr c14
          have c14b1 : (a0 != 4) = true := bne_iff_ne.mpr c14
          replace H := Option.bind_eq_some_iff.mp H
          obtain ⟨t144007, A170, H⟩ := H
          replace H : (some t144007) = some r := H
          have A17 := Aside0.mk A170
          clear A170
          obtain rfl := Option.some.inj H
          go_enter Try.func143, Try.ntmps143
          go_wp2_with (first | ((with_reducible refine gate_callee (f := 156) rfl ?_); refine goesL_ (some 45) rfl rfl Try.func156 (by kernel_rfl) rfl #[.int .i64 (wrap64 ((wrap64 (a3 * a2)) + (wrap64 ((wrap64 (255 - a3)) * a1))))] rfl (by (try simp only [List.map_toArray, List.map_cons, List.map_nil]); first | done | rfl | (simp only [List.length_drop, List.length_take]; rfl)) ?_; (with_reducible refine (impl_part255.calls (wrap64 ((wrap64 (a3 * a2)) + (wrap64 ((wrap64 (255 - a3)) * a1)))) t144007 _ A17.out).mono ?_); rintro e w' ⟨rfl, ⟨nd, rfl⟩⟩; refine ⟨_, rfl, ?_⟩))
          go_ret
          exact ⟨by first | rfl | (simp [errW_none, errW_some] <;> rfl) | (simp [*, errW_none, errW_some] <;> rfl), by repeat (first | (with_reducible first | exact HB.out | apply below_alloc | apply pw_below_drewN | apply below_drew1) | exact HB.out)⟩

end Go.Proofs.Ytnofkbbcbpjhfaa.Q
