/- A part of the proof that the statement FnExactGapOfSaid holds, under no condition of its own: The program's GapOf and the reference's return the same number, and leave their images alone: over lists of numbers alone. -/
import Derived.Test.YtnofkbbcbpjhfaaCFnExactGapOf1
import Derived.Deep.Slices
import Derived.Deep.Fields
import Derived.ChangeSame
import Derived.ProofKit
import Derived.OpenShut
import Derived.ShutString
import Derived.ChangeOld
import Derived.SizedLaws
import GoSem.Claim
import Derived.Test.YtnofkbbcbpjhfaaRows
import Derived.JoinedOf
import Derived.KernelRfl
import Derived.WalkKit
import Derived.Below
import Derived.Carry
namespace Go.Proofs.Ytnofkbbcbpjhfaa.Q
open Go.RowKit Go.Proofs.YtnofkbbcbpjhfaaW.PrintWords Go.Proofs.YtnofkbbcbpjhfaaW.PrintLast Go.Proofs.YtnofkbbcbpjhfaaW.PrintMore
attribute [local go_sem] max2_int min2_int max_two min_two max_three min_three max_four min_four
set_option linter.unusedVariables false
set_option linter.unusedSimpArgs false
/-! ### impl_GapOf: function 23 -/
mutual
def impl_GapOf.j0 : Nat → Bool → Int → Int → Int → List Int → Int → Int → Int → List Int → Option (Int)
  | 0, _, _, _, _, _, _, _, _, _ => none
  | k + 1, x21, x24002000, x24002001, x24002002, x24002003, x24003000, x24003001, x24003002, x24003003 => if x21 = true then (some (-1)) else (impl_GapOf.l0 k 0 x24002003 (x24002003.length : Int) 0 x24003000 x24003001 x24003002 x24003003)
def impl_GapOf.l0 : Nat → Int → List Int → Int → Int → Int → Int → Int → List Int → Option (Int)
  | 0, _, _, _, _, _, _, _, _ => none
  | k + 1, x5, x23, x24, x25, x24003000, x24003001, x24003002, x24003003 => if x25 < x24 then (if 0 ≤ x25 then (if x25 < (x23.length : Int) then (if x25 < (x24003003.length : Int) then (impl_GapOf.l0 k (wrap64 (x5 + (wrap64 ((wrap64 ((rd x23 x25) - (rd x24003003 x25))) * (wrap64 ((rd x23 x25) - (rd x24003003 x25))))))) x23 x24 (wrap64 (x25 + 1)) x24003000 x24003001 x24003002 x24003003) else (none)) else (none)) else (none)) else (some x5)
end
def impl_GapOf.f (k : Nat) (a0_0 : Int) (a0_1 : Int) (a0_2 : Int) (l0_3 : List Int) (a1_0 : Int) (a1_1 : Int) (a1_2 : Int) (l1_3 : List Int) : Option (Int) := (impl_isImage.f a0_0 a0_1 a0_2 l0_3).bind fun t24003 => (if t24003 = true then ((impl_isImage.f a1_0 a1_1 a1_2 l1_3).bind fun t24004 => (if t24004 = true then ((impl_alikeImages.f a0_0 a0_1 a0_2 l0_3 a1_0 a1_1 a1_2 l1_3).bind fun t24005 => (impl_GapOf.j0 k (!t24005) a0_0 a0_1 a0_2 l0_3 a1_0 a1_1 a1_2 l1_3)) else (impl_GapOf.j0 k true a0_0 a0_1 a0_2 l0_3 a1_0 a1_1 a1_2 l1_3))) else (impl_GapOf.j0 k true a0_0 a0_1 a0_2 l0_3 a1_0 a1_1 a1_2 l1_3))
theorem impl_GapOf.mono_l : ∀ k, (∀ y0 y1 y2 y3 y4 y5 y6 y7 y8, LeO (impl_GapOf.j0 k y0 y1 y2 y3 y4 y5 y6 y7 y8) (impl_GapOf.j0 (k + 1) y0 y1 y2 y3 y4 y5 y6 y7 y8)) ∧ (∀ y0 y1 y2 y3 y4 y5 y6 y7, LeO (impl_GapOf.l0 k y0 y1 y2 y3 y4 y5 y6 y7) (impl_GapOf.l0 (k + 1) y0 y1 y2 y3 y4 y5 y6 y7))
  | 0 => ⟨fun _ _ _ _ _ _ _ _ _ r h => by simp [impl_GapOf.j0] at h, fun _ _ _ _ _ _ _ _ r h => by simp [impl_GapOf.l0] at h⟩
  | k + 1 => by
    obtain ⟨ih0, ih1⟩ := impl_GapOf.mono_l k
    refine ⟨?_, ?_⟩
    · intro y0 y1 y2 y3 y4 y5 y6 y7 y8
      unfold impl_GapOf.j0
      repeat' first
      | (with_reducible exact ih0 _ _ _ _ _ _ _ _ _)
      | (with_reducible exact ih1 _ _ _ _ _ _ _ _)
      | (with_reducible exact LeO.refl _)
      | (with_reducible exact LeO.none _)
      | (with_reducible refine LeO.ite ?_ ?_)
      | (with_reducible refine LeO.bind ?_ (fun _ => ?_))
      | exact ih0 _ _ _ _ _ _ _ _ _
      | exact ih1 _ _ _ _ _ _ _ _
      | exact LeO.none _
      | refine LeO.ite ?_ ?_
      | refine LeO.bind ?_ (fun _ => ?_)
    · intro y0 y1 y2 y3 y4 y5 y6 y7
      unfold impl_GapOf.l0
      repeat' first
      | (with_reducible exact ih0 _ _ _ _ _ _ _ _ _)
      | (with_reducible exact ih1 _ _ _ _ _ _ _ _)
      | (with_reducible exact LeO.refl _)
      | (with_reducible exact LeO.none _)
      | (with_reducible refine LeO.ite ?_ ?_)
      | (with_reducible refine LeO.bind ?_ (fun _ => ?_))
      | exact ih0 _ _ _ _ _ _ _ _ _
      | exact ih1 _ _ _ _ _ _ _ _
      | exact LeO.none _
      | refine LeO.ite ?_ ?_
      | refine LeO.bind ?_ (fun _ => ?_)
theorem impl_GapOf.mono : ∀ a0 a1 a2 a3 a4 a5 a6 a7 k, LeO (impl_GapOf.f k a0 a1 a2 a3 a4 a5 a6 a7) (impl_GapOf.f (k + 1) a0 a1 a2 a3 a4 a5 a6 a7) := by
  intro a0 a1 a2 a3 a4 a5 a6 a7 k
  obtain ⟨ih0, ih1⟩ := impl_GapOf.mono_l k
  unfold impl_GapOf.f
  repeat' first
      | (with_reducible exact ih0 _ _ _ _ _ _ _ _ _)
      | (with_reducible exact ih1 _ _ _ _ _ _ _ _)
      | (with_reducible exact LeO.refl _)
      | (with_reducible exact LeO.none _)
      | (with_reducible refine LeO.ite ?_ ?_)
      | (with_reducible refine LeO.bind ?_ (fun _ => ?_))
      | exact ih0 _ _ _ _ _ _ _ _ _
      | exact ih1 _ _ _ _ _ _ _ _
      | exact LeO.none _
      | refine LeO.ite ?_ ?_
      | refine LeO.bind ?_ (fun _ => ?_)
set_option maxHeartbeats 8000000 in
set_option maxRecDepth 100000 in
theorem impl_GapOf.calls (k : Nat) (a0_0 : Int) (a0_1 : Int) (a0_2 : Int) (A0_3 : Option Addr) (c0_3 : Nat) (l0_3 : List Int) (a1_0 : Int) (a1_1 : Int) (a1_2 : Int) (A1_3 : Option Addr) (c1_3 : Nat) (l1_3 : List Int) (r : Int) (w : World) (hr0_3 : Kd.C (Kd.int .i64) w A0_3 l0_3.length l0_3) (hc0_3 : l0_3.length ≤ c0_3) (hr1_3 : Kd.C (Kd.int .i64) w A1_3 l1_3.length l1_3) (hc1_3 : l1_3.length ≤ c1_3) (h : impl_GapOf.f k a0_0 a0_1 a0_2 l0_3 a1_0 a1_1 a1_2 l1_3 = some r) :
    Calls Try.prog 23 #[.agg #[.int .i64 a0_0, .int .i64 a0_1, .int .i64 a0_2, .slice A0_3 l0_3.length c0_3], .agg #[.int .i64 a1_0, .int .i64 a1_1, .int .i64 a1_2, .slice A1_3 l1_3.length c1_3]] w fun e w' => e = .returned (.int .i64 r) ∧ Below w.heap.size w w' := by
  have hu27 := Try.underlying27
  have HR0_3 := Aside0.mk hr0_3
  have HC0_3 := Aside0.mk hc0_3
  clear hr0_3 hc0_3
  have HR1_3 := Aside0.mk hr1_3
  have HC1_3 := Aside0.mk hc1_3
  clear hr1_3 hc1_3
  have HB := Aside0.mk (Below.refl w.heap.size w)
  have H : ((impl_isImage.f a0_0 a0_1 a0_2 l0_3).bind fun t24003 => (if t24003 = true then ((impl_isImage.f a1_0 a1_1 a1_2 l1_3).bind fun t24004 => (if t24004 = true then ((impl_alikeImages.f a0_0 a0_1 a0_2 l0_3 a1_0 a1_1 a1_2 l1_3).bind fun t24005 => (impl_GapOf.j0 k (!t24005) a0_0 a0_1 a0_2 l0_3 a1_0 a1_1 a1_2 l1_3)) else (impl_GapOf.j0 k true a0_0 a0_1 a0_2 l0_3 a1_0 a1_1 a1_2 l1_3))) else (impl_GapOf.j0 k true a0_0 a0_1 a0_2 l0_3 a1_0 a1_1 a1_2 l1_3))) = some r := h
  clear h
  have HC3 := Aside0.mk H
  clear H
  go_enter Try.func23, Try.ntmps23
  go_upto_region 1 with (first | ((with_reducible refine gate_dst (N := 2) rfl ?_); refine box_event ?hg (N := 2) ?hd (cs := #[.int .i64 a0_0, .int .i64 a0_1, .int .i64 a0_2, .slice A0_3 l0_3.length c0_3]) (t := 27) ?hr ?_; (case hd => rfl); (case hg => rfl); (case hr => first | (go_simp; done) | (go_simp; rfl)); intro gb24001 hg w4 hbox hb; have n0_ := Aside0.mk (below_step (by repeat (first | (with_reducible first | exact HB.out | apply below_alloc | apply pw_below_drewN | apply below_drew1) | exact HB.out)) hb); have n1_ := Aside0.mk (hbox); have n2_ := Aside0.mk ((by rw [hg]; exact (below_size (by repeat (first | (with_reducible first | exact HB.out | apply below_alloc | apply pw_below_drewN | apply below_drew1) | exact HB.out))) : w.heap.size ≤ gb24001)); have n3_ := Aside0.mk ((by rw [hg]; exact (below_size (by repeat (first | (with_reducible first | exact HB.out | apply below_alloc | apply pw_below_drewN | apply below_drew1) | exact HB.out))) : w.heap.size ≤ gb24001)); clear HB; have HB := n0_; have BK24001 := n1_; have GW24001 := n2_; have GE24001 := n3_; clear n0_ n1_ n2_ n3_; clear hb hbox hg) | ((with_reducible refine gate_dst (N := 3) rfl ?_); refine box_event ?hg (N := 3) ?hd (cs := #[.int .i64 a1_0, .int .i64 a1_1, .int .i64 a1_2, .slice A1_3 l1_3.length c1_3]) (t := 27) ?hr ?_; (case hd => rfl); (case hg => rfl); (case hr => first | (go_simp; done) | (go_simp; rfl)); intro gb24002 hg w5 hbox hb; have n0_ := Aside0.mk (blk_below (g := gb24001) (o := .cells #[.int .i64 a0_0, .int .i64 a0_1, .int .i64 a0_2, .slice A0_3 l0_3.length c0_3] 27 (0, 0)) (by (with_reducible repeat (first | refine blk_drewN ?_ _ | refine blk_drew ?_ | refine blk_alloc ?_ _)); exact BK24001.out) hb); have n1_ := Aside0.mk (below_step (by repeat (first | (with_reducible first | exact HB.out | apply below_alloc | apply pw_below_drewN | apply below_drew1 | refine below_set ?_ GE24001.out) | exact HB.out)) hb); have n2_ := Aside0.mk (hbox); have n3_ := Aside0.mk ((by rw [hg]; exact (below_size (by repeat (first | (with_reducible first | exact HB.out | apply below_alloc | apply pw_below_drewN | apply below_drew1 | refine below_set ?_ GE24001.out) | exact HB.out))) : w.heap.size ≤ gb24002)); have n4_ := Aside0.mk ((by rw [hg]; exact (below_size (by repeat (first | (with_reducible first | exact HB.out | apply below_alloc | apply pw_below_drewN | apply below_drew1 | refine below_set ?_ GE24001.out) | exact HB.out))) : w.heap.size ≤ gb24002)); have n5_ := Aside0.mk ((by rw [hg]; exact Nat.ne_of_lt (blk_lt (g := gb24001) (o := .cells #[.int .i64 a0_0, .int .i64 a0_1, .int .i64 a0_2, .slice A0_3 l0_3.length c0_3] 27 (0, 0)) (by (with_reducible repeat (first | refine blk_drewN ?_ _ | refine blk_drew ?_ | refine blk_alloc ?_ _)); exact BK24001.out)) : gb24001 ≠ gb24002)); have n6_ := Aside0.mk ((by rw [hg]; exact Nat.ne_of_gt (blk_lt (g := gb24001) (o := .cells #[.int .i64 a0_0, .int .i64 a0_1, .int .i64 a0_2, .slice A0_3 l0_3.length c0_3] 27 (0, 0)) (by (with_reducible repeat (first | refine blk_drewN ?_ _ | refine blk_drew ?_ | refine blk_alloc ?_ _)); exact BK24001.out)) : gb24002 ≠ gb24001)); clear BK24001; clear HB; have BK24001 := n0_; have HB := n1_; have BK24002 := n2_; have GW24002 := n3_; have GE24002 := n4_; have NB24001_24002 := n5_; have NB24002_24001 := n6_; clear n0_ n1_ n2_ n3_ n4_ n5_ n6_; clear hb hbox hg))
  repeat (go_quiet (first | ((with_reducible refine gate_dst (N := 2) rfl ?_); refine box_event ?hg (N := 2) ?hd (cs := #[.int .i64 a0_0, .int .i64 a0_1, .int .i64 a0_2, .slice A0_3 l0_3.length c0_3]) (t := 27) ?hr ?_; (case hd => rfl); (case hg => rfl); (case hr => first | (go_simp; done) | (go_simp; rfl)); intro gb24001 hg w4 hbox hb; have n0_ := Aside0.mk (below_step (by repeat (first | (with_reducible first | exact HB.out | apply below_alloc | apply pw_below_drewN | apply below_drew1) | exact HB.out)) hb); have n1_ := Aside0.mk (hbox); have n2_ := Aside0.mk ((by rw [hg]; exact (below_size (by repeat (first | (with_reducible first | exact HB.out | apply below_alloc | apply pw_below_drewN | apply below_drew1) | exact HB.out))) : w.heap.size ≤ gb24001)); have n3_ := Aside0.mk ((by rw [hg]; exact (below_size (by repeat (first | (with_reducible first | exact HB.out | apply below_alloc | apply pw_below_drewN | apply below_drew1) | exact HB.out))) : w.heap.size ≤ gb24001)); clear HB; have HB := n0_; have BK24001 := n1_; have GW24001 := n2_; have GE24001 := n3_; clear n0_ n1_ n2_ n3_; clear hb hbox hg) | ((with_reducible refine gate_dst (N := 3) rfl ?_); refine box_event ?hg (N := 3) ?hd (cs := #[.int .i64 a1_0, .int .i64 a1_1, .int .i64 a1_2, .slice A1_3 l1_3.length c1_3]) (t := 27) ?hr ?_; (case hd => rfl); (case hg => rfl); (case hr => first | (go_simp; done) | (go_simp; rfl)); intro gb24002 hg w5 hbox hb; have n0_ := Aside0.mk (blk_below (g := gb24001) (o := .cells #[.int .i64 a0_0, .int .i64 a0_1, .int .i64 a0_2, .slice A0_3 l0_3.length c0_3] 27 (0, 0)) (by (with_reducible repeat (first | refine blk_drewN ?_ _ | refine blk_drew ?_ | refine blk_alloc ?_ _)); exact BK24001.out) hb); have n1_ := Aside0.mk (below_step (by repeat (first | (with_reducible first | exact HB.out | apply below_alloc | apply pw_below_drewN | apply below_drew1 | refine below_set ?_ GE24001.out) | exact HB.out)) hb); have n2_ := Aside0.mk (hbox); have n3_ := Aside0.mk ((by rw [hg]; exact (below_size (by repeat (first | (with_reducible first | exact HB.out | apply below_alloc | apply pw_below_drewN | apply below_drew1 | refine below_set ?_ GE24001.out) | exact HB.out))) : w.heap.size ≤ gb24002)); have n4_ := Aside0.mk ((by rw [hg]; exact (below_size (by repeat (first | (with_reducible first | exact HB.out | apply below_alloc | apply pw_below_drewN | apply below_drew1 | refine below_set ?_ GE24001.out) | exact HB.out))) : w.heap.size ≤ gb24002)); have n5_ := Aside0.mk ((by rw [hg]; exact Nat.ne_of_lt (blk_lt (g := gb24001) (o := .cells #[.int .i64 a0_0, .int .i64 a0_1, .int .i64 a0_2, .slice A0_3 l0_3.length c0_3] 27 (0, 0)) (by (with_reducible repeat (first | refine blk_drewN ?_ _ | refine blk_drew ?_ | refine blk_alloc ?_ _)); exact BK24001.out)) : gb24001 ≠ gb24002)); have n6_ := Aside0.mk ((by rw [hg]; exact Nat.ne_of_gt (blk_lt (g := gb24001) (o := .cells #[.int .i64 a0_0, .int .i64 a0_1, .int .i64 a0_2, .slice A0_3 l0_3.length c0_3] 27 (0, 0)) (by (with_reducible repeat (first | refine blk_drewN ?_ _ | refine blk_drew ?_ | refine blk_alloc ?_ _)); exact BK24001.out)) : gb24002 ≠ gb24001)); clear BK24001; clear HB; have BK24001 := n0_; have HB := n1_; have BK24002 := n2_; have GW24002 := n3_; have GE24002 := n4_; have NB24001_24002 := n5_; have NB24002_24001 := n6_; clear n0_ n1_ n2_ n3_ n4_ n5_ n6_; clear hb hbox hg)); go_upto_region 1 with (first | ((with_reducible refine gate_dst (N := 2) rfl ?_); refine box_event ?hg (N := 2) ?hd (cs := #[.int .i64 a0_0, .int .i64 a0_1, .int .i64 a0_2, .slice A0_3 l0_3.length c0_3]) (t := 27) ?hr ?_; (case hd => rfl); (case hg => rfl); (case hr => first | (go_simp; done) | (go_simp; rfl)); intro gb24001 hg w4 hbox hb; have n0_ := Aside0.mk (below_step (by repeat (first | (with_reducible first | exact HB.out | apply below_alloc | apply pw_below_drewN | apply below_drew1) | exact HB.out)) hb); have n1_ := Aside0.mk (hbox); have n2_ := Aside0.mk ((by rw [hg]; exact (below_size (by repeat (first | (with_reducible first | exact HB.out | apply below_alloc | apply pw_below_drewN | apply below_drew1) | exact HB.out))) : w.heap.size ≤ gb24001)); have n3_ := Aside0.mk ((by rw [hg]; exact (below_size (by repeat (first | (with_reducible first | exact HB.out | apply below_alloc | apply pw_below_drewN | apply below_drew1) | exact HB.out))) : w.heap.size ≤ gb24001)); clear HB; have HB := n0_; have BK24001 := n1_; have GW24001 := n2_; have GE24001 := n3_; clear n0_ n1_ n2_ n3_; clear hb hbox hg) | ((with_reducible refine gate_dst (N := 3) rfl ?_); refine box_event ?hg (N := 3) ?hd (cs := #[.int .i64 a1_0, .int .i64 a1_1, .int .i64 a1_2, .slice A1_3 l1_3.length c1_3]) (t := 27) ?hr ?_; (case hd => rfl); (case hg => rfl); (case hr => first | (go_simp; done) | (go_simp; rfl)); intro gb24002 hg w5 hbox hb; have n0_ := Aside0.mk (blk_below (g := gb24001) (o := .cells #[.int .i64 a0_0, .int .i64 a0_1, .int .i64 a0_2, .slice A0_3 l0_3.length c0_3] 27 (0, 0)) (by (with_reducible repeat (first | refine blk_drewN ?_ _ | refine blk_drew ?_ | refine blk_alloc ?_ _)); exact BK24001.out) hb); have n1_ := Aside0.mk (below_step (by repeat (first | (with_reducible first | exact HB.out | apply below_alloc | apply pw_below_drewN | apply below_drew1 | refine below_set ?_ GE24001.out) | exact HB.out)) hb); have n2_ := Aside0.mk (hbox); have n3_ := Aside0.mk ((by rw [hg]; exact (below_size (by repeat (first | (with_reducible first | exact HB.out | apply below_alloc | apply pw_below_drewN | apply below_drew1 | refine below_set ?_ GE24001.out) | exact HB.out))) : w.heap.size ≤ gb24002)); have n4_ := Aside0.mk ((by rw [hg]; exact (below_size (by repeat (first | (with_reducible first | exact HB.out | apply below_alloc | apply pw_below_drewN | apply below_drew1 | refine below_set ?_ GE24001.out) | exact HB.out))) : w.heap.size ≤ gb24002)); have n5_ := Aside0.mk ((by rw [hg]; exact Nat.ne_of_lt (blk_lt (g := gb24001) (o := .cells #[.int .i64 a0_0, .int .i64 a0_1, .int .i64 a0_2, .slice A0_3 l0_3.length c0_3] 27 (0, 0)) (by (with_reducible repeat (first | refine blk_drewN ?_ _ | refine blk_drew ?_ | refine blk_alloc ?_ _)); exact BK24001.out)) : gb24001 ≠ gb24002)); have n6_ := Aside0.mk ((by rw [hg]; exact Nat.ne_of_gt (blk_lt (g := gb24001) (o := .cells #[.int .i64 a0_0, .int .i64 a0_1, .int .i64 a0_2, .slice A0_3 l0_3.length c0_3] 27 (0, 0)) (by (with_reducible repeat (first | refine blk_drewN ?_ _ | refine blk_drew ?_ | refine blk_alloc ?_ _)); exact BK24001.out)) : gb24002 ≠ gb24001)); clear BK24001; clear HB; have BK24001 := n0_; have HB := n1_; have BK24002 := n2_; have GW24002 := n3_; have GE24002 := n4_; have NB24001_24002 := n5_; have NB24002_24001 := n6_; clear n0_ n1_ n2_ n3_ n4_ n5_ n6_; clear hb hbox hg)))
  (try simp only [Act.put, List.setIfInBounds_toArray, List.set_cons_zero, List.set_cons_succ])
  go_cut [21] (fun v21 wc => ∃ (kq : Nat) (x21_2 : Bool), v21 = .bool x21_2 ∧ Aside0 (impl_GapOf.j0 kq x21_2 a0_0 a0_1 a0_2 l0_3 a1_0 a1_1 a1_2 l1_3 = some r) ∧ Aside0 (kq ≤ k) ∧ Aside0 (wc.heap[gb24001]? = some (.cells #[.int .i64 a0_0, .int .i64 a0_1, .int .i64 a0_2, (.slice A0_3 l0_3.length c0_3)] 27 (0, 0))) ∧ Aside0 (wc.heap[gb24002]? = some (.cells #[.int .i64 a1_0, .int .i64 a1_1, .int .i64 a1_2, (.slice A1_3 l1_3.length c1_3)] 27 (0, 0))) ∧ Aside0 (Below w.heap.size w wc))
  case first =>
    have H := HC3.out
    clear HC3
    replace H := Option.bind_eq_some_iff.mp H
    obtain ⟨t24003, A60, H⟩ := H
    replace H : (if t24003 = true then ((impl_isImage.f a1_0 a1_1 a1_2 l1_3).bind fun t24004 => (if t24004 = true then ((impl_alikeImages.f a0_0 a0_1 a0_2 l0_3 a1_0 a1_1 a1_2 l1_3).bind fun t24005 => (impl_GapOf.j0 k (!t24005) a0_0 a0_1 a0_2 l0_3 a1_0 a1_1 a1_2 l1_3)) else (impl_GapOf.j0 k true a0_0 a0_1 a0_2 l0_3 a1_0 a1_1 a1_2 l1_3))) else (impl_GapOf.j0 k true a0_0 a0_1 a0_2 l0_3 a1_0 a1_1 a1_2 l1_3)) = some r := H
    have A6 := Aside0.mk A60
    clear A60
    by_cases c7 : t24003 = true
    · subst c7
      have H1 : ((impl_isImage.f a1_0 a1_1 a1_2 l1_3).bind fun t24004 => (if t24004 = true then ((impl_alikeImages.f a0_0 a0_1 a0_2 l0_3 a1_0 a1_1 a1_2 l1_3).bind fun t24005 => (impl_GapOf.j0 k (!t24005) a0_0 a0_1 a0_2 l0_3 a1_0 a1_1 a1_2 l1_3)) else (impl_GapOf.j0 k true a0_0 a0_1 a0_2 l0_3 a1_0 a1_1 a1_2 l1_3))) = some r := by rw [if_pos rfl] at H; exact H
      clear H
      have H := H1
      clear H1
      replace H := Option.bind_eq_some_iff.mp H
      obtain ⟨t24004, A80, H⟩ := H
      replace H : (if t24004 = true then ((impl_alikeImages.f a0_0 a0_1 a0_2 l0_3 a1_0 a1_1 a1_2 l1_3).bind fun t24005 => (impl_GapOf.j0 k (!t24005) a0_0 a0_1 a0_2 l0_3 a1_0 a1_1 a1_2 l1_3)) else (impl_GapOf.j0 k true a0_0 a0_1 a0_2 l0_3 a1_0 a1_1 a1_2 l1_3)) = some r := H
      have A8 := Aside0.mk A80
      clear A80
      by_cases c9 : t24004 = true
      · subst c9
        have H1 : ((impl_alikeImages.f a0_0 a0_1 a0_2 l0_3 a1_0 a1_1 a1_2 l1_3).bind fun t24005 => (impl_GapOf.j0 k (!t24005) a0_0 a0_1 a0_2 l0_3 a1_0 a1_1 a1_2 l1_3)) = some r := by rw [if_pos rfl] at H; exact H
        clear H
        have H := H1
        clear H1
        replace H := Option.bind_eq_some_iff.mp H
        obtain ⟨t24005, A100, H⟩ := H
        replace H : (impl_GapOf.j0 k (!t24005) a0_0 a0_1 a0_2 l0_3 a1_0 a1_1 a1_2 l1_3) = some r := H
        have A10 := Aside0.mk A100
        clear A100
        have H' := Aside0.mk H
        clear H
        have hnb11 := NB24001_24002.out
        have hnc11 := NB24002_24001.out
        have hcz12_0 : w5.cell? ⟨gb24001, 0, none⟩ = some (.int .i64 a0_0) := (blk_cell BK24001.out 0).trans rfl
        have hcz12_1 : w5.cell? ⟨gb24001, 1, none⟩ = some (.int .i64 a0_1) := (blk_cell BK24001.out 1).trans rfl
        have hcz12_2 : w5.cell? ⟨gb24001, 2, none⟩ = some (.int .i64 a0_2) := (blk_cell BK24001.out 2).trans rfl
        have hcz12_3 : w5.cell? ⟨gb24001, 3, none⟩ = some (.slice A0_3 l0_3.length c0_3) := (blk_cell BK24001.out 3).trans rfl
        have hfz12_0 := blk_frozen BK24001.out 0
        have hfz12_1 := blk_frozen BK24001.out 1
        have hfz12_2 := blk_frozen BK24001.out 2
        have hfz12_3 := blk_frozen BK24001.out 3
        go_wp2_with (first | (go_at_call 83; (with_reducible refine (impl_isImage.calls a0_0 a0_1 a0_2 _ _ l0_3 true _ ?side1 ?side2 A6.out).mono ?_); (case side1 => repeat (first | exact (Kd.C_below HR0_3.out HB.out) | (with_reducible refine Kd.C_alloc ?_ _) | (with_reducible refine Kd.C_drewN ?_ _) | (with_reducible refine Kd.C_drew ?_))); (case side2 => exact HC0_3.out); rintro e w13 ⟨rfl, hb⟩; have n0_ := Aside0.mk (blk_below (g := gb24001) (o := .cells #[.int .i64 a0_0, .int .i64 a0_1, .int .i64 a0_2, .slice A0_3 l0_3.length c0_3] 27 (0, 0)) (by (with_reducible repeat (first | refine blk_drewN ?_ _ | refine blk_drew ?_ | refine blk_alloc ?_ _)); exact BK24001.out) hb); have n1_ := Aside0.mk (blk_below (g := gb24002) (o := .cells #[.int .i64 a1_0, .int .i64 a1_1, .int .i64 a1_2, .slice A1_3 l1_3.length c1_3] 27 (0, 0)) (by (with_reducible repeat (first | refine blk_drewN ?_ _ | refine blk_drew ?_ | refine blk_alloc ?_ _)); exact BK24002.out) hb); have n2_ := Aside0.mk (below_step (by repeat (first | (with_reducible first | exact HB.out | apply below_alloc | apply pw_below_drewN | apply below_drew1 | refine below_set ?_ GE24001.out | refine below_set ?_ GE24002.out) | exact HB.out)) hb); clear BK24001; clear BK24002; clear HB; have BK24001 := n0_; have BK24002 := n1_; have HB := n2_; clear n0_ n1_ n2_; (try clear hb); (try clear hb2); (try clear hk); (try clear hi); have hcz14_0 : w13.cell? ⟨gb24002, 0, none⟩ = some (.int .i64 a1_0) := (blk_cell BK24002.out 0).trans rfl; have hcz14_1 : w13.cell? ⟨gb24002, 1, none⟩ = some (.int .i64 a1_1) := (blk_cell BK24002.out 1).trans rfl; have hcz14_2 : w13.cell? ⟨gb24002, 2, none⟩ = some (.int .i64 a1_2) := (blk_cell BK24002.out 2).trans rfl; have hcz14_3 : w13.cell? ⟨gb24002, 3, none⟩ = some (.slice A1_3 l1_3.length c1_3) := (blk_cell BK24002.out 3).trans rfl; have hfz14_0 := blk_frozen BK24002.out 0; have hfz14_1 := blk_frozen BK24002.out 1; have hfz14_2 := blk_frozen BK24002.out 2; have hfz14_3 := blk_frozen BK24002.out 3) | (go_at_call 83; (with_reducible refine (impl_isImage.calls a1_0 a1_1 a1_2 _ _ l1_3 true _ ?side1 ?side2 A8.out).mono ?_); (case side1 => repeat (first | exact (Kd.C_below HR1_3.out HB.out) | (with_reducible refine Kd.C_alloc ?_ _) | (with_reducible refine Kd.C_drewN ?_ _) | (with_reducible refine Kd.C_drew ?_))); (case side2 => exact HC1_3.out); rintro e w15 ⟨rfl, hb⟩; have n0_ := Aside0.mk (blk_below (g := gb24001) (o := .cells #[.int .i64 a0_0, .int .i64 a0_1, .int .i64 a0_2, .slice A0_3 l0_3.length c0_3] 27 (0, 0)) (by (with_reducible repeat (first | refine blk_drewN ?_ _ | refine blk_drew ?_ | refine blk_alloc ?_ _)); exact BK24001.out) hb); have n1_ := Aside0.mk (blk_below (g := gb24002) (o := .cells #[.int .i64 a1_0, .int .i64 a1_1, .int .i64 a1_2, .slice A1_3 l1_3.length c1_3] 27 (0, 0)) (by (with_reducible repeat (first | refine blk_drewN ?_ _ | refine blk_drew ?_ | refine blk_alloc ?_ _)); exact BK24002.out) hb); have n2_ := Aside0.mk (below_step (by repeat (first | (with_reducible first | exact HB.out | apply below_alloc | apply pw_below_drewN | apply below_drew1 | refine below_set ?_ GE24001.out | refine below_set ?_ GE24002.out) | exact HB.out)) hb); clear BK24001; clear BK24002; clear HB; have BK24001 := n0_; have BK24002 := n1_; have HB := n2_; clear n0_ n1_ n2_; (try clear hb); (try clear hb2); (try clear hk); (try clear hi); have hcz16_0 : w15.cell? ⟨gb24001, 0, none⟩ = some (.int .i64 a0_0) := (blk_cell BK24001.out 0).trans rfl; have hcz16_1 : w15.cell? ⟨gb24001, 1, none⟩ = some (.int .i64 a0_1) := (blk_cell BK24001.out 1).trans rfl; have hcz16_2 : w15.cell? ⟨gb24001, 2, none⟩ = some (.int .i64 a0_2) := (blk_cell BK24001.out 2).trans rfl; have hcz16_3 : w15.cell? ⟨gb24001, 3, none⟩ = some (.slice A0_3 l0_3.length c0_3) := (blk_cell BK24001.out 3).trans rfl; have hfz16_0 := blk_frozen BK24001.out 0; have hfz16_1 := blk_frozen BK24001.out 1; have hfz16_2 := blk_frozen BK24001.out 2; have hfz16_3 := blk_frozen BK24001.out 3; have hcz17_0 : w15.cell? ⟨gb24002, 0, none⟩ = some (.int .i64 a1_0) := (blk_cell BK24002.out 0).trans rfl; have hcz17_1 : w15.cell? ⟨gb24002, 1, none⟩ = some (.int .i64 a1_1) := (blk_cell BK24002.out 1).trans rfl; have hcz17_2 : w15.cell? ⟨gb24002, 2, none⟩ = some (.int .i64 a1_2) := (blk_cell BK24002.out 2).trans rfl; have hcz17_3 : w15.cell? ⟨gb24002, 3, none⟩ = some (.slice A1_3 l1_3.length c1_3) := (blk_cell BK24002.out 3).trans rfl; have hfz17_0 := blk_frozen BK24002.out 0; have hfz17_1 := blk_frozen BK24002.out 1; have hfz17_2 := blk_frozen BK24002.out 2; have hfz17_3 := blk_frozen BK24002.out 3) | (go_at_call 84; (with_reducible refine (impl_alikeImages.calls a0_0 a0_1 a0_2 _ _ l0_3 a1_0 a1_1 a1_2 _ _ l1_3 t24005 _ ?side1 ?side2 ?side3 ?side4 A10.out).mono ?_); (case side1 => repeat (first | exact (Kd.C_below HR0_3.out HB.out) | (with_reducible refine Kd.C_alloc ?_ _) | (with_reducible refine Kd.C_drewN ?_ _) | (with_reducible refine Kd.C_drew ?_))); (case side2 => exact HC0_3.out); (case side3 => repeat (first | exact (Kd.C_below HR1_3.out HB.out) | (with_reducible refine Kd.C_alloc ?_ _) | (with_reducible refine Kd.C_drewN ?_ _) | (with_reducible refine Kd.C_drew ?_))); (case side4 => exact HC1_3.out); rintro e w18 ⟨rfl, hb⟩; have n0_ := Aside0.mk (blk_below (g := gb24001) (o := .cells #[.int .i64 a0_0, .int .i64 a0_1, .int .i64 a0_2, .slice A0_3 l0_3.length c0_3] 27 (0, 0)) (by (with_reducible repeat (first | refine blk_drewN ?_ _ | refine blk_drew ?_ | refine blk_alloc ?_ _)); exact BK24001.out) hb); have n1_ := Aside0.mk (blk_below (g := gb24002) (o := .cells #[.int .i64 a1_0, .int .i64 a1_1, .int .i64 a1_2, .slice A1_3 l1_3.length c1_3] 27 (0, 0)) (by (with_reducible repeat (first | refine blk_drewN ?_ _ | refine blk_drew ?_ | refine blk_alloc ?_ _)); exact BK24002.out) hb); have n2_ := Aside0.mk (below_step (by repeat (first | (with_reducible first | exact HB.out | apply below_alloc | apply pw_below_drewN | apply below_drew1 | refine below_set ?_ GE24001.out | refine below_set ?_ GE24002.out) | exact HB.out)) hb); clear BK24001; clear BK24002; clear HB; have BK24001 := n0_; have BK24002 := n1_; have HB := n2_; clear n0_ n1_ n2_; (try clear hb); (try clear hb2); (try clear hk); (try clear hi)))
        repeat (go_quiet (first | (go_at_call 83; (with_reducible refine (impl_isImage.calls a0_0 a0_1 a0_2 _ _ l0_3 true _ ?side1 ?side2 A6.out).mono ?_); (case side1 => repeat (first | exact (Kd.C_below HR0_3.out HB.out) | (with_reducible refine Kd.C_alloc ?_ _) | (with_reducible refine Kd.C_drewN ?_ _) | (with_reducible refine Kd.C_drew ?_))); (case side2 => exact HC0_3.out); rintro e w13 ⟨rfl, hb⟩; have n0_ := Aside0.mk (blk_below (g := gb24001) (o := .cells #[.int .i64 a0_0, .int .i64 a0_1, .int .i64 a0_2, .slice A0_3 l0_3.length c0_3] 27 (0, 0)) (by (with_reducible repeat (first | refine blk_drewN ?_ _ | refine blk_drew ?_ | refine blk_alloc ?_ _)); exact BK24001.out) hb); have n1_ := Aside0.mk (blk_below (g := gb24002) (o := .cells #[.int .i64 a1_0, .int .i64 a1_1, .int .i64 a1_2, .slice A1_3 l1_3.length c1_3] 27 (0, 0)) (by (with_reducible repeat (first | refine blk_drewN ?_ _ | refine blk_drew ?_ | refine blk_alloc ?_ _)); exact BK24002.out) hb); have n2_ := Aside0.mk (below_step (by repeat (first | (with_reducible first | exact HB.out | apply below_alloc | apply pw_below_drewN | apply below_drew1 | refine below_set ?_ GE24001.out | refine below_set ?_ GE24002.out) | exact HB.out)) hb); clear BK24001; clear BK24002; clear HB; have BK24001 := n0_; have BK24002 := n1_; have HB := n2_; clear n0_ n1_ n2_; (try clear hb); (try clear hb2); (try clear hk); (try clear hi); have hcz14_0 : w13.cell? ⟨gb24002, 0, none⟩ = some (.int .i64 a1_0) := (blk_cell BK24002.out 0).trans rfl; have hcz14_1 : w13.cell? ⟨gb24002, 1, none⟩ = some (.int .i64 a1_1) := (blk_cell BK24002.out 1).trans rfl; have hcz14_2 : w13.cell? ⟨gb24002, 2, none⟩ = some (.int .i64 a1_2) := (blk_cell BK24002.out 2).trans rfl; have hcz14_3 : w13.cell? ⟨gb24002, 3, none⟩ = some (.slice A1_3 l1_3.length c1_3) := (blk_cell BK24002.out 3).trans rfl; have hfz14_0 := blk_frozen BK24002.out 0; have hfz14_1 := blk_frozen BK24002.out 1; have hfz14_2 := blk_frozen BK24002.out 2; have hfz14_3 := blk_frozen BK24002.out 3) | (go_at_call 83; (with_reducible refine (impl_isImage.calls a1_0 a1_1 a1_2 _ _ l1_3 true _ ?side1 ?side2 A8.out).mono ?_); (case side1 => repeat (first | exact (Kd.C_below HR1_3.out HB.out) | (with_reducible refine Kd.C_alloc ?_ _) | (with_reducible refine Kd.C_drewN ?_ _) | (with_reducible refine Kd.C_drew ?_))); (case side2 => exact HC1_3.out); rintro e w15 ⟨rfl, hb⟩; have n0_ := Aside0.mk (blk_below (g := gb24001) (o := .cells #[.int .i64 a0_0, .int .i64 a0_1, .int .i64 a0_2, .slice A0_3 l0_3.length c0_3] 27 (0, 0)) (by (with_reducible repeat (first | refine blk_drewN ?_ _ | refine blk_drew ?_ | refine blk_alloc ?_ _)); exact BK24001.out) hb); have n1_ := Aside0.mk (blk_below (g := gb24002) (o := .cells #[.int .i64 a1_0, .int .i64 a1_1, .int .i64 a1_2, .slice A1_3 l1_3.length c1_3] 27 (0, 0)) (by (with_reducible repeat (first | refine blk_drewN ?_ _ | refine blk_drew ?_ | refine blk_alloc ?_ _)); exact BK24002.out) hb); have n2_ := Aside0.mk (below_step (by repeat (first | (with_reducible first | exact HB.out | apply below_alloc | apply pw_below_drewN | apply below_drew1 | refine below_set ?_ GE24001.out | refine below_set ?_ GE24002.out) | exact HB.out)) hb); clear BK24001; clear BK24002; clear HB; have BK24001 := n0_; have BK24002 := n1_; have HB := n2_; clear n0_ n1_ n2_; (try clear hb); (try clear hb2); (try clear hk); (try clear hi); have hcz16_0 : w15.cell? ⟨gb24001, 0, none⟩ = some (.int .i64 a0_0) := (blk_cell BK24001.out 0).trans rfl; have hcz16_1 : w15.cell? ⟨gb24001, 1, none⟩ = some (.int .i64 a0_1) := (blk_cell BK24001.out 1).trans rfl; have hcz16_2 : w15.cell? ⟨gb24001, 2, none⟩ = some (.int .i64 a0_2) := (blk_cell BK24001.out 2).trans rfl; have hcz16_3 : w15.cell? ⟨gb24001, 3, none⟩ = some (.slice A0_3 l0_3.length c0_3) := (blk_cell BK24001.out 3).trans rfl; have hfz16_0 := blk_frozen BK24001.out 0; have hfz16_1 := blk_frozen BK24001.out 1; have hfz16_2 := blk_frozen BK24001.out 2; have hfz16_3 := blk_frozen BK24001.out 3; have hcz17_0 : w15.cell? ⟨gb24002, 0, none⟩ = some (.int .i64 a1_0) := (blk_cell BK24002.out 0).trans rfl; have hcz17_1 : w15.cell? ⟨gb24002, 1, none⟩ = some (.int .i64 a1_1) := (blk_cell BK24002.out 1).trans rfl; have hcz17_2 : w15.cell? ⟨gb24002, 2, none⟩ = some (.int .i64 a1_2) := (blk_cell BK24002.out 2).trans rfl; have hcz17_3 : w15.cell? ⟨gb24002, 3, none⟩ = some (.slice A1_3 l1_3.length c1_3) := (blk_cell BK24002.out 3).trans rfl; have hfz17_0 := blk_frozen BK24002.out 0; have hfz17_1 := blk_frozen BK24002.out 1; have hfz17_2 := blk_frozen BK24002.out 2; have hfz17_3 := blk_frozen BK24002.out 3) | (go_at_call 84; (with_reducible refine (impl_alikeImages.calls a0_0 a0_1 a0_2 _ _ l0_3 a1_0 a1_1 a1_2 _ _ l1_3 t24005 _ ?side1 ?side2 ?side3 ?side4 A10.out).mono ?_); (case side1 => repeat (first | exact (Kd.C_below HR0_3.out HB.out) | (with_reducible refine Kd.C_alloc ?_ _) | (with_reducible refine Kd.C_drewN ?_ _) | (with_reducible refine Kd.C_drew ?_))); (case side2 => exact HC0_3.out); (case side3 => repeat (first | exact (Kd.C_below HR1_3.out HB.out) | (with_reducible refine Kd.C_alloc ?_ _) | (with_reducible refine Kd.C_drewN ?_ _) | (with_reducible refine Kd.C_drew ?_))); (case side4 => exact HC1_3.out); rintro e w18 ⟨rfl, hb⟩; have n0_ := Aside0.mk (blk_below (g := gb24001) (o := .cells #[.int .i64 a0_0, .int .i64 a0_1, .int .i64 a0_2, .slice A0_3 l0_3.length c0_3] 27 (0, 0)) (by (with_reducible repeat (first | refine blk_drewN ?_ _ | refine blk_drew ?_ | refine blk_alloc ?_ _)); exact BK24001.out) hb); have n1_ := Aside0.mk (blk_below (g := gb24002) (o := .cells #[.int .i64 a1_0, .int .i64 a1_1, .int .i64 a1_2, .slice A1_3 l1_3.length c1_3] 27 (0, 0)) (by (with_reducible repeat (first | refine blk_drewN ?_ _ | refine blk_drew ?_ | refine blk_alloc ?_ _)); exact BK24002.out) hb); have n2_ := Aside0.mk (below_step (by repeat (first | (with_reducible first | exact HB.out | apply below_alloc | apply pw_below_drewN | apply below_drew1 | refine below_set ?_ GE24001.out | refine below_set ?_ GE24002.out) | exact HB.out)) hb); clear BK24001; clear BK24002; clear HB; have BK24001 := n0_; have BK24002 := n1_; have HB := n2_; clear n0_ n1_ n2_; (try clear hb); (try clear hb2); (try clear hk); (try clear hi))); try go_wp2_with (first | (go_at_call 83; (with_reducible refine (impl_isImage.calls a0_0 a0_1 a0_2 _ _ l0_3 true _ ?side1 ?side2 A6.out).mono ?_); (case side1 => repeat (first | exact (Kd.C_below HR0_3.out HB.out) | (with_reducible refine Kd.C_alloc ?_ _) | (with_reducible refine Kd.C_drewN ?_ _) | (with_reducible refine Kd.C_drew ?_))); (case side2 => exact HC0_3.out); rintro e w13 ⟨rfl, hb⟩; have n0_ := Aside0.mk (blk_below (g := gb24001) (o := .cells #[.int .i64 a0_0, .int .i64 a0_1, .int .i64 a0_2, .slice A0_3 l0_3.length c0_3] 27 (0, 0)) (by (with_reducible repeat (first | refine blk_drewN ?_ _ | refine blk_drew ?_ | refine blk_alloc ?_ _)); exact BK24001.out) hb); have n1_ := Aside0.mk (blk_below (g := gb24002) (o := .cells #[.int .i64 a1_0, .int .i64 a1_1, .int .i64 a1_2, .slice A1_3 l1_3.length c1_3] 27 (0, 0)) (by (with_reducible repeat (first | refine blk_drewN ?_ _ | refine blk_drew ?_ | refine blk_alloc ?_ _)); exact BK24002.out) hb); have n2_ := Aside0.mk (below_step (by repeat (first | (with_reducible first | exact HB.out | apply below_alloc | apply pw_below_drewN | apply below_drew1 | refine below_set ?_ GE24001.out | refine below_set ?_ GE24002.out) | exact HB.out)) hb); clear BK24001; clear BK24002; clear HB; have BK24001 := n0_; have BK24002 := n1_; have HB := n2_; clear n0_ n1_ n2_; (try clear hb); (try clear hb2); (try clear hk); (try clear hi); have hcz14_0 : w13.cell? ⟨gb24002, 0, none⟩ = some (.int .i64 a1_0) := (blk_cell BK24002.out 0).trans rfl; have hcz14_1 : w13.cell? ⟨gb24002, 1, none⟩ = some (.int .i64 a1_1) := (blk_cell BK24002.out 1).trans rfl; have hcz14_2 : w13.cell? ⟨gb24002, 2, none⟩ = some (.int .i64 a1_2) := (blk_cell BK24002.out 2).trans rfl; have hcz14_3 : w13.cell? ⟨gb24002, 3, none⟩ = some (.slice A1_3 l1_3.length c1_3) := (blk_cell BK24002.out 3).trans rfl; have hfz14_0 := blk_frozen BK24002.out 0; have hfz14_1 := blk_frozen BK24002.out 1; have hfz14_2 := blk_frozen BK24002.out 2; have hfz14_3 := blk_frozen BK24002.out 3) | (go_at_call 83; (with_reducible refine (impl_isImage.calls a1_0 a1_1 a1_2 _ _ l1_3 true _ ?side1 ?side2 A8.out).mono ?_); (case side1 => repeat (first | exact (Kd.C_below HR1_3.out HB.out) | (with_reducible refine Kd.C_alloc ?_ _) | (with_reducible refine Kd.C_drewN ?_ _) | (with_reducible refine Kd.C_drew ?_))); (case side2 => exact HC1_3.out); rintro e w15 ⟨rfl, hb⟩; have n0_ := Aside0.mk (blk_below (g := gb24001) (o := .cells #[.int .i64 a0_0, .int .i64 a0_1, .int .i64 a0_2, .slice A0_3 l0_3.length c0_3] 27 (0, 0)) (by (with_reducible repeat (first | refine blk_drewN ?_ _ | refine blk_drew ?_ | refine blk_alloc ?_ _)); exact BK24001.out) hb); have n1_ := Aside0.mk (blk_below (g := gb24002) (o := .cells #[.int .i64 a1_0, .int .i64 a1_1, .int .i64 a1_2, .slice A1_3 l1_3.length c1_3] 27 (0, 0)) (by (with_reducible repeat (first | refine blk_drewN ?_ _ | refine blk_drew ?_ | refine blk_alloc ?_ _)); exact BK24002.out) hb); have n2_ := Aside0.mk (below_step (by repeat (first | (with_reducible first | exact HB.out | apply below_alloc | apply pw_below_drewN | apply below_drew1 | refine below_set ?_ GE24001.out | refine below_set ?_ GE24002.out) | exact HB.out)) hb); clear BK24001; clear BK24002; clear HB; have BK24001 := n0_; have BK24002 := n1_; have HB := n2_; clear n0_ n1_ n2_; (try clear hb); (try clear hb2); (try clear hk); (try clear hi); have hcz16_0 : w15.cell? ⟨gb24001, 0, none⟩ = some (.int .i64 a0_0) := (blk_cell BK24001.out 0).trans rfl; have hcz16_1 : w15.cell? ⟨gb24001, 1, none⟩ = some (.int .i64 a0_1) := (blk_cell BK24001.out 1).trans rfl; have hcz16_2 : w15.cell? ⟨gb24001, 2, none⟩ = some (.int .i64 a0_2) := (blk_cell BK24001.out 2).trans rfl; have hcz16_3 : w15.cell? ⟨gb24001, 3, none⟩ = some (.slice A0_3 l0_3.length c0_3) := (blk_cell BK24001.out 3).trans rfl; have hfz16_0 := blk_frozen BK24001.out 0; have hfz16_1 := blk_frozen BK24001.out 1; have hfz16_2 := blk_frozen BK24001.out 2; have hfz16_3 := blk_frozen BK24001.out 3; have hcz17_0 : w15.cell? ⟨gb24002, 0, none⟩ = some (.int .i64 a1_0) := (blk_cell BK24002.out 0).trans rfl; have hcz17_1 : w15.cell? ⟨gb24002, 1, none⟩ = some (.int .i64 a1_1) := (blk_cell BK24002.out 1).trans rfl; have hcz17_2 : w15.cell? ⟨gb24002, 2, none⟩ = some (.int .i64 a1_2) := (blk_cell BK24002.out 2).trans rfl; have hcz17_3 : w15.cell? ⟨gb24002, 3, none⟩ = some (.slice A1_3 l1_3.length c1_3) := (blk_cell BK24002.out 3).trans rfl; have hfz17_0 := blk_frozen BK24002.out 0; have hfz17_1 := blk_frozen BK24002.out 1; have hfz17_2 := blk_frozen BK24002.out 2; have hfz17_3 := blk_frozen BK24002.out 3) | (go_at_call 84; (with_reducible refine (impl_alikeImages.calls a0_0 a0_1 a0_2 _ _ l0_3 a1_0 a1_1 a1_2 _ _ l1_3 t24005 _ ?side1 ?side2 ?side3 ?side4 A10.out).mono ?_); (case side1 => repeat (first | exact (Kd.C_below HR0_3.out HB.out) | (with_reducible refine Kd.C_alloc ?_ _) | (with_reducible refine Kd.C_drewN ?_ _) | (with_reducible refine Kd.C_drew ?_))); (case side2 => exact HC0_3.out); (case side3 => repeat (first | exact (Kd.C_below HR1_3.out HB.out) | (with_reducible refine Kd.C_alloc ?_ _) | (with_reducible refine Kd.C_drewN ?_ _) | (with_reducible refine Kd.C_drew ?_))); (case side4 => exact HC1_3.out); rintro e w18 ⟨rfl, hb⟩; have n0_ := Aside0.mk (blk_below (g := gb24001) (o := .cells #[.int .i64 a0_0, .int .i64 a0_1, .int .i64 a0_2, .slice A0_3 l0_3.length c0_3] 27 (0, 0)) (by (with_reducible repeat (first | refine blk_drewN ?_ _ | refine blk_drew ?_ | refine blk_alloc ?_ _)); exact BK24001.out) hb); have n1_ := Aside0.mk (blk_below (g := gb24002) (o := .cells #[.int .i64 a1_0, .int .i64 a1_1, .int .i64 a1_2, .slice A1_3 l1_3.length c1_3] 27 (0, 0)) (by (with_reducible repeat (first | refine blk_drewN ?_ _ | refine blk_drew ?_ | refine blk_alloc ?_ _)); exact BK24002.out) hb); have n2_ := Aside0.mk (below_step (by repeat (first | (with_reducible first | exact HB.out | apply below_alloc | apply pw_below_drewN | apply below_drew1 | refine below_set ?_ GE24001.out | refine below_set ?_ GE24002.out) | exact HB.out)) hb); clear BK24001; clear BK24002; clear HB; have BK24001 := n0_; have BK24002 := n1_; have HB := n2_; clear n0_ n1_ n2_; (try clear hb); (try clear hb2); (try clear hk); (try clear hi))))
        go_meet
        case rel => exact ⟨_, (!t24005), (by first | rfl | (simp; done) | (simp [*]; done)), H', ⟨by first | omega | exact Nat.le_refl _⟩, ⟨by (with_reducible repeat (first | refine blk_drewN ?_ _ | refine blk_drew ?_ | refine blk_alloc ?_ _)); exact BK24001.out⟩, ⟨by (with_reducible repeat (first | refine blk_drewN ?_ _ | refine blk_drew ?_ | refine blk_alloc ?_ _)); exact BK24002.out⟩, ⟨by repeat (first | (with_reducible first | exact HB.out | apply below_alloc | apply pw_below_drewN | apply below_drew1 | refine below_set ?_ GE24001.out | refine below_set ?_ GE24002.out) | exact HB.out)⟩⟩
      · replace c9 := Bool.eq_false_iff.mpr c9
        subst c9
        have H1 : (impl_GapOf.j0 k true a0_0 a0_1 a0_2 l0_3 a1_0 a1_1 a1_2 l1_3) = some r := by rw [if_neg (show ¬ (false = true) by decide)] at H; exact H
        clear H
        have H := H1
        clear H1
        have H' := Aside0.mk H
        clear H
        have hnb19 := NB24001_24002.out
        have hnc19 := NB24002_24001.out
        have hcz20_0 : w5.cell? ⟨gb24001, 0, none⟩ = some (.int .i64 a0_0) := (blk_cell BK24001.out 0).trans rfl
        have hcz20_1 : w5.cell? ⟨gb24001, 1, none⟩ = some (.int .i64 a0_1) := (blk_cell BK24001.out 1).trans rfl
        have hcz20_2 : w5.cell? ⟨gb24001, 2, none⟩ = some (.int .i64 a0_2) := (blk_cell BK24001.out 2).trans rfl
        have hcz20_3 : w5.cell? ⟨gb24001, 3, none⟩ = some (.slice A0_3 l0_3.length c0_3) := (blk_cell BK24001.out 3).trans rfl
        have hfz20_0 := blk_frozen BK24001.out 0
        have hfz20_1 := blk_frozen BK24001.out 1
        have hfz20_2 := blk_frozen BK24001.out 2
        have hfz20_3 := blk_frozen BK24001.out 3
        go_wp2_with (first | (go_at_call 83; (with_reducible refine (impl_isImage.calls a0_0 a0_1 a0_2 _ _ l0_3 true _ ?side1 ?side2 A6.out).mono ?_); (case side1 => repeat (first | exact (Kd.C_below HR0_3.out HB.out) | (with_reducible refine Kd.C_alloc ?_ _) | (with_reducible refine Kd.C_drewN ?_ _) | (with_reducible refine Kd.C_drew ?_))); (case side2 => exact HC0_3.out); rintro e w21 ⟨rfl, hb⟩; have n0_ := Aside0.mk (blk_below (g := gb24001) (o := .cells #[.int .i64 a0_0, .int .i64 a0_1, .int .i64 a0_2, .slice A0_3 l0_3.length c0_3] 27 (0, 0)) (by (with_reducible repeat (first | refine blk_drewN ?_ _ | refine blk_drew ?_ | refine blk_alloc ?_ _)); exact BK24001.out) hb); have n1_ := Aside0.mk (blk_below (g := gb24002) (o := .cells #[.int .i64 a1_0, .int .i64 a1_1, .int .i64 a1_2, .slice A1_3 l1_3.length c1_3] 27 (0, 0)) (by (with_reducible repeat (first | refine blk_drewN ?_ _ | refine blk_drew ?_ | refine blk_alloc ?_ _)); exact BK24002.out) hb); have n2_ := Aside0.mk (below_step (by repeat (first | (with_reducible first | exact HB.out | apply below_alloc | apply pw_below_drewN | apply below_drew1 | refine below_set ?_ GE24001.out | refine below_set ?_ GE24002.out) | exact HB.out)) hb); clear BK24001; clear BK24002; clear HB; have BK24001 := n0_; have BK24002 := n1_; have HB := n2_; clear n0_ n1_ n2_; (try clear hb); (try clear hb2); (try clear hk); (try clear hi); have hcz22_0 : w21.cell? ⟨gb24002, 0, none⟩ = some (.int .i64 a1_0) := (blk_cell BK24002.out 0).trans rfl; have hcz22_1 : w21.cell? ⟨gb24002, 1, none⟩ = some (.int .i64 a1_1) := (blk_cell BK24002.out 1).trans rfl; have hcz22_2 : w21.cell? ⟨gb24002, 2, none⟩ = some (.int .i64 a1_2) := (blk_cell BK24002.out 2).trans rfl; have hcz22_3 : w21.cell? ⟨gb24002, 3, none⟩ = some (.slice A1_3 l1_3.length c1_3) := (blk_cell BK24002.out 3).trans rfl; have hfz22_0 := blk_frozen BK24002.out 0; have hfz22_1 := blk_frozen BK24002.out 1; have hfz22_2 := blk_frozen BK24002.out 2; have hfz22_3 := blk_frozen BK24002.out 3) | (go_at_call 83; (with_reducible refine (impl_isImage.calls a1_0 a1_1 a1_2 _ _ l1_3 false _ ?side1 ?side2 A8.out).mono ?_); (case side1 => repeat (first | exact (Kd.C_below HR1_3.out HB.out) | (with_reducible refine Kd.C_alloc ?_ _) | (with_reducible refine Kd.C_drewN ?_ _) | (with_reducible refine Kd.C_drew ?_))); (case side2 => exact HC1_3.out); rintro e w23 ⟨rfl, hb⟩; have n0_ := Aside0.mk (blk_below (g := gb24001) (o := .cells #[.int .i64 a0_0, .int .i64 a0_1, .int .i64 a0_2, .slice A0_3 l0_3.length c0_3] 27 (0, 0)) (by (with_reducible repeat (first | refine blk_drewN ?_ _ | refine blk_drew ?_ | refine blk_alloc ?_ _)); exact BK24001.out) hb); have n1_ := Aside0.mk (blk_below (g := gb24002) (o := .cells #[.int .i64 a1_0, .int .i64 a1_1, .int .i64 a1_2, .slice A1_3 l1_3.length c1_3] 27 (0, 0)) (by (with_reducible repeat (first | refine blk_drewN ?_ _ | refine blk_drew ?_ | refine blk_alloc ?_ _)); exact BK24002.out) hb); have n2_ := Aside0.mk (below_step (by repeat (first | (with_reducible first | exact HB.out | apply below_alloc | apply pw_below_drewN | apply below_drew1 | refine below_set ?_ GE24001.out | refine below_set ?_ GE24002.out) | exact HB.out)) hb); clear BK24001; clear BK24002; clear HB; have BK24001 := n0_; have BK24002 := n1_; have HB := n2_; clear n0_ n1_ n2_; (try clear hb); (try clear hb2); (try clear hk); (try clear hi)))
        repeat (go_quiet (first | (go_at_call 83; (with_reducible refine (impl_isImage.calls a0_0 a0_1 a0_2 _ _ l0_3 true _ ?side1 ?side2 A6.out).mono ?_); (case side1 => repeat (first | exact (Kd.C_below HR0_3.out HB.out) | (with_reducible refine Kd.C_alloc ?_ _) | (with_reducible refine Kd.C_drewN ?_ _) | (with_reducible refine Kd.C_drew ?_))); (case side2 => exact HC0_3.out); rintro e w21 ⟨rfl, hb⟩; have n0_ := Aside0.mk (blk_below (g := gb24001) (o := .cells #[.int .i64 a0_0, .int .i64 a0_1, .int .i64 a0_2, .slice A0_3 l0_3.length c0_3] 27 (0, 0)) (by (with_reducible repeat (first | refine blk_drewN ?_ _ | refine blk_drew ?_ | refine blk_alloc ?_ _)); exact BK24001.out) hb); have n1_ := Aside0.mk (blk_below (g := gb24002) (o := .cells #[.int .i64 a1_0, .int .i64 a1_1, .int .i64 a1_2, .slice A1_3 l1_3.length c1_3] 27 (0, 0)) (by (with_reducible repeat (first | refine blk_drewN ?_ _ | refine blk_drew ?_ | refine blk_alloc ?_ _)); exact BK24002.out) hb); have n2_ := Aside0.mk (below_step (by repeat (first | (with_reducible first | exact HB.out | apply below_alloc | apply pw_below_drewN | apply below_drew1 | refine below_set ?_ GE24001.out | refine below_set ?_ GE24002.out) | exact HB.out)) hb); clear BK24001; clear BK24002; clear HB; have BK24001 := n0_; have BK24002 := n1_; have HB := n2_; clear n0_ n1_ n2_; (try clear hb); (try clear hb2); (try clear hk); (try clear hi); have hcz22_0 : w21.cell? ⟨gb24002, 0, none⟩ = some (.int .i64 a1_0) := (blk_cell BK24002.out 0).trans rfl; have hcz22_1 : w21.cell? ⟨gb24002, 1, none⟩ = some (.int .i64 a1_1) := (blk_cell BK24002.out 1).trans rfl; have hcz22_2 : w21.cell? ⟨gb24002, 2, none⟩ = some (.int .i64 a1_2) := (blk_cell BK24002.out 2).trans rfl; have hcz22_3 : w21.cell? ⟨gb24002, 3, none⟩ = some (.slice A1_3 l1_3.length c1_3) := (blk_cell BK24002.out 3).trans rfl; have hfz22_0 := blk_frozen BK24002.out 0; have hfz22_1 := blk_frozen BK24002.out 1; have hfz22_2 := blk_frozen BK24002.out 2; have hfz22_3 := blk_frozen BK24002.out 3) | (go_at_call 83; (with_reducible refine (impl_isImage.calls a1_0 a1_1 a1_2 _ _ l1_3 false _ ?side1 ?side2 A8.out).mono ?_); (case side1 => repeat (first | exact (Kd.C_below HR1_3.out HB.out) | (with_reducible refine Kd.C_alloc ?_ _) | (with_reducible refine Kd.C_drewN ?_ _) | (with_reducible refine Kd.C_drew ?_))); (case side2 => exact HC1_3.out); rintro e w23 ⟨rfl, hb⟩; have n0_ := Aside0.mk (blk_below (g := gb24001) (o := .cells #[.int .i64 a0_0, .int .i64 a0_1, .int .i64 a0_2, .slice A0_3 l0_3.length c0_3] 27 (0, 0)) (by (with_reducible repeat (first | refine blk_drewN ?_ _ | refine blk_drew ?_ | refine blk_alloc ?_ _)); exact BK24001.out) hb); have n1_ := Aside0.mk (blk_below (g := gb24002) (o := .cells #[.int .i64 a1_0, .int .i64 a1_1, .int .i64 a1_2, .slice A1_3 l1_3.length c1_3] 27 (0, 0)) (by (with_reducible repeat (first | refine blk_drewN ?_ _ | refine blk_drew ?_ | refine blk_alloc ?_ _)); exact BK24002.out) hb); have n2_ := Aside0.mk (below_step (by repeat (first | (with_reducible first | exact HB.out | apply below_alloc | apply pw_below_drewN | apply below_drew1 | refine below_set ?_ GE24001.out | refine below_set ?_ GE24002.out) | exact HB.out)) hb); clear BK24001; clear BK24002; clear HB; have BK24001 := n0_; have BK24002 := n1_; have HB := n2_; clear n0_ n1_ n2_; (try clear hb); (try clear hb2); (try clear hk); (try clear hi))); try go_wp2_with (first | (go_at_call 83; (with_reducible refine (impl_isImage.calls a0_0 a0_1 a0_2 _ _ l0_3 true _ ?side1 ?side2 A6.out).mono ?_); (case side1 => repeat (first | exact (Kd.C_below HR0_3.out HB.out) | (with_reducible refine Kd.C_alloc ?_ _) | (with_reducible refine Kd.C_drewN ?_ _) | (with_reducible refine Kd.C_drew ?_))); (case side2 => exact HC0_3.out); rintro e w21 ⟨rfl, hb⟩; have n0_ := Aside0.mk (blk_below (g := gb24001) (o := .cells #[.int .i64 a0_0, .int .i64 a0_1, .int .i64 a0_2, .slice A0_3 l0_3.length c0_3] 27 (0, 0)) (by (with_reducible repeat (first | refine blk_drewN ?_ _ | refine blk_drew ?_ | refine blk_alloc ?_ _)); exact BK24001.out) hb); have n1_ := Aside0.mk (blk_below (g := gb24002) (o := .cells #[.int .i64 a1_0, .int .i64 a1_1, .int .i64 a1_2, .slice A1_3 l1_3.length c1_3] 27 (0, 0)) (by (with_reducible repeat (first | refine blk_drewN ?_ _ | refine blk_drew ?_ | refine blk_alloc ?_ _)); exact BK24002.out) hb); have n2_ := Aside0.mk (below_step (by repeat (first | (with_reducible first | exact HB.out | apply below_alloc | apply pw_below_drewN | apply below_drew1 | refine below_set ?_ GE24001.out | refine below_set ?_ GE24002.out) | exact HB.out)) hb); clear BK24001; clear BK24002; clear HB; have BK24001 := n0_; have BK24002 := n1_; have HB := n2_; clear n0_ n1_ n2_; (try clear hb); (try clear hb2); (try clear hk); (try clear hi); have hcz22_0 : w21.cell? ⟨gb24002, 0, none⟩ = some (.int .i64 a1_0) := (blk_cell BK24002.out 0).trans rfl; have hcz22_1 : w21.cell? ⟨gb24002, 1, none⟩ = some (.int .i64 a1_1) := (blk_cell BK24002.out 1).trans rfl; have hcz22_2 : w21.cell? ⟨gb24002, 2, none⟩ = some (.int .i64 a1_2) := (blk_cell BK24002.out 2).trans rfl; have hcz22_3 : w21.cell? ⟨gb24002, 3, none⟩ = some (.slice A1_3 l1_3.length c1_3) := (blk_cell BK24002.out 3).trans rfl; have hfz22_0 := blk_frozen BK24002.out 0; have hfz22_1 := blk_frozen BK24002.out 1; have hfz22_2 := blk_frozen BK24002.out 2; have hfz22_3 := blk_frozen BK24002.out 3) | (go_at_call 83; (with_reducible refine (impl_isImage.calls a1_0 a1_1 a1_2 _ _ l1_3 false _ ?side1 ?side2 A8.out).mono ?_); (case side1 => repeat (first | exact (Kd.C_below HR1_3.out HB.out) | (with_reducible refine Kd.C_alloc ?_ _) | (with_reducible refine Kd.C_drewN ?_ _) | (with_reducible refine Kd.C_drew ?_))); (case side2 => exact HC1_3.out); rintro e w23 ⟨rfl, hb⟩; have n0_ := Aside0.mk (blk_below (g := gb24001) (o := .cells #[.int .i64 a0_0, .int .i64 a0_1, .int .i64 a0_2, .slice A0_3 l0_3.length c0_3] 27 (0, 0)) (by (with_reducible repeat (first | refine blk_drewN ?_ _ | refine blk_drew ?_ | refine blk_alloc ?_ _)); exact BK24001.out) hb); have n1_ := Aside0.mk (blk_below (g := gb24002) (o := .cells #[.int .i64 a1_0, .int .i64 a1_1, .int .i64 a1_2, .slice A1_3 l1_3.length c1_3] 27 (0, 0)) (by (with_reducible repeat (first | refine blk_drewN ?_ _ | refine blk_drew ?_ | refine blk_alloc ?_ _)); exact BK24002.out) hb); have n2_ := Aside0.mk (below_step (by repeat (first | (with_reducible first | exact HB.out | apply below_alloc | apply pw_below_drewN | apply below_drew1 | refine below_set ?_ GE24001.out | refine below_set ?_ GE24002.out) | exact HB.out)) hb); clear BK24001; clear BK24002; clear HB; have BK24001 := n0_; have BK24002 := n1_; have HB := n2_; clear n0_ n1_ n2_; (try clear hb); (try clear hb2); (try clear hk); (try clear hi))))
        go_meet
        case rel => exact ⟨_, (true), (by first | rfl | (simp; done) | (simp [*]; done)), H', ⟨by first | omega | exact Nat.le_refl _⟩, ⟨by (with_reducible repeat (first | refine blk_drewN ?_ _ | refine blk_drew ?_ | refine blk_alloc ?_ _)); exact BK24001.out⟩, ⟨by (with_reducible repeat (first | refine blk_drewN ?_ _ | refine blk_drew ?_ | refine blk_alloc ?_ _)); exact BK24002.out⟩, ⟨by repeat (first | (with_reducible first | exact HB.out | apply below_alloc | apply pw_below_drewN | apply below_drew1 | refine below_set ?_ GE24001.out | refine below_set ?_ GE24002.out) | exact HB.out)⟩⟩
    · replace c7 := Bool.eq_false_iff.mpr c7
      subst c7
      have H1 : (impl_GapOf.j0 k true a0_0 a0_1 a0_2 l0_3 a1_0 a1_1 a1_2 l1_3) = some r := by rw [if_neg (show ¬ (false = true) by decide)] at H; exact H
      clear H
      have H := H1
      clear H1
      have H' := Aside0.mk H
      clear H
      have hnb24 := NB24001_24002.out
      have hnc24 := NB24002_24001.out
      have hcz25_0 : w5.cell? ⟨gb24001, 0, none⟩ = some (.int .i64 a0_0) := (blk_cell BK24001.out 0).trans rfl
      have hcz25_1 : w5.cell? ⟨gb24001, 1, none⟩ = some (.int .i64 a0_1) := (blk_cell BK24001.out 1).trans rfl
      have hcz25_2 : w5.cell? ⟨gb24001, 2, none⟩ = some (.int .i64 a0_2) := (blk_cell BK24001.out 2).trans rfl
      have hcz25_3 : w5.cell? ⟨gb24001, 3, none⟩ = some (.slice A0_3 l0_3.length c0_3) := (blk_cell BK24001.out 3).trans rfl
      have hfz25_0 := blk_frozen BK24001.out 0
      have hfz25_1 := blk_frozen BK24001.out 1
      have hfz25_2 := blk_frozen BK24001.out 2
      have hfz25_3 := blk_frozen BK24001.out 3
      go_wp2_with (first | (go_at_call 83; (with_reducible refine (impl_isImage.calls a0_0 a0_1 a0_2 _ _ l0_3 false _ ?side1 ?side2 A6.out).mono ?_); (case side1 => repeat (first | exact (Kd.C_below HR0_3.out HB.out) | (with_reducible refine Kd.C_alloc ?_ _) | (with_reducible refine Kd.C_drewN ?_ _) | (with_reducible refine Kd.C_drew ?_))); (case side2 => exact HC0_3.out); rintro e w26 ⟨rfl, hb⟩; have n0_ := Aside0.mk (blk_below (g := gb24001) (o := .cells #[.int .i64 a0_0, .int .i64 a0_1, .int .i64 a0_2, .slice A0_3 l0_3.length c0_3] 27 (0, 0)) (by (with_reducible repeat (first | refine blk_drewN ?_ _ | refine blk_drew ?_ | refine blk_alloc ?_ _)); exact BK24001.out) hb); have n1_ := Aside0.mk (blk_below (g := gb24002) (o := .cells #[.int .i64 a1_0, .int .i64 a1_1, .int .i64 a1_2, .slice A1_3 l1_3.length c1_3] 27 (0, 0)) (by (with_reducible repeat (first | refine blk_drewN ?_ _ | refine blk_drew ?_ | refine blk_alloc ?_ _)); exact BK24002.out) hb); have n2_ := Aside0.mk (below_step (by repeat (first | (with_reducible first | exact HB.out | apply below_alloc | apply pw_below_drewN | apply below_drew1 | refine below_set ?_ GE24001.out | refine below_set ?_ GE24002.out) | exact HB.out)) hb); clear BK24001; clear BK24002; clear HB; have BK24001 := n0_; have BK24002 := n1_; have HB := n2_; clear n0_ n1_ n2_; (try clear hb); (try clear hb2); (try clear hk); (try clear hi)))
      repeat (go_quiet (first | (go_at_call 83; (with_reducible refine (impl_isImage.calls a0_0 a0_1 a0_2 _ _ l0_3 false _ ?side1 ?side2 A6.out).mono ?_); (case side1 => repeat (first | exact (Kd.C_below HR0_3.out HB.out) | (with_reducible refine Kd.C_alloc ?_ _) | (with_reducible refine Kd.C_drewN ?_ _) | (with_reducible refine Kd.C_drew ?_))); (case side2 => exact HC0_3.out); rintro e w26 ⟨rfl, hb⟩; have n0_ := Aside0.mk (blk_below (g := gb24001) (o := .cells #[.int .i64 a0_0, .int .i64 a0_1, .int .i64 a0_2, .slice A0_3 l0_3.length c0_3] 27 (0, 0)) (by (with_reducible repeat (first | refine blk_drewN ?_ _ | refine blk_drew ?_ | refine blk_alloc ?_ _)); exact BK24001.out) hb); have n1_ := Aside0.mk (blk_below (g := gb24002) (o := .cells #[.int .i64 a1_0, .int .i64 a1_1, .int .i64 a1_2, .slice A1_3 l1_3.length c1_3] 27 (0, 0)) (by (with_reducible repeat (first | refine blk_drewN ?_ _ | refine blk_drew ?_ | refine blk_alloc ?_ _)); exact BK24002.out) hb); have n2_ := Aside0.mk (below_step (by repeat (first | (with_reducible first | exact HB.out | apply below_alloc | apply pw_below_drewN | apply below_drew1 | refine below_set ?_ GE24001.out | refine below_set ?_ GE24002.out) | exact HB.out)) hb); clear BK24001; clear BK24002; clear HB; have BK24001 := n0_; have BK24002 := n1_; have HB := n2_; clear n0_ n1_ n2_; (try clear hb); (try clear hb2); (try clear hk); (try clear hi))); try go_wp2_with (first | (go_at_call 83; (with_reducible refine (impl_isImage.calls a0_0 a0_1 a0_2 _ _ l0_3 false _ ?side1 ?side2 A6.out).mono ?_); (case side1 => repeat (first | exact (Kd.C_below HR0_3.out HB.out) | (with_reducible refine Kd.C_alloc ?_ _) | (with_reducible refine Kd.C_drewN ?_ _) | (with_reducible refine Kd.C_drew ?_))); (case side2 => exact HC0_3.out); rintro e w26 ⟨rfl, hb⟩; have n0_ := Aside0.mk (blk_below (g := gb24001) (o := .cells #[.int .i64 a0_0, .int .i64 a0_1, .int .i64 a0_2, .slice A0_3 l0_3.length c0_3] 27 (0, 0)) (by (with_reducible repeat (first | refine blk_drewN ?_ _ | refine blk_drew ?_ | refine blk_alloc ?_ _)); exact BK24001.out) hb); have n1_ := Aside0.mk (blk_below (g := gb24002) (o := .cells #[.int .i64 a1_0, .int .i64 a1_1, .int .i64 a1_2, .slice A1_3 l1_3.length c1_3] 27 (0, 0)) (by (with_reducible repeat (first | refine blk_drewN ?_ _ | refine blk_drew ?_ | refine blk_alloc ?_ _)); exact BK24002.out) hb); have n2_ := Aside0.mk (below_step (by repeat (first | (with_reducible first | exact HB.out | apply below_alloc | apply pw_below_drewN | apply below_drew1 | refine below_set ?_ GE24001.out | refine below_set ?_ GE24002.out) | exact HB.out)) hb); clear BK24001; clear BK24002; clear HB; have BK24001 := n0_; have BK24002 := n1_; have HB := n2_; clear n0_ n1_ n2_; (try clear hb); (try clear hb2); (try clear hk); (try clear hi))))
      go_meet
      case rel => exact ⟨_, (true), (by first | rfl | (simp; done) | (simp [*]; done)), H', ⟨by first | omega | exact Nat.le_refl _⟩, ⟨by (with_reducible repeat (first | refine blk_drewN ?_ _ | refine blk_drew ?_ | refine blk_alloc ?_ _)); exact BK24001.out⟩, ⟨by (with_reducible repeat (first | refine blk_drewN ?_ _ | refine blk_drew ?_ | refine blk_alloc ?_ _)); exact BK24002.out⟩, ⟨by repeat (first | (with_reducible first | exact HB.out | apply below_alloc | apply pw_below_drewN | apply below_drew1 | refine below_set ?_ GE24001.out | refine below_set ?_ GE24002.out) | exact HB.out)⟩⟩
  case rest =>
    clear HC3
    try clear c1
    try clear c2
    try clear p2
    try clear c7
    try clear c9
    try clear c11
    try clear c19
    try clear c23
    try clear c24
    try clear hcz12_0
    try clear hcz12_1
    try clear hcz12_2
    try clear hcz12_3
    try clear hcz14_0
    try clear hcz14_1
    try clear hcz14_2
    try clear hcz14_3
    try clear hcz16_0
    try clear hcz16_1
    try clear hcz16_2
    try clear hcz16_3
    try clear hcz17_0
    try clear hcz17_1
    try clear hcz17_2
    try clear hcz17_3
    try clear hcz20_0
    try clear hcz20_1
    try clear hcz20_2
    try clear hcz20_3
    try clear hcz22_0
    try clear hcz22_1
    try clear hcz22_2
    try clear hcz22_3
    try clear hcz25_0
    try clear hcz25_1
    try clear hcz25_2
    try clear hcz25_3
    try clear hfz12_0
    try clear hfz12_1
    try clear hfz12_2
    try clear hfz12_3
    try clear hfz14_0
    try clear hfz14_1
    try clear hfz14_2
    try clear hfz14_3
    try clear hfz16_0
    try clear hfz16_1
    try clear hfz16_2
    try clear hfz16_3
    try clear hfz17_0
    try clear hfz17_1
    try clear hfz17_2
    try clear hfz17_3
    try clear hfz20_0
    try clear hfz20_1
    try clear hfz20_2
    try clear hfz20_3
    try clear hfz22_0
    try clear hfz22_1
    try clear hfz22_2
    try clear hfz22_3
    try clear hfz25_0
    try clear hfz25_1
    try clear hfz25_2
    try clear hfz25_3
    obtain ⟨kq, x21_2, rfl, HA, HJ2, BK24001, BK24002, HB⟩ := hcut
    cases kq with
    | zero => exact absurd HA.out (by simp [impl_GapOf.j0])
    | succ kj2 =>
      have H := HA.out
      clear HA
      simp only [impl_GapOf.j0] at H
      by_cases c27 : x21_2 = true
      · subst c27
        have H1 : (some (-1)) = some r := by rw [if_pos rfl] at H; exact H
        clear H
        have H := H1
        clear H1
        obtain rfl := Option.some.inj H
        go_wp2
        repeat (go_quiet (fail); try go_wp2)
        go_ret
        exact ⟨by first | rfl | (simp [errW_none, errW_some] <;> rfl) | (simp [*, errW_none, errW_some] <;> rfl), by repeat (first | (with_reducible first | exact HB.out | apply below_alloc | apply pw_below_drewN | apply below_drew1 | refine below_set ?_ GE24001.out | refine below_set ?_ GE24002.out) | exact HB.out)⟩
      · replace c27 := Bool.eq_false_iff.mpr c27
        subst c27
        have H1 : (impl_GapOf.l0 kj2 0 l0_3 (l0_3.length : Int) 0 a1_0 a1_1 a1_2 l1_3) = some r := by rw [if_neg (show ¬ (false = true) by decide)] at H; exact H
        clear H
        have H := H1
        clear H1
        have H' := Aside0.mk H
        clear H
        have hnb28 := NB24001_24002.out
        have hnc28 := NB24002_24001.out
        have hcz29_0 : wc.cell? ⟨gb24001, 0, none⟩ = some (.int .i64 a0_0) := (blk_cell BK24001.out 0).trans rfl
        have hcz29_1 : wc.cell? ⟨gb24001, 1, none⟩ = some (.int .i64 a0_1) := (blk_cell BK24001.out 1).trans rfl
        have hcz29_2 : wc.cell? ⟨gb24001, 2, none⟩ = some (.int .i64 a0_2) := (blk_cell BK24001.out 2).trans rfl
        have hcz29_3 : wc.cell? ⟨gb24001, 3, none⟩ = some (.slice A0_3 l0_3.length c0_3) := (blk_cell BK24001.out 3).trans rfl
        have hfz29_0 := blk_frozen BK24001.out 0
        have hfz29_1 := blk_frozen BK24001.out 1
        have hfz29_2 := blk_frozen BK24001.out 2
        have hfz29_3 := blk_frozen BK24001.out 3
        go_wp2
        repeat (go_quiet (fail); try go_wp2)
        go_loopg [5, 25] kj2 (fun kq v5 v25 w' => ∃ (x5_2 : Int) (x25_2 : Int), v5 = .int .i64 x5_2 ∧ v25 = .int .i64 x25_2 ∧ Aside0 (impl_GapOf.l0 kq x5_2 l0_3 (l0_3.length : Int) x25_2 a1_0 a1_1 a1_2 l1_3 = some r) ∧ Aside0 (kq ≤ kj2) ∧ Aside0 (w'.heap[gb24001]? = some (.cells #[.int .i64 a0_0, .int .i64 a0_1, .int .i64 a0_2, (.slice A0_3 l0_3.length c0_3)] 27 (0, 0))) ∧ Aside0 (w'.heap[gb24002]? = some (.cells #[.int .i64 a1_0, .int .i64 a1_1, .int .i64 a1_2, (.slice A1_3 l1_3.length c1_3)] 27 (0, 0))) ∧ Aside0 (Below w.heap.size w w'))
        case atStart => exact ⟨(0), (0), (by first | rfl | (simp; done) | (simp [*]; done)), (by first | rfl | (simp; done) | (simp [*]; done)), H', ⟨Nat.le_refl _⟩, ⟨by (with_reducible repeat (first | refine blk_drewN ?_ _ | refine blk_drew ?_ | refine blk_alloc ?_ _)); exact BK24001.out⟩, ⟨by (with_reducible repeat (first | refine blk_drewN ?_ _ | refine blk_drew ?_ | refine blk_alloc ?_ _)); exact BK24002.out⟩, ⟨by repeat (first | (with_reducible first | exact HB.out | apply below_alloc | apply pw_below_drewN | apply below_drew1 | refine below_set ?_ GE24001.out | refine below_set ?_ GE24002.out) | exact HB.out)⟩⟩
        case round =>
          clear H'
          try clear c1
          try clear c2
          try clear p2
          try clear c7
          try clear c9
          try clear c11
          try clear c19
          try clear c23
          try clear c24
          try clear c27
          try clear c28
          try clear hcz12_0
          try clear hcz12_1
          try clear hcz12_2
          try clear hcz12_3
          try clear hcz14_0
          try clear hcz14_1
          try clear hcz14_2
          try clear hcz14_3
          try clear hcz16_0
          try clear hcz16_1
          try clear hcz16_2
          try clear hcz16_3
          try clear hcz17_0
          try clear hcz17_1
          try clear hcz17_2
          try clear hcz17_3
          try clear hcz20_0
          try clear hcz20_1
          try clear hcz20_2
          try clear hcz20_3
          try clear hcz22_0
          try clear hcz22_1
          try clear hcz22_2
          try clear hcz22_3
          try clear hcz25_0
          try clear hcz25_1
          try clear hcz25_2
          try clear hcz25_3
          try clear hcz29_0
          try clear hcz29_1
          try clear hcz29_2
          try clear hcz29_3
          try clear hfz12_0
          try clear hfz12_1
          try clear hfz12_2
          try clear hfz12_3
          try clear hfz14_0
          try clear hfz14_1
          try clear hfz14_2
          try clear hfz14_3
          try clear hfz16_0
          try clear hfz16_1
          try clear hfz16_2
          try clear hfz16_3
          try clear hfz17_0
          try clear hfz17_1
          try clear hfz17_2
          try clear hfz17_3
          try clear hfz20_0
          try clear hfz20_1
          try clear hfz20_2
          try clear hfz20_3
          try clear hfz22_0
          try clear hfz22_1
          try clear hfz22_2
          try clear hfz22_3
          try clear hfz25_0
          try clear hfz25_1
          try clear hfz25_2
          try clear hfz25_3
          try clear hfz29_0
          try clear hfz29_1
          try clear hfz29_2
          try clear hfz29_3
          try clear p2
          obtain ⟨x5_2, x25_2, rfl, rfl, HA, HK2, BK24001, BK24002, HB⟩ := hrel
          cases gk with
          | zero => exact absurd HA.out (by simp [impl_GapOf.l0])
          | succ k2 =>
            have H := HA.out
            clear HA
            simp only [impl_GapOf.l0] at H
            by_cases c30 : x25_2 < (l0_3.length : Int)
            · rw [if_pos c30] at H
              have c30b0 : decide (x25_2 < (l0_3.length : Int)) = true := decide_eq_true c30
              clear c30
              by_cases c31 : 0 ≤ x25_2
              · rw [if_pos c31] at H
                have c31b0 : decide (0 ≤ x25_2) = true := decide_eq_true c31
                clear c31
                by_cases c32 : x25_2 < (l0_3.length : Int)
                · rw [if_pos c32] at H
                  have c32b0 : decide (x25_2 < (l0_3.length : Int)) = true := decide_eq_true c32
                  clear c32
                  by_cases c33 : x25_2 < (l1_3.length : Int)
                  · rw [if_pos c33] at H
                    have c33b0 : decide (x25_2 < (l1_3.length : Int)) = true := decide_eq_true c33
                    clear c33
                    have H' := Aside0.mk H
                    clear H
                    have p24006 : 0 ≤ (x25_2 : Int) := of_decide_eq_true (by first | (with_reducible assumption) | assumption)
                    have q24006 : x25_2 < (l0_3.length : Int) := of_decide_eq_true (by first | (with_reducible assumption) | assumption)
                    obtain ⟨ad24006, e24006, hx24006_0⟩ := Kd.at_int HR0_3.out x25_2 p24006 q24006
                    cases e24006
                    replace hx24006_0 := (HB.out.cell (World.block_lt_of_cell? w _ hx24006_0)).trans hx24006_0
                    replace p24006 := eq_true p24006
                    replace q24006 := eq_true q24006
                    have hnb34 := NB24002_24001.out
                    have hnc34 := NB24001_24002.out
                    have hcz35_0 : wr.cell? ⟨gb24002, 0, none⟩ = some (.int .i64 a1_0) := (blk_cell BK24002.out 0).trans rfl
                    have hcz35_1 : wr.cell? ⟨gb24002, 1, none⟩ = some (.int .i64 a1_1) := (blk_cell BK24002.out 1).trans rfl
                    have hcz35_2 : wr.cell? ⟨gb24002, 2, none⟩ = some (.int .i64 a1_2) := (blk_cell BK24002.out 2).trans rfl
                    have hcz35_3 : wr.cell? ⟨gb24002, 3, none⟩ = some (.slice A1_3 l1_3.length c1_3) := (blk_cell BK24002.out 3).trans rfl
                    have hfz35_0 := blk_frozen BK24002.out 0
                    have hfz35_1 := blk_frozen BK24002.out 1
                    have hfz35_2 := blk_frozen BK24002.out 2
                    have hfz35_3 := blk_frozen BK24002.out 3
                    have p24007 : 0 ≤ (x25_2 : Int) := of_decide_eq_true (by first | (with_reducible assumption) | assumption)
                    have q24007 : x25_2 < (l1_3.length : Int) := of_decide_eq_true (by first | (with_reducible assumption) | assumption)
                    obtain ⟨ad24007, e24007, hx24007_0⟩ := Kd.at_int HR1_3.out x25_2 p24007 q24007
                    cases e24007
                    replace hx24007_0 := (HB.out.cell (World.block_lt_of_cell? w _ hx24007_0)).trans hx24007_0
                    replace p24007 := eq_true p24007
                    replace q24007 := eq_true q24007
                    have p24008 : 0 ≤ (x25_2 : Int) := of_decide_eq_true (by first | (with_reducible assumption) | assumption)
                    have q24008 : x25_2 < (l1_3.length : Int) := of_decide_eq_true (by first | (with_reducible assumption) | assumption)
                    obtain ⟨ad24008, e24008, hx24008_0⟩ := Kd.at_int HR1_3.out x25_2 p24008 q24008
                    obtain rfl : ad24007 = ad24008 := (by injection e24008)
                    replace hx24008_0 := (HB.out.cell (World.block_lt_of_cell? w _ hx24008_0)).trans hx24008_0
                    replace p24008 := eq_true p24008
                    replace q24008 := eq_true q24008
                    go_wp2
                    repeat (go_quiet (fail); try go_wp2)
                    go_roundg k2
                    case measure => have := HJ2.out; have := HK2.out; omega
                    case rel => exact ⟨(wrap64 (x5_2 + (wrap64 ((wrap64 ((rd l0_3 x25_2) - (rd l1_3 x25_2))) * (wrap64 ((rd l0_3 x25_2) - (rd l1_3 x25_2))))))), (wrap64 (x25_2 + 1)), (by first | rfl | (simp; done) | (simp [*]; done)), (by first | rfl | (simp; done) | (simp [*]; done)), H', ⟨by have := HJ2.out; have := HK2.out; omega⟩, ⟨by (with_reducible repeat (first | refine blk_drewN ?_ _ | refine blk_drew ?_ | refine blk_alloc ?_ _)); exact BK24001.out⟩, ⟨by (with_reducible repeat (first | refine blk_drewN ?_ _ | refine blk_drew ?_ | refine blk_alloc ?_ _)); exact BK24002.out⟩, ⟨by repeat (first | (with_reducible first | exact HB.out | apply below_alloc | apply pw_below_drewN | apply below_drew1 | refine below_set ?_ GE24001.out | refine below_set ?_ GE24002.out) | exact HB.out)⟩⟩
                  · rw [if_neg c33] at H
                    exact absurd H (by simp)
                · rw [if_neg c32] at H
                  exact absurd H (by simp)
              · rw [if_neg c31] at H
                exact absurd H (by simp)
            · rw [if_neg c30] at H
              have c30b0 : decide (x25_2 < (l0_3.length : Int)) = false := decide_eq_false c30
              clear c30
              obtain rfl := Option.some.inj H
              go_wp2
              repeat (go_quiet (fail); try go_wp2)
              go_ret
              exact ⟨by first | rfl | (simp [errW_none, errW_some] <;> rfl) | (simp [*, errW_none, errW_some] <;> rfl), by repeat (first | (with_reducible first | exact HB.out | apply below_alloc | apply pw_below_drewN | apply below_drew1 | refine below_set ?_ GE24001.out | refine below_set ?_ GE24002.out) | exact HB.out)⟩

end Go.Proofs.Ytnofkbbcbpjhfaa.Q

namespace Go.Proofs.Ytnofkbbcbpjhfaa.Q
open Go.RowKit Go.Proofs.YtnofkbbcbpjhfaaW.PrintWords Go.Proofs.YtnofkbbcbpjhfaaW.PrintLast Go.Proofs.YtnofkbbcbpjhfaaW.PrintMore
attribute [local go_sem] max2_int min2_int max_two min_two max_three min_three max_four min_four
set_option linter.unusedVariables false
set_option linter.unusedSimpArgs false
/-! ### laws_eqIntS: function 43 -/
def laws_eqIntS.l0 : Nat → List Int → List Int → Int → Option (Bool)
  | 0, _, _, _ => none
  | k + 1, x0, x1, x5 => if x5 < (x0.length : Int) then (if 0 ≤ x5 then (if x5 < (x1.length : Int) then (if (rd x0 x5) = (rd x1 x5) then (laws_eqIntS.l0 k x0 x1 (wrap64 (x5 + 1))) else (some false)) else (none)) else (none)) else (some true)
def laws_eqIntS.f (k : Nat) (l0 : List Int) (l1 : List Int) : Option (Bool) := if (l0.length : Int) = (l1.length : Int) then (laws_eqIntS.l0 k l0 l1 0) else (some false)
theorem laws_eqIntS.mono_l : ∀ k, (∀ y0 y1 y2, LeO (laws_eqIntS.l0 k y0 y1 y2) (laws_eqIntS.l0 (k + 1) y0 y1 y2))
  | 0 => fun _ _ _ r h => by simp [laws_eqIntS.l0] at h
  | k + 1 => by
    have ih0 := laws_eqIntS.mono_l k
    · intro y0 y1 y2
      unfold laws_eqIntS.l0
      repeat' first
      | (with_reducible exact ih0 _ _ _)
      | (with_reducible exact LeO.refl _)
      | (with_reducible exact LeO.none _)
      | (with_reducible refine LeO.ite ?_ ?_)
      | (with_reducible refine LeO.bind ?_ (fun _ => ?_))
      | exact ih0 _ _ _
      | exact LeO.none _
      | refine LeO.ite ?_ ?_
      | refine LeO.bind ?_ (fun _ => ?_)
theorem laws_eqIntS.mono : ∀ a0 a1 k, LeO (laws_eqIntS.f k a0 a1) (laws_eqIntS.f (k + 1) a0 a1) := by
  intro a0 a1 k
  have ih0 := laws_eqIntS.mono_l k
  unfold laws_eqIntS.f
  repeat' first
      | (with_reducible exact ih0 _ _ _)
      | (with_reducible exact LeO.refl _)
      | (with_reducible exact LeO.none _)
      | (with_reducible refine LeO.ite ?_ ?_)
      | (with_reducible refine LeO.bind ?_ (fun _ => ?_))
      | exact ih0 _ _ _
      | exact LeO.none _
      | refine LeO.ite ?_ ?_
      | refine LeO.bind ?_ (fun _ => ?_)
set_option maxHeartbeats 8000000 in
set_option maxRecDepth 100000 in
theorem laws_eqIntS.calls (k : Nat) (A0 : Option Addr) (c0 : Nat) (l0 : List Int) (A1 : Option Addr) (c1 : Nat) (l1 : List Int) (r : Bool) (w : World) (hr0 : Kd.C (Kd.int .i64) w A0 l0.length l0) (hc0 : l0.length ≤ c0) (hr1 : Kd.C (Kd.int .i64) w A1 l1.length l1) (hc1 : l1.length ≤ c1) (h : laws_eqIntS.f k l0 l1 = some r) :
    Calls Try.prog 43 #[.slice A0 l0.length c0, .slice A1 l1.length c1] w fun e w' => e = .returned (.bool r) ∧ Drawn0 w w' := by
  have HR0 := Aside0.mk hr0
  have HC0 := Aside0.mk hc0
  clear hr0 hc0
  have HR1 := Aside0.mk hr1
  have HC1 := Aside0.mk hc1
  clear hr1 hc1
  have H : (if (l0.length : Int) = (l1.length : Int) then (laws_eqIntS.l0 k l0 l1 0) else (some false)) = some r := h
  clear h
  by_cases c3 : (l0.length : Int) = (l1.length : Int)
  · rw [if_pos c3] at H
    have c3b0 : ((l0.length : Int) == (l1.length : Int)) = true := beq_iff_eq.mpr c3
    have c3b1 : ((l0.length : Int) != (l1.length : Int)) = false := bne_eq_false_iff_eq.mpr c3
    have c3b2 : (l0.length == l1.length) = true := by first | simpa using c3 | (simp at c3 ⊢; omega)
    clear c3
    have H' := Aside0.mk H
    clear H
    go_enter Try.func43, Try.ntmps43
    go_wp2
    repeat (go_quiet (fail); try go_wp2)
    go_loopg [5] k (fun kq v5 w' => ∃ (x5_1 : Int), v5 = .int .i64 x5_1 ∧ Aside0 (laws_eqIntS.l0 kq l0 l1 x5_1 = some r) ∧ Aside0 (kq ≤ k) ∧ Drawn0 w w')
    case atStart => exact ⟨(0), (by first | rfl | (simp; done) | (simp [*]; done)), H', ⟨Nat.le_refl _⟩, by repeat (first | exact Drawn0.refl _ | apply Drawn0.step)⟩
    case round =>
      clear H'
      try clear c1
      try clear p2
      try clear c3
      try clear c3b0
      try clear c3b1
      try clear c3b2
      obtain ⟨x5_1, rfl, HA, HK1, ⟨m1, rfl⟩⟩ := hrel
      cases gk with
      | zero => exact absurd HA.out (by simp [laws_eqIntS.l0])
      | succ k1 =>
        have H := HA.out
        clear HA
        simp only [laws_eqIntS.l0] at H
        by_cases c4 : x5_1 < (l0.length : Int)
        · rw [if_pos c4] at H
          have c4b0 : decide (x5_1 < (l0.length : Int)) = true := decide_eq_true c4
          clear c4
          by_cases c5 : 0 ≤ x5_1
          · rw [if_pos c5] at H
            have c5b0 : decide (0 ≤ x5_1) = true := decide_eq_true c5
            clear c5
            by_cases c6 : x5_1 < (l1.length : Int)
            · rw [if_pos c6] at H
              have c6b0 : decide (x5_1 < (l1.length : Int)) = true := decide_eq_true c6
              clear c6
              by_cases c7 : (rd l0 x5_1) = (rd l1 x5_1)
              · rw [if_pos c7] at H
                have c7b0 : ((rd l0 x5_1) == (rd l1 x5_1)) = true := beq_iff_eq.mpr c7
                have c7b1 : ((rd l0 x5_1) != (rd l1 x5_1)) = false := bne_eq_false_iff_eq.mpr c7
                clear c7
                have H' := Aside0.mk H
                clear H
                have p44001 : 0 ≤ (x5_1 : Int) := of_decide_eq_true (by first | (with_reducible assumption) | assumption)
                have q44001 : x5_1 < (l0.length : Int) := of_decide_eq_true (by first | (with_reducible assumption) | assumption)
                obtain ⟨ad44001, e44001, hx44001_0⟩ := Kd.at_int HR0.out x5_1 p44001 q44001
                cases e44001
                replace p44001 := eq_true p44001
                replace q44001 := eq_true q44001
                have p44002 : 0 ≤ (x5_1 : Int) := of_decide_eq_true (by first | (with_reducible assumption) | assumption)
                have q44002 : x5_1 < (l1.length : Int) := of_decide_eq_true (by first | (with_reducible assumption) | assumption)
                obtain ⟨ad44002, e44002, hx44002_0⟩ := Kd.at_int HR1.out x5_1 p44002 q44002
                cases e44002
                replace p44002 := eq_true p44002
                replace q44002 := eq_true q44002
                go_wp2
                repeat (go_quiet (fail); try go_wp2)
                go_roundg k1
                case measure => have := HK1.out; omega
                case rel => exact ⟨(wrap64 (x5_1 + 1)), (by first | rfl | (simp; done) | (simp [*]; done)), H', ⟨by have := HK1.out; omega⟩, by repeat (first | exact Drawn0.refl _ | apply Drawn0.step)⟩
              · rw [if_neg c7] at H
                have c7b0 : ((rd l0 x5_1) == (rd l1 x5_1)) = false := beq_eq_false_iff_ne.mpr c7
                have c7b1 : ((rd l0 x5_1) != (rd l1 x5_1)) = true := bne_iff_ne.mpr c7
                obtain rfl := Option.some.inj H
                have p44001 : 0 ≤ (x5_1 : Int) := of_decide_eq_true (by first | (with_reducible assumption) | assumption)
                have q44001 : x5_1 < (l0.length : Int) := of_decide_eq_true (by first | (with_reducible assumption) | assumption)
                obtain ⟨ad44001, e44001, hx44001_0⟩ := Kd.at_int HR0.out x5_1 p44001 q44001
                cases e44001
                replace p44001 := eq_true p44001
                replace q44001 := eq_true q44001
                have p44002 : 0 ≤ (x5_1 : Int) := of_decide_eq_true (by first | (with_reducible assumption) | assumption)
                have q44002 : x5_1 < (l1.length : Int) := of_decide_eq_true (by first | (with_reducible assumption) | assumption)
                obtain ⟨ad44002, e44002, hx44002_0⟩ := Kd.at_int HR1.out x5_1 p44002 q44002
                cases e44002
                replace p44002 := eq_true p44002
                replace q44002 := eq_true q44002
                go_wp2
                repeat (go_quiet (fail); try go_wp2)
                go_ret
                exact ⟨by first | rfl | (simp; done) | (simp [*]; done), by repeat (first | exact Drawn0.refl _ | apply Drawn0.step)⟩
            · rw [if_neg c6] at H
              exact absurd H (by simp)
          · rw [if_neg c5] at H
            exact absurd H (by simp)
        · rw [if_neg c4] at H
          have c4b0 : decide (x5_1 < (l0.length : Int)) = false := decide_eq_false c4
          clear c4
          obtain rfl := Option.some.inj H
          go_wp2
          repeat (go_quiet (fail); try go_wp2)
          go_ret
          exact ⟨by first | rfl | (simp; done) | (simp [*]; done), by repeat (first | exact Drawn0.refl _ | apply Drawn0.step)⟩
  · rw [if_neg c3] at H
    have c3b0 : ((l0.length : Int) == (l1.length : Int)) = false := beq_eq_false_iff_ne.mpr c3
    have c3b1 : ((l0.length : Int) != (l1.length : Int)) = true := bne_iff_ne.mpr c3
    have c3b2 : (l0.length == l1.length) = false := by first | simpa using c3 | (simp at c3 ⊢; omega)
    obtain rfl := Option.some.inj H
    go_enter Try.func43, Try.ntmps43
    go_wp2
    repeat (go_quiet (fail); try go_wp2)
    go_ret
    exact ⟨by first | rfl | (simp; done) | (simp [*]; done), by repeat (first | exact Drawn0.refl _ | apply Drawn0.step)⟩

end Go.Proofs.Ytnofkbbcbpjhfaa.Q

namespace Go.Proofs.Ytnofkbbcbpjhfaa.Q
open Go.RowKit Go.Proofs.YtnofkbbcbpjhfaaW.PrintWords Go.Proofs.YtnofkbbcbpjhfaaW.PrintLast Go.Proofs.YtnofkbbcbpjhfaaW.PrintMore
attribute [local go_sem] max2_int min2_int max_two min_two max_three min_three max_four min_four
set_option linter.unusedVariables false
set_option linter.unusedSimpArgs false
/-! ### laws_eqImage: function 24 -/
def laws_eqImage.f (k : Nat) (a0_0 : Int) (a0_1 : Int) (a0_2 : Int) (l0_3 : List Int) (a1_0 : Int) (a1_1 : Int) (a1_2 : Int) (l1_3 : List Int) : Option (Bool) := if a0_0 = a1_0 then (if a0_1 = a1_1 then (if a0_2 = a1_2 then ((laws_eqIntS.f k l0_3 l1_3).bind fun t25003 => (if t25003 = true then (some true) else (some false))) else (some false)) else (some false)) else (some false)
theorem laws_eqImage.mono : ∀ a0 a1 a2 a3 a4 a5 a6 a7 k, LeO (laws_eqImage.f k a0 a1 a2 a3 a4 a5 a6 a7) (laws_eqImage.f (k + 1) a0 a1 a2 a3 a4 a5 a6 a7) := by
  intro a0 a1 a2 a3 a4 a5 a6 a7 k
  unfold laws_eqImage.f
  repeat' first
      | (with_reducible exact laws_eqIntS.mono _ _ _)
      | (with_reducible exact LeO.refl _)
      | (with_reducible exact LeO.none _)
      | (with_reducible refine LeO.ite ?_ ?_)
      | (with_reducible refine LeO.bind ?_ (fun _ => ?_))
      | exact laws_eqIntS.mono _ _ _
      | exact LeO.none _
      | refine LeO.ite ?_ ?_
      | refine LeO.bind ?_ (fun _ => ?_)
set_option maxHeartbeats 8000000 in
set_option maxRecDepth 100000 in
theorem laws_eqImage.calls (k : Nat) (a0_0 : Int) (a0_1 : Int) (a0_2 : Int) (A0_3 : Option Addr) (c0_3 : Nat) (l0_3 : List Int) (a1_0 : Int) (a1_1 : Int) (a1_2 : Int) (A1_3 : Option Addr) (c1_3 : Nat) (l1_3 : List Int) (r : Bool) (w : World) (hr0_3 : Kd.C (Kd.int .i64) w A0_3 l0_3.length l0_3) (hc0_3 : l0_3.length ≤ c0_3) (hr1_3 : Kd.C (Kd.int .i64) w A1_3 l1_3.length l1_3) (hc1_3 : l1_3.length ≤ c1_3) (h : laws_eqImage.f k a0_0 a0_1 a0_2 l0_3 a1_0 a1_1 a1_2 l1_3 = some r) :
    Calls Try.prog 24 #[.agg #[.int .i64 a0_0, .int .i64 a0_1, .int .i64 a0_2, .slice A0_3 l0_3.length c0_3], .agg #[.int .i64 a1_0, .int .i64 a1_1, .int .i64 a1_2, .slice A1_3 l1_3.length c1_3]] w fun e w' => e = .returned (.bool r) ∧ Below w.heap.size w w' := by
  have hu27 := Try.underlying27
  have HR0_3 := Aside0.mk hr0_3
  have HC0_3 := Aside0.mk hc0_3
  clear hr0_3 hc0_3
  have HR1_3 := Aside0.mk hr1_3
  have HC1_3 := Aside0.mk hc1_3
  clear hr1_3 hc1_3
  have HB := Aside0.mk (Below.refl w.heap.size w)
  have H : (if a0_0 = a1_0 then (if a0_1 = a1_1 then (if a0_2 = a1_2 then ((laws_eqIntS.f k l0_3 l1_3).bind fun t25003 => (if t25003 = true then (some true) else (some false))) else (some false)) else (some false)) else (some false)) = some r := h
  clear h
  by_cases c3 : a0_0 = a1_0
  · rw [if_pos c3] at H
    have c3b0 : (a0_0 == a1_0) = true := beq_iff_eq.mpr c3
    have c3b1 : (a0_0 != a1_0) = false := bne_eq_false_iff_eq.mpr c3
    clear c3
    by_cases c4 : a0_1 = a1_1
    · rw [if_pos c4] at H
      have c4b0 : (a0_1 == a1_1) = true := beq_iff_eq.mpr c4
      have c4b1 : (a0_1 != a1_1) = false := bne_eq_false_iff_eq.mpr c4
      clear c4
      by_cases c5 : a0_2 = a1_2
      · rw [if_pos c5] at H
        have c5b0 : (a0_2 == a1_2) = true := beq_iff_eq.mpr c5
        have c5b1 : (a0_2 != a1_2) = false := bne_eq_false_iff_eq.mpr c5
        clear c5
        replace H := Option.bind_eq_some_iff.mp H
        obtain ⟨t25003, A60, H⟩ := H
        replace H : (if t25003 = true then (some true) else (some false)) = some r := H
        have A6 := Aside0.mk A60
        clear A60
        by_cases c7 : t25003 = true
        · subst c7
          have H1 : (some true) = some r := by rw [if_pos rfl] at H; exact H
          clear H
          have H := H1
          clear H1
          obtain rfl := Option.some.inj H
          go_enter Try.func24, Try.ntmps24
          go_wp2_with (first | ((with_reducible refine gate_dst (N := 2) rfl ?_); refine box_event ?hg (N := 2) ?hd (cs := #[.int .i64 a0_0, .int .i64 a0_1, .int .i64 a0_2, .slice A0_3 l0_3.length c0_3]) (t := 27) ?hr ?_; (case hd => rfl); (case hg => rfl); (case hr => first | (go_simp; done) | (go_simp; rfl)); intro gb25001 hg w8 hbox hb; have n0_ := Aside0.mk (below_step (by repeat (first | (with_reducible first | exact HB.out | apply below_alloc | apply pw_below_drewN | apply below_drew1) | exact HB.out)) hb); have n1_ := Aside0.mk (hbox); have n2_ := Aside0.mk ((by rw [hg]; exact (below_size (by repeat (first | (with_reducible first | exact HB.out | apply below_alloc | apply pw_below_drewN | apply below_drew1) | exact HB.out))) : w.heap.size ≤ gb25001)); have n3_ := Aside0.mk ((by rw [hg]; exact (below_size (by repeat (first | (with_reducible first | exact HB.out | apply below_alloc | apply pw_below_drewN | apply below_drew1) | exact HB.out))) : w.heap.size ≤ gb25001)); clear HB; have HB := n0_; have BK25001 := n1_; have GW25001 := n2_; have GE25001 := n3_; clear n0_ n1_ n2_ n3_; clear hb hbox hg) | ((with_reducible refine gate_dst (N := 3) rfl ?_); refine box_event ?hg (N := 3) ?hd (cs := #[.int .i64 a1_0, .int .i64 a1_1, .int .i64 a1_2, .slice A1_3 l1_3.length c1_3]) (t := 27) ?hr ?_; (case hd => rfl); (case hg => rfl); (case hr => first | (go_simp; done) | (go_simp; rfl)); intro gb25002 hg w9 hbox hb; have n0_ := Aside0.mk (blk_below (g := gb25001) (o := .cells #[.int .i64 a0_0, .int .i64 a0_1, .int .i64 a0_2, .slice A0_3 l0_3.length c0_3] 27 (0, 0)) (by (with_reducible repeat (first | refine blk_drewN ?_ _ | refine blk_drew ?_ | refine blk_alloc ?_ _)); exact BK25001.out) hb); have n1_ := Aside0.mk (below_step (by repeat (first | (with_reducible first | exact HB.out | apply below_alloc | apply pw_below_drewN | apply below_drew1 | refine below_set ?_ GE25001.out) | exact HB.out)) hb); have n2_ := Aside0.mk (hbox); have n3_ := Aside0.mk ((by rw [hg]; exact (below_size (by repeat (first | (with_reducible first | exact HB.out | apply below_alloc | apply pw_below_drewN | apply below_drew1 | refine below_set ?_ GE25001.out) | exact HB.out))) : w.heap.size ≤ gb25002)); have n4_ := Aside0.mk ((by rw [hg]; exact (below_size (by repeat (first | (with_reducible first | exact HB.out | apply below_alloc | apply pw_below_drewN | apply below_drew1 | refine below_set ?_ GE25001.out) | exact HB.out))) : w.heap.size ≤ gb25002)); have n5_ := Aside0.mk ((by rw [hg]; exact Nat.ne_of_lt (blk_lt (g := gb25001) (o := .cells #[.int .i64 a0_0, .int .i64 a0_1, .int .i64 a0_2, .slice A0_3 l0_3.length c0_3] 27 (0, 0)) (by (with_reducible repeat (first | refine blk_drewN ?_ _ | refine blk_drew ?_ | refine blk_alloc ?_ _)); exact BK25001.out)) : gb25001 ≠ gb25002)); have n6_ := Aside0.mk ((by rw [hg]; exact Nat.ne_of_gt (blk_lt (g := gb25001) (o := .cells #[.int .i64 a0_0, .int .i64 a0_1, .int .i64 a0_2, .slice A0_3 l0_3.length c0_3] 27 (0, 0)) (by (with_reducible repeat (first | refine blk_drewN ?_ _ | refine blk_drew ?_ | refine blk_alloc ?_ _)); exact BK25001.out)) : gb25002 ≠ gb25001)); clear BK25001; clear HB; have BK25001 := n0_; have HB := n1_; have BK25002 := n2_; have GW25002 := n3_; have GE25002 := n4_; have NB25001_25002 := n5_; have NB25002_25001 := n6_; clear n0_ n1_ n2_ n3_ n4_ n5_ n6_; clear hb hbox hg; have hnb10 := NB25001_25002.out; have hnc10 := NB25002_25001.out; have hcz11_0 : w9.cell? ⟨gb25001, 0, none⟩ = some (.int .i64 a0_0) := (blk_cell BK25001.out 0).trans rfl; have hcz11_1 : w9.cell? ⟨gb25001, 1, none⟩ = some (.int .i64 a0_1) := (blk_cell BK25001.out 1).trans rfl; have hcz11_2 : w9.cell? ⟨gb25001, 2, none⟩ = some (.int .i64 a0_2) := (blk_cell BK25001.out 2).trans rfl; have hcz11_3 : w9.cell? ⟨gb25001, 3, none⟩ = some (.slice A0_3 l0_3.length c0_3) := (blk_cell BK25001.out 3).trans rfl; have hfz11_0 := blk_frozen BK25001.out 0; have hfz11_1 := blk_frozen BK25001.out 1; have hfz11_2 := blk_frozen BK25001.out 2; have hfz11_3 := blk_frozen BK25001.out 3; have hcz12_0 : w9.cell? ⟨gb25002, 0, none⟩ = some (.int .i64 a1_0) := (blk_cell BK25002.out 0).trans rfl; have hcz12_1 : w9.cell? ⟨gb25002, 1, none⟩ = some (.int .i64 a1_1) := (blk_cell BK25002.out 1).trans rfl; have hcz12_2 : w9.cell? ⟨gb25002, 2, none⟩ = some (.int .i64 a1_2) := (blk_cell BK25002.out 2).trans rfl; have hcz12_3 : w9.cell? ⟨gb25002, 3, none⟩ = some (.slice A1_3 l1_3.length c1_3) := (blk_cell BK25002.out 3).trans rfl; have hfz12_0 := blk_frozen BK25002.out 0; have hfz12_1 := blk_frozen BK25002.out 1; have hfz12_2 := blk_frozen BK25002.out 2; have hfz12_3 := blk_frozen BK25002.out 3) | ((with_reducible refine gate_callee (f := 43) rfl ?_); refine goesL_ (some 24) rfl rfl Try.func43 (by kernel_rfl) rfl #[.slice A0_3 l0_3.length c0_3, .slice A1_3 l1_3.length c1_3] rfl (by (try simp only [List.map_toArray, List.map_cons, List.map_nil]); first | done | rfl | (simp only [List.length_drop, List.length_take]; rfl)) ?_; (with_reducible refine (laws_eqIntS.calls k _ _ l0_3 _ _ l1_3 true _ ?side1 ?side2 ?side3 ?side4 A6.out).mono ?_); (case side1 => repeat (first | exact (Kd.C_below HR0_3.out HB.out) | (with_reducible refine Kd.C_alloc ?_ _) | (with_reducible refine Kd.C_drewN ?_ _) | (with_reducible refine Kd.C_drew ?_))); (case side2 => exact HC0_3.out); (case side3 => repeat (first | exact (Kd.C_below HR1_3.out HB.out) | (with_reducible refine Kd.C_alloc ?_ _) | (with_reducible refine Kd.C_drewN ?_ _) | (with_reducible refine Kd.C_drew ?_))); (case side4 => exact HC1_3.out); rintro e w' ⟨rfl, ⟨nd, rfl⟩⟩; refine ⟨_, rfl, ?_⟩))
          go_ret
          exact ⟨by first | rfl | (simp [errW_none, errW_some] <;> rfl) | (simp [*, errW_none, errW_some] <;> rfl), by repeat (first | (with_reducible first | exact HB.out | apply below_alloc | apply pw_below_drewN | apply below_drew1 | refine below_set ?_ GE25001.out | refine below_set ?_ GE25002.out) | exact HB.out)⟩
        · replace c7 := Bool.eq_false_iff.mpr c7
          subst c7
          have H1 : (some false) = some r := by rw [if_neg (show ¬ (false = true) by decide)] at H; exact H
          clear H
          have H := H1
          clear H1
          obtain rfl := Option.some.inj H
          go_enter Try.func24, Try.ntmps24
          go_wp2_with (first | ((with_reducible refine gate_dst (N := 2) rfl ?_); refine box_event ?hg (N := 2) ?hd (cs := #[.int .i64 a0_0, .int .i64 a0_1, .int .i64 a0_2, .slice A0_3 l0_3.length c0_3]) (t := 27) ?hr ?_; (case hd => rfl); (case hg => rfl); (case hr => first | (go_simp; done) | (go_simp; rfl)); intro gb25001 hg w13 hbox hb; have n0_ := Aside0.mk (below_step (by repeat (first | (with_reducible first | exact HB.out | apply below_alloc | apply pw_below_drewN | apply below_drew1) | exact HB.out)) hb); have n1_ := Aside0.mk (hbox); have n2_ := Aside0.mk ((by rw [hg]; exact (below_size (by repeat (first | (with_reducible first | exact HB.out | apply below_alloc | apply pw_below_drewN | apply below_drew1) | exact HB.out))) : w.heap.size ≤ gb25001)); have n3_ := Aside0.mk ((by rw [hg]; exact (below_size (by repeat (first | (with_reducible first | exact HB.out | apply below_alloc | apply pw_below_drewN | apply below_drew1) | exact HB.out))) : w.heap.size ≤ gb25001)); clear HB; have HB := n0_; have BK25001 := n1_; have GW25001 := n2_; have GE25001 := n3_; clear n0_ n1_ n2_ n3_; clear hb hbox hg) | ((with_reducible refine gate_dst (N := 3) rfl ?_); refine box_event ?hg (N := 3) ?hd (cs := #[.int .i64 a1_0, .int .i64 a1_1, .int .i64 a1_2, .slice A1_3 l1_3.length c1_3]) (t := 27) ?hr ?_; (case hd => rfl); (case hg => rfl); (case hr => first | (go_simp; done) | (go_simp; rfl)); intro gb25002 hg w14 hbox hb; have n0_ := Aside0.mk (blk_below (g := gb25001) (o := .cells #[.int .i64 a0_0, .int .i64 a0_1, .int .i64 a0_2, .slice A0_3 l0_3.length c0_3] 27 (0, 0)) (by (with_reducible repeat (first | refine blk_drewN ?_ _ | refine blk_drew ?_ | refine blk_alloc ?_ _)); exact BK25001.out) hb); have n1_ := Aside0.mk (below_step (by repeat (first | (with_reducible first | exact HB.out | apply below_alloc | apply pw_below_drewN | apply below_drew1 | refine below_set ?_ GE25001.out) | exact HB.out)) hb); have n2_ := Aside0.mk (hbox); have n3_ := Aside0.mk ((by rw [hg]; exact (below_size (by repeat (first | (with_reducible first | exact HB.out | apply below_alloc | apply pw_below_drewN | apply below_drew1 | refine below_set ?_ GE25001.out) | exact HB.out))) : w.heap.size ≤ gb25002)); have n4_ := Aside0.mk ((by rw [hg]; exact (below_size (by repeat (first | (with_reducible first | exact HB.out | apply below_alloc | apply pw_below_drewN | apply below_drew1 | refine below_set ?_ GE25001.out) | exact HB.out))) : w.heap.size ≤ gb25002)); have n5_ := Aside0.mk ((by rw [hg]; exact Nat.ne_of_lt (blk_lt (g := gb25001) (o := .cells #[.int .i64 a0_0, .int .i64 a0_1, .int .i64 a0_2, .slice A0_3 l0_3.length c0_3] 27 (0, 0)) (by (with_reducible repeat (first | refine blk_drewN ?_ _ | refine blk_drew ?_ | refine blk_alloc ?_ _)); exact BK25001.out)) : gb25001 ≠ gb25002)); have n6_ := Aside0.mk ((by rw [hg]; exact Nat.ne_of_gt (blk_lt (g := gb25001) (o := .cells #[.int .i64 a0_0, .int .i64 a0_1, .int .i64 a0_2, .slice A0_3 l0_3.length c0_3] 27 (0, 0)) (by (with_reducible repeat (first | refine blk_drewN ?_ _ | refine blk_drew ?_ | refine blk_alloc ?_ _)); exact BK25001.out)) : gb25002 ≠ gb25001)); clear BK25001; clear HB; have BK25001 := n0_; have HB := n1_; have BK25002 := n2_; have GW25002 := n3_; have GE25002 := n4_; have NB25001_25002 := n5_; have NB25002_25001 := n6_; clear n0_ n1_ n2_ n3_ n4_ n5_ n6_; clear hb hbox hg; have hnb15 := NB25001_25002.out; have hnc15 := NB25002_25001.out; have hcz16_0 : w14.cell? ⟨gb25001, 0, none⟩ = some (.int .i64 a0_0) := (blk_cell BK25001.out 0).trans rfl; have hcz16_1 : w14.cell? ⟨gb25001, 1, none⟩ = some (.int .i64 a0_1) := (blk_cell BK25001.out 1).trans rfl; have hcz16_2 : w14.cell? ⟨gb25001, 2, none⟩ = some (.int .i64 a0_2) := (blk_cell BK25001.out 2).trans rfl; have hcz16_3 : w14.cell? ⟨gb25001, 3, none⟩ = some (.slice A0_3 l0_3.length c0_3) := (blk_cell BK25001.out 3).trans rfl; have hfz16_0 := blk_frozen BK25001.out 0; have hfz16_1 := blk_frozen BK25001.out 1; have hfz16_2 := blk_frozen BK25001.out 2; have hfz16_3 := blk_frozen BK25001.out 3; have hcz17_0 : w14.cell? ⟨gb25002, 0, none⟩ = some (.int .i64 a1_0) := (blk_cell BK25002.out 0).trans rfl; have hcz17_1 : w14.cell? ⟨gb25002, 1, none⟩ = some (.int .i64 a1_1) := (blk_cell BK25002.out 1).trans rfl; have hcz17_2 : w14.cell? ⟨gb25002, 2, none⟩ = some (.int .i64 a1_2) := (blk_cell BK25002.out 2).trans rfl; have hcz17_3 : w14.cell? ⟨gb25002, 3, none⟩ = some (.slice A1_3 l1_3.length c1_3) := (blk_cell BK25002.out 3).trans rfl; have hfz17_0 := blk_frozen BK25002.out 0; have hfz17_1 := blk_frozen BK25002.out 1; have hfz17_2 := blk_frozen BK25002.out 2; have hfz17_3 := blk_frozen BK25002.out 3) | ((with_reducible refine gate_callee (f := 43) rfl ?_); refine goesL_ (some 24) rfl rfl Try.func43 (by kernel_rfl) rfl #[.slice A0_3 l0_3.length c0_3, .slice A1_3 l1_3.length c1_3] rfl (by (try simp only [List.map_toArray, List.map_cons, List.map_nil]); first | done | rfl | (simp only [List.length_drop, List.length_take]; rfl)) ?_; (with_reducible refine (laws_eqIntS.calls k _ _ l0_3 _ _ l1_3 false _ ?side1 ?side2 ?side3 ?side4 A6.out).mono ?_); (case side1 => repeat (first | exact (Kd.C_below HR0_3.out HB.out) | (with_reducible refine Kd.C_alloc ?_ _) | (with_reducible refine Kd.C_drewN ?_ _) | (with_reducible refine Kd.C_drew ?_))); (case side2 => exact HC0_3.out); (case side3 => repeat (first | exact (Kd.C_below HR1_3.out HB.out) | (with_reducible refine Kd.C_alloc ?_ _) | (with_reducible refine Kd.C_drewN ?_ _) | (with_reducible refine Kd.C_drew ?_))); (case side4 => exact HC1_3.out); rintro e w' ⟨rfl, ⟨nd, rfl⟩⟩; refine ⟨_, rfl, ?_⟩))
          go_ret
          exact ⟨by first | rfl | (simp [errW_none, errW_some] <;> rfl) | (simp [*, errW_none, errW_some] <;> rfl), by repeat (first | (with_reducible first | exact HB.out | apply below_alloc | apply pw_below_drewN | apply below_drew1 | refine below_set ?_ GE25001.out | refine below_set ?_ GE25002.out) | exact HB.out)⟩
      · rw [if_neg c5] at H
        have c5b0 : (a0_2 == a1_2) = false := beq_eq_false_iff_ne.mpr c5
        have c5b1 : (a0_2 != a1_2) = true := bne_iff_ne.mpr c5
        obtain rfl := Option.some.inj H
        go_enter Try.func24, Try.ntmps24
        go_wp2_with (first | ((with_reducible refine gate_dst (N := 2) rfl ?_); refine box_event ?hg (N := 2) ?hd (cs := #[.int .i64 a0_0, .int .i64 a0_1, .int .i64 a0_2, .slice A0_3 l0_3.length c0_3]) (t := 27) ?hr ?_; (case hd => rfl); (case hg => rfl); (case hr => first | (go_simp; done) | (go_simp; rfl)); intro gb25001 hg w18 hbox hb; have n0_ := Aside0.mk (below_step (by repeat (first | (with_reducible first | exact HB.out | apply below_alloc | apply pw_below_drewN | apply below_drew1) | exact HB.out)) hb); have n1_ := Aside0.mk (hbox); have n2_ := Aside0.mk ((by rw [hg]; exact (below_size (by repeat (first | (with_reducible first | exact HB.out | apply below_alloc | apply pw_below_drewN | apply below_drew1) | exact HB.out))) : w.heap.size ≤ gb25001)); have n3_ := Aside0.mk ((by rw [hg]; exact (below_size (by repeat (first | (with_reducible first | exact HB.out | apply below_alloc | apply pw_below_drewN | apply below_drew1) | exact HB.out))) : w.heap.size ≤ gb25001)); clear HB; have HB := n0_; have BK25001 := n1_; have GW25001 := n2_; have GE25001 := n3_; clear n0_ n1_ n2_ n3_; clear hb hbox hg) | ((with_reducible refine gate_dst (N := 3) rfl ?_); refine box_event ?hg (N := 3) ?hd (cs := #[.int .i64 a1_0, .int .i64 a1_1, .int .i64 a1_2, .slice A1_3 l1_3.length c1_3]) (t := 27) ?hr ?_; (case hd => rfl); (case hg => rfl); (case hr => first | (go_simp; done) | (go_simp; rfl)); intro gb25002 hg w19 hbox hb; have n0_ := Aside0.mk (blk_below (g := gb25001) (o := .cells #[.int .i64 a0_0, .int .i64 a0_1, .int .i64 a0_2, .slice A0_3 l0_3.length c0_3] 27 (0, 0)) (by (with_reducible repeat (first | refine blk_drewN ?_ _ | refine blk_drew ?_ | refine blk_alloc ?_ _)); exact BK25001.out) hb); have n1_ := Aside0.mk (below_step (by repeat (first | (with_reducible first | exact HB.out | apply below_alloc | apply pw_below_drewN | apply below_drew1 | refine below_set ?_ GE25001.out) | exact HB.out)) hb); have n2_ := Aside0.mk (hbox); have n3_ := Aside0.mk ((by rw [hg]; exact (below_size (by repeat (first | (with_reducible first | exact HB.out | apply below_alloc | apply pw_below_drewN | apply below_drew1 | refine below_set ?_ GE25001.out) | exact HB.out))) : w.heap.size ≤ gb25002)); have n4_ := Aside0.mk ((by rw [hg]; exact (below_size (by repeat (first | (with_reducible first | exact HB.out | apply below_alloc | apply pw_below_drewN | apply below_drew1 | refine below_set ?_ GE25001.out) | exact HB.out))) : w.heap.size ≤ gb25002)); have n5_ := Aside0.mk ((by rw [hg]; exact Nat.ne_of_lt (blk_lt (g := gb25001) (o := .cells #[.int .i64 a0_0, .int .i64 a0_1, .int .i64 a0_2, .slice A0_3 l0_3.length c0_3] 27 (0, 0)) (by (with_reducible repeat (first | refine blk_drewN ?_ _ | refine blk_drew ?_ | refine blk_alloc ?_ _)); exact BK25001.out)) : gb25001 ≠ gb25002)); have n6_ := Aside0.mk ((by rw [hg]; exact Nat.ne_of_gt (blk_lt (g := gb25001) (o := .cells #[.int .i64 a0_0, .int .i64 a0_1, .int .i64 a0_2, .slice A0_3 l0_3.length c0_3] 27 (0, 0)) (by (with_reducible repeat (first | refine blk_drewN ?_ _ | refine blk_drew ?_ | refine blk_alloc ?_ _)); exact BK25001.out)) : gb25002 ≠ gb25001)); clear BK25001; clear HB; have BK25001 := n0_; have HB := n1_; have BK25002 := n2_; have GW25002 := n3_; have GE25002 := n4_; have NB25001_25002 := n5_; have NB25002_25001 := n6_; clear n0_ n1_ n2_ n3_ n4_ n5_ n6_; clear hb hbox hg; have hnb20 := NB25001_25002.out; have hnc20 := NB25002_25001.out; have hcz21_0 : w19.cell? ⟨gb25001, 0, none⟩ = some (.int .i64 a0_0) := (blk_cell BK25001.out 0).trans rfl; have hcz21_1 : w19.cell? ⟨gb25001, 1, none⟩ = some (.int .i64 a0_1) := (blk_cell BK25001.out 1).trans rfl; have hcz21_2 : w19.cell? ⟨gb25001, 2, none⟩ = some (.int .i64 a0_2) := (blk_cell BK25001.out 2).trans rfl; have hcz21_3 : w19.cell? ⟨gb25001, 3, none⟩ = some (.slice A0_3 l0_3.length c0_3) := (blk_cell BK25001.out 3).trans rfl; have hfz21_0 := blk_frozen BK25001.out 0; have hfz21_1 := blk_frozen BK25001.out 1; have hfz21_2 := blk_frozen BK25001.out 2; have hfz21_3 := blk_frozen BK25001.out 3; have hcz22_0 : w19.cell? ⟨gb25002, 0, none⟩ = some (.int .i64 a1_0) := (blk_cell BK25002.out 0).trans rfl; have hcz22_1 : w19.cell? ⟨gb25002, 1, none⟩ = some (.int .i64 a1_1) := (blk_cell BK25002.out 1).trans rfl; have hcz22_2 : w19.cell? ⟨gb25002, 2, none⟩ = some (.int .i64 a1_2) := (blk_cell BK25002.out 2).trans rfl; have hcz22_3 : w19.cell? ⟨gb25002, 3, none⟩ = some (.slice A1_3 l1_3.length c1_3) := (blk_cell BK25002.out 3).trans rfl; have hfz22_0 := blk_frozen BK25002.out 0; have hfz22_1 := blk_frozen BK25002.out 1; have hfz22_2 := blk_frozen BK25002.out 2; have hfz22_3 := blk_frozen BK25002.out 3))
        go_ret
        exact ⟨by first | rfl | (simp [errW_none, errW_some] <;> rfl) | (simp [*, errW_none, errW_some] <;> rfl), by repeat (first | (with_reducible first | exact HB.out | apply below_alloc | apply pw_below_drewN | apply below_drew1 | refine below_set ?_ GE25001.out | refine below_set ?_ GE25002.out) | exact HB.out)⟩
    · rw [if_neg c4] at H
      have c4b0 : (a0_1 == a1_1) = false := beq_eq_false_iff_ne.mpr c4
      have c4b1 : (a0_1 != a1_1) = true := bne_iff_ne.mpr c4
      obtain rfl := Option.some.inj H
      go_enter Try.func24, Try.ntmps24
      go_wp2_with (first | ((with_reducible refine gate_dst (N := 2) rfl ?_); refine box_event ?hg (N := 2) ?hd (cs := #[.int .i64 a0_0, .int .i64 a0_1, .int .i64 a0_2, .slice A0_3 l0_3.length c0_3]) (t := 27) ?hr ?_; (case hd => rfl); (case hg => rfl); (case hr => first | (go_simp; done) | (go_simp; rfl)); intro gb25001 hg w23 hbox hb; have n0_ := Aside0.mk (below_step (by repeat (first | (with_reducible first | exact HB.out | apply below_alloc | apply pw_below_drewN | apply below_drew1) | exact HB.out)) hb); have n1_ := Aside0.mk (hbox); have n2_ := Aside0.mk ((by rw [hg]; exact (below_size (by repeat (first | (with_reducible first | exact HB.out | apply below_alloc | apply pw_below_drewN | apply below_drew1) | exact HB.out))) : w.heap.size ≤ gb25001)); have n3_ := Aside0.mk ((by rw [hg]; exact (below_size (by repeat (first | (with_reducible first | exact HB.out | apply below_alloc | apply pw_below_drewN | apply below_drew1) | exact HB.out))) : w.heap.size ≤ gb25001)); clear HB; have HB := n0_; have BK25001 := n1_; have GW25001 := n2_; have GE25001 := n3_; clear n0_ n1_ n2_ n3_; clear hb hbox hg) | ((with_reducible refine gate_dst (N := 3) rfl ?_); refine box_event ?hg (N := 3) ?hd (cs := #[.int .i64 a1_0, .int .i64 a1_1, .int .i64 a1_2, .slice A1_3 l1_3.length c1_3]) (t := 27) ?hr ?_; (case hd => rfl); (case hg => rfl); (case hr => first | (go_simp; done) | (go_simp; rfl)); intro gb25002 hg w24 hbox hb; have n0_ := Aside0.mk (blk_below (g := gb25001) (o := .cells #[.int .i64 a0_0, .int .i64 a0_1, .int .i64 a0_2, .slice A0_3 l0_3.length c0_3] 27 (0, 0)) (by (with_reducible repeat (first | refine blk_drewN ?_ _ | refine blk_drew ?_ | refine blk_alloc ?_ _)); exact BK25001.out) hb); have n1_ := Aside0.mk (below_step (by repeat (first | (with_reducible first | exact HB.out | apply below_alloc | apply pw_below_drewN | apply below_drew1 | refine below_set ?_ GE25001.out) | exact HB.out)) hb); have n2_ := Aside0.mk (hbox); have n3_ := Aside0.mk ((by rw [hg]; exact (below_size (by repeat (first | (with_reducible first | exact HB.out | apply below_alloc | apply pw_below_drewN | apply below_drew1 | refine below_set ?_ GE25001.out) | exact HB.out))) : w.heap.size ≤ gb25002)); have n4_ := Aside0.mk ((by rw [hg]; exact (below_size (by repeat (first | (with_reducible first | exact HB.out | apply below_alloc | apply pw_below_drewN | apply below_drew1 | refine below_set ?_ GE25001.out) | exact HB.out))) : w.heap.size ≤ gb25002)); have n5_ := Aside0.mk ((by rw [hg]; exact Nat.ne_of_lt (blk_lt (g := gb25001) (o := .cells #[.int .i64 a0_0, .int .i64 a0_1, .int .i64 a0_2, .slice A0_3 l0_3.length c0_3] 27 (0, 0)) (by (with_reducible repeat (first | refine blk_drewN ?_ _ | refine blk_drew ?_ | refine blk_alloc ?_ _)); exact BK25001.out)) : gb25001 ≠ gb25002)); have n6_ := Aside0.mk ((by rw [hg]; exact Nat.ne_of_gt (blk_lt (g := gb25001) (o := .cells #[.int .i64 a0_0, .int .i64 a0_1, .int .i64 a0_2, .slice A0_3 l0_3.length c0_3] 27 (0, 0)) (by (with_reducible repeat (first | refine blk_drewN ?_ _ | refine blk_drew ?_ | refine blk_alloc ?_ _)); exact BK25001.out)) : gb25002 ≠ gb25001)); clear BK25001; clear HB; have BK25001 := n0_; have HB := n1_; have BK25002 := n2_; have GW25002 := n3_; have GE25002 := n4_; have NB25001_25002 := n5_; have NB25002_25001 := n6_; clear n0_ n1_ n2_ n3_ n4_ n5_ n6_; clear hb hbox hg; have hnb25 := NB25001_25002.out; have hnc25 := NB25002_25001.out; have hcz26_0 : w24.cell? ⟨gb25001, 0, none⟩ = some (.int .i64 a0_0) := (blk_cell BK25001.out 0).trans rfl; have hcz26_1 : w24.cell? ⟨gb25001, 1, none⟩ = some (.int .i64 a0_1) := (blk_cell BK25001.out 1).trans rfl; have hcz26_2 : w24.cell? ⟨gb25001, 2, none⟩ = some (.int .i64 a0_2) := (blk_cell BK25001.out 2).trans rfl; have hcz26_3 : w24.cell? ⟨gb25001, 3, none⟩ = some (.slice A0_3 l0_3.length c0_3) := (blk_cell BK25001.out 3).trans rfl; have hfz26_0 := blk_frozen BK25001.out 0; have hfz26_1 := blk_frozen BK25001.out 1; have hfz26_2 := blk_frozen BK25001.out 2; have hfz26_3 := blk_frozen BK25001.out 3; have hcz27_0 : w24.cell? ⟨gb25002, 0, none⟩ = some (.int .i64 a1_0) := (blk_cell BK25002.out 0).trans rfl; have hcz27_1 : w24.cell? ⟨gb25002, 1, none⟩ = some (.int .i64 a1_1) := (blk_cell BK25002.out 1).trans rfl; have hcz27_2 : w24.cell? ⟨gb25002, 2, none⟩ = some (.int .i64 a1_2) := (blk_cell BK25002.out 2).trans rfl; have hcz27_3 : w24.cell? ⟨gb25002, 3, none⟩ = some (.slice A1_3 l1_3.length c1_3) := (blk_cell BK25002.out 3).trans rfl; have hfz27_0 := blk_frozen BK25002.out 0; have hfz27_1 := blk_frozen BK25002.out 1; have hfz27_2 := blk_frozen BK25002.out 2; have hfz27_3 := blk_frozen BK25002.out 3))
      go_ret
      exact ⟨by first | rfl | (simp [errW_none, errW_some] <;> rfl) | (simp [*, errW_none, errW_some] <;> rfl), by repeat (first | (with_reducible first | exact HB.out | apply below_alloc | apply pw_below_drewN | apply below_drew1 | refine below_set ?_ GE25001.out | refine below_set ?_ GE25002.out) | exact HB.out)⟩
  · rw [if_neg c3] at H
    have c3b0 : (a0_0 == a1_0) = false := beq_eq_false_iff_ne.mpr c3
    have c3b1 : (a0_0 != a1_0) = true := bne_iff_ne.mpr c3
    obtain rfl := Option.some.inj H
    go_enter Try.func24, Try.ntmps24
    go_wp2_with (first | ((with_reducible refine gate_dst (N := 2) rfl ?_); refine box_event ?hg (N := 2) ?hd (cs := #[.int .i64 a0_0, .int .i64 a0_1, .int .i64 a0_2, .slice A0_3 l0_3.length c0_3]) (t := 27) ?hr ?_; (case hd => rfl); (case hg => rfl); (case hr => first | (go_simp; done) | (go_simp; rfl)); intro gb25001 hg w28 hbox hb; have n0_ := Aside0.mk (below_step (by repeat (first | (with_reducible first | exact HB.out | apply below_alloc | apply pw_below_drewN | apply below_drew1) | exact HB.out)) hb); have n1_ := Aside0.mk (hbox); have n2_ := Aside0.mk ((by rw [hg]; exact (below_size (by repeat (first | (with_reducible first | exact HB.out | apply below_alloc | apply pw_below_drewN | apply below_drew1) | exact HB.out))) : w.heap.size ≤ gb25001)); have n3_ := Aside0.mk ((by rw [hg]; exact (below_size (by repeat (first | (with_reducible first | exact HB.out | apply below_alloc | apply pw_below_drewN | apply below_drew1) | exact HB.out))) : w.heap.size ≤ gb25001)); clear HB; have HB := n0_; have BK25001 := n1_; have GW25001 := n2_; have GE25001 := n3_; clear n0_ n1_ n2_ n3_; clear hb hbox hg) | ((with_reducible refine gate_dst (N := 3) rfl ?_); refine box_event ?hg (N := 3) ?hd (cs := #[.int .i64 a1_0, .int .i64 a1_1, .int .i64 a1_2, .slice A1_3 l1_3.length c1_3]) (t := 27) ?hr ?_; (case hd => rfl); (case hg => rfl); (case hr => first | (go_simp; done) | (go_simp; rfl)); intro gb25002 hg w29 hbox hb; have n0_ := Aside0.mk (blk_below (g := gb25001) (o := .cells #[.int .i64 a0_0, .int .i64 a0_1, .int .i64 a0_2, .slice A0_3 l0_3.length c0_3] 27 (0, 0)) (by (with_reducible repeat (first | refine blk_drewN ?_ _ | refine blk_drew ?_ | refine blk_alloc ?_ _)); exact BK25001.out) hb); have n1_ := Aside0.mk (below_step (by repeat (first | (with_reducible first | exact HB.out | apply below_alloc | apply pw_below_drewN | apply below_drew1 | refine below_set ?_ GE25001.out) | exact HB.out)) hb); have n2_ := Aside0.mk (hbox); have n3_ := Aside0.mk ((by rw [hg]; exact (below_size (by repeat (first | (with_reducible first | exact HB.out | apply below_alloc | apply pw_below_drewN | apply below_drew1 | refine below_set ?_ GE25001.out) | exact HB.out))) : w.heap.size ≤ gb25002)); have n4_ := Aside0.mk ((by rw [hg]; exact (below_size (by repeat (first | (with_reducible first | exact HB.out | apply below_alloc | apply pw_below_drewN | apply below_drew1 | refine below_set ?_ GE25001.out) | exact HB.out))) : w.heap.size ≤ gb25002)); have n5_ := Aside0.mk ((by rw [hg]; exact Nat.ne_of_lt (blk_lt (g := gb25001) (o := .cells #[.int .i64 a0_0, .int .i64 a0_1, .int .i64 a0_2, .slice A0_3 l0_3.length c0_3] 27 (0, 0)) (by (with_reducible repeat (first | refine blk_drewN ?_ _ | refine blk_drew ?_ | refine blk_alloc ?_ _)); exact BK25001.out)) : gb25001 ≠ gb25002)); have n6_ := Aside0.mk ((by rw [hg]; exact Nat.ne_of_gt (blk_lt (g := gb25001) (o := .cells #[.int .i64 a0_0, .int .i64 a0_1, .int .i64 a0_2, .slice A0_3 l0_3.length c0_3] 27 (0, 0)) (by (with_reducible repeat (first | refine blk_drewN ?_ _ | refine blk_drew ?_ | refine blk_alloc ?_ _)); exact BK25001.out)) : gb25002 ≠ gb25001)); clear BK25001; clear HB; have BK25001 := n0_; have HB := n1_; have BK25002 := n2_; have GW25002 := n3_; have GE25002 := n4_; have NB25001_25002 := n5_; have NB25002_25001 := n6_; clear n0_ n1_ n2_ n3_ n4_ n5_ n6_; clear hb hbox hg; have hnb30 := NB25001_25002.out; have hnc30 := NB25002_25001.out; have hcz31_0 : w29.cell? ⟨gb25001, 0, none⟩ = some (.int .i64 a0_0) := (blk_cell BK25001.out 0).trans rfl; have hcz31_1 : w29.cell? ⟨gb25001, 1, none⟩ = some (.int .i64 a0_1) := (blk_cell BK25001.out 1).trans rfl; have hcz31_2 : w29.cell? ⟨gb25001, 2, none⟩ = some (.int .i64 a0_2) := (blk_cell BK25001.out 2).trans rfl; have hcz31_3 : w29.cell? ⟨gb25001, 3, none⟩ = some (.slice A0_3 l0_3.length c0_3) := (blk_cell BK25001.out 3).trans rfl; have hfz31_0 := blk_frozen BK25001.out 0; have hfz31_1 := blk_frozen BK25001.out 1; have hfz31_2 := blk_frozen BK25001.out 2; have hfz31_3 := blk_frozen BK25001.out 3; have hcz32_0 : w29.cell? ⟨gb25002, 0, none⟩ = some (.int .i64 a1_0) := (blk_cell BK25002.out 0).trans rfl; have hcz32_1 : w29.cell? ⟨gb25002, 1, none⟩ = some (.int .i64 a1_1) := (blk_cell BK25002.out 1).trans rfl; have hcz32_2 : w29.cell? ⟨gb25002, 2, none⟩ = some (.int .i64 a1_2) := (blk_cell BK25002.out 2).trans rfl; have hcz32_3 : w29.cell? ⟨gb25002, 3, none⟩ = some (.slice A1_3 l1_3.length c1_3) := (blk_cell BK25002.out 3).trans rfl; have hfz32_0 := blk_frozen BK25002.out 0; have hfz32_1 := blk_frozen BK25002.out 1; have hfz32_2 := blk_frozen BK25002.out 2; have hfz32_3 := blk_frozen BK25002.out 3))
    go_ret
    exact ⟨by first | rfl | (simp [errW_none, errW_some] <;> rfl) | (simp [*, errW_none, errW_some] <;> rfl), by repeat (first | (with_reducible first | exact HB.out | apply below_alloc | apply pw_below_drewN | apply below_drew1 | refine below_set ?_ GE25001.out | refine below_set ?_ GE25002.out) | exact HB.out)⟩

end Go.Proofs.Ytnofkbbcbpjhfaa.Q

namespace Go.Proofs.Ytnofkbbcbpjhfaa.Q
open Go.RowKit Go.Proofs.YtnofkbbcbpjhfaaW.PrintWords Go.Proofs.YtnofkbbcbpjhfaaW.PrintLast Go.Proofs.YtnofkbbcbpjhfaaW.PrintMore
attribute [local go_sem] max2_int min2_int max_two min_two max_three min_three max_four min_four
set_option linter.unusedVariables false
set_option linter.unusedSimpArgs false
/-! ### laws_FnExactGapOf: function 3 -/
def laws_FnExactGapOf.f (k : Nat) (a0_0 : Int) (a0_1 : Int) (a0_2 : Int) (l0_3 : List Int) (a1_0 : Int) (a1_1 : Int) (a1_2 : Int) (l1_3 : List Int) : Option (Bool) := (laws_szImage.f a0_0 a0_1 a0_2 l0_3 1048576).bind fun t4003 => (if t4003 < 0 then (some true) else ((laws_szImage.f a1_0 a1_1 a1_2 l1_3 t4003).bind fun t4004 => (if t4004 < 0 then (some true) else ((laws_toImage.f k a0_0 a0_1 a0_2 l0_3).bind fun bt4005 => ((laws_toImage.f k a1_0 a1_1 a1_2 l1_3).bind fun bt4011 => ((spec_GapOf.f k bt4005.1 bt4005.2.1 bt4005.2.2.1 bt4005.2.2.2 bt4011.1 bt4011.2.1 bt4011.2.2.1 bt4011.2.2.2).bind fun t4017 => ((laws_toImage.f k a0_0 a0_1 a0_2 l0_3).bind fun bt4018 => ((laws_toImage.f k a1_0 a1_1 a1_2 l1_3).bind fun bt4025 => ((impl_GapOf.f k bt4018.1 bt4018.2.1 bt4018.2.2.1 bt4018.2.2.2 bt4025.1 bt4025.2.1 bt4025.2.2.1 bt4025.2.2.2).bind fun t4032 => (if t4032 = t4017 then ((laws_toImage.f k a0_0 a0_1 a0_2 l0_3).bind fun bt4033 => ((laws_eqImage.f k bt4018.1 bt4018.2.1 bt4018.2.2.1 bt4018.2.2.2 bt4033.1 bt4033.2.1 bt4033.2.2.1 bt4033.2.2.2).bind fun t4039 => (if t4039 = true then ((laws_toImage.f k a1_0 a1_1 a1_2 l1_3).bind fun bt4040 => ((laws_eqImage.f k bt4025.1 bt4025.2.1 bt4025.2.2.1 bt4025.2.2.2 bt4040.1 bt4040.2.1 bt4040.2.2.1 bt4040.2.2.2).bind fun t4046 => (if t4046 = true then (some true) else (some false)))) else (some false)))) else (some false)))))))))))
theorem laws_FnExactGapOf.mono : ∀ a0 a1 a2 a3 a4 a5 a6 a7 k, LeO (laws_FnExactGapOf.f k a0 a1 a2 a3 a4 a5 a6 a7) (laws_FnExactGapOf.f (k + 1) a0 a1 a2 a3 a4 a5 a6 a7) := by
  intro a0 a1 a2 a3 a4 a5 a6 a7 k
  unfold laws_FnExactGapOf.f
  repeat' first
      | (with_reducible exact impl_GapOf.mono _ _ _ _ _ _ _ _ _)
      | (with_reducible exact laws_eqImage.mono _ _ _ _ _ _ _ _ _)
      | (with_reducible exact laws_toImage.mono _ _ _ _ _)
      | (with_reducible exact spec_GapOf.mono _ _ _ _ _ _ _ _ _)
      | (with_reducible exact LeO.refl _)
      | (with_reducible exact LeO.none _)
      | (with_reducible refine LeO.ite ?_ ?_)
      | (with_reducible refine LeO.bind ?_ (fun _ => ?_))
      | exact impl_GapOf.mono _ _ _ _ _ _ _ _ _
      | exact laws_eqImage.mono _ _ _ _ _ _ _ _ _
      | exact laws_toImage.mono _ _ _ _ _
      | exact spec_GapOf.mono _ _ _ _ _ _ _ _ _
      | exact LeO.none _
      | refine LeO.ite ?_ ?_
      | refine LeO.bind ?_ (fun _ => ?_)
set_option maxHeartbeats 8000000 in
set_option maxRecDepth 100000 in
theorem laws_FnExactGapOf.calls (k : Nat) (a0_0 : Int) (a0_1 : Int) (a0_2 : Int) (A0_3 : Option Addr) (c0_3 : Nat) (l0_3 : List Int) (a1_0 : Int) (a1_1 : Int) (a1_2 : Int) (A1_3 : Option Addr) (c1_3 : Nat) (l1_3 : List Int) (r : Bool) (w : World) (hr0_3 : Kd.C (Kd.int .i64) w A0_3 l0_3.length l0_3) (hc0_3 : l0_3.length ≤ c0_3) (hr1_3 : Kd.C (Kd.int .i64) w A1_3 l1_3.length l1_3) (hc1_3 : l1_3.length ≤ c1_3) (h : laws_FnExactGapOf.f k a0_0 a0_1 a0_2 l0_3 a1_0 a1_1 a1_2 l1_3 = some r) (hrt : r = true) :
    Calls Try.prog 3 #[.agg #[.int .i64 a0_0, .int .i64 a0_1, .int .i64 a0_2, .slice A0_3 l0_3.length c0_3], .agg #[.int .i64 a1_0, .int .i64 a1_1, .int .i64 a1_2, .slice A1_3 l1_3.length c1_3]] w fun e w' => e = .returned (.bool r) ∧ Below w.heap.size w w' := by
  have HRT := Aside0.mk hrt
  clear hrt
  have hu24 := Try.underlying24
  have hu27 := Try.underlying27
  have HR0_3 := Aside0.mk hr0_3
  have HC0_3 := Aside0.mk hc0_3
  clear hr0_3 hc0_3
  have HR1_3 := Aside0.mk hr1_3
  have HC1_3 := Aside0.mk hc1_3
  clear hr1_3 hc1_3
  have HB := Aside0.mk (Below.refl w.heap.size w)
  have H : ((laws_szImage.f a0_0 a0_1 a0_2 l0_3 1048576).bind fun t4003 => (if t4003 < 0 then (some true) else ((laws_szImage.f a1_0 a1_1 a1_2 l1_3 t4003).bind fun t4004 => (if t4004 < 0 then (some true) else ((laws_toImage.f k a0_0 a0_1 a0_2 l0_3).bind fun bt4005 => ((laws_toImage.f k a1_0 a1_1 a1_2 l1_3).bind fun bt4011 => ((spec_GapOf.f k bt4005.1 bt4005.2.1 bt4005.2.2.1 bt4005.2.2.2 bt4011.1 bt4011.2.1 bt4011.2.2.1 bt4011.2.2.2).bind fun t4017 => ((laws_toImage.f k a0_0 a0_1 a0_2 l0_3).bind fun bt4018 => ((laws_toImage.f k a1_0 a1_1 a1_2 l1_3).bind fun bt4025 => ((impl_GapOf.f k bt4018.1 bt4018.2.1 bt4018.2.2.1 bt4018.2.2.2 bt4025.1 bt4025.2.1 bt4025.2.2.1 bt4025.2.2.2).bind fun t4032 => (if t4032 = t4017 then ((laws_toImage.f k a0_0 a0_1 a0_2 l0_3).bind fun bt4033 => ((laws_eqImage.f k bt4018.1 bt4018.2.1 bt4018.2.2.1 bt4018.2.2.2 bt4033.1 bt4033.2.1 bt4033.2.2.1 bt4033.2.2.2).bind fun t4039 => (if t4039 = true then ((laws_toImage.f k a1_0 a1_1 a1_2 l1_3).bind fun bt4040 => ((laws_eqImage.f k bt4025.1 bt4025.2.1 bt4025.2.2.1 bt4025.2.2.2 bt4040.1 bt4040.2.1 bt4040.2.2.1 bt4040.2.2.2).bind fun t4046 => (if t4046 = true then (some true) else (some false)))) else (some false)))) else (some false)))))))))))) = some r := h
  clear h
  replace H := Option.bind_eq_some_iff.mp H
  obtain ⟨t4003, A30, H⟩ := H
  replace H : (if t4003 < 0 then (some true) else ((laws_szImage.f a1_0 a1_1 a1_2 l1_3 t4003).bind fun t4004 => (if t4004 < 0 then (some true) else ((laws_toImage.f k a0_0 a0_1 a0_2 l0_3).bind fun bt4005 => ((laws_toImage.f k a1_0 a1_1 a1_2 l1_3).bind fun bt4011 => ((spec_GapOf.f k bt4005.1 bt4005.2.1 bt4005.2.2.1 bt4005.2.2.2 bt4011.1 bt4011.2.1 bt4011.2.2.1 bt4011.2.2.2).bind fun t4017 => ((laws_toImage.f k a0_0 a0_1 a0_2 l0_3).bind fun bt4018 => ((laws_toImage.f k a1_0 a1_1 a1_2 l1_3).bind fun bt4025 => ((impl_GapOf.f k bt4018.1 bt4018.2.1 bt4018.2.2.1 bt4018.2.2.2 bt4025.1 bt4025.2.1 bt4025.2.2.1 bt4025.2.2.2).bind fun t4032 => (if t4032 = t4017 then ((laws_toImage.f k a0_0 a0_1 a0_2 l0_3).bind fun bt4033 => ((laws_eqImage.f k bt4018.1 bt4018.2.1 bt4018.2.2.1 bt4018.2.2.2 bt4033.1 bt4033.2.1 bt4033.2.2.1 bt4033.2.2.2).bind fun t4039 => (if t4039 = true then ((laws_toImage.f k a1_0 a1_1 a1_2 l1_3).bind fun bt4040 => ((laws_eqImage.f k bt4025.1 bt4025.2.1 bt4025.2.2.1 bt4025.2.2.2 bt4040.1 bt4040.2.1 bt4040.2.2.1 bt4040.2.2.2).bind fun t4046 => (if t4046 = true then (some true) else (some false)))) else (some false)))) else (some false))))))))))) = some r := H
  have A3 := Aside0.mk A30
  clear A30
  by_cases c4 : t4003 < 0
  · rw [if_pos c4] at H
    have c4b0 : decide (t4003 < 0) = true := decide_eq_true c4
    clear c4
    obtain rfl := Option.some.inj H
    go_enter Try.func3, Try.ntmps3
    go_wp2_with (first | ((with_reducible refine gate_dst (N := 2) rfl ?_); refine box_event ?hg (N := 2) ?hd (cs := #[.int .i64 a0_0, .int .i64 a0_1, .int .i64 a0_2, .slice A0_3 l0_3.length c0_3]) (t := 24) ?hr ?_; (case hd => rfl); (case hg => rfl); (case hr => first | (go_simp; done) | (go_simp; rfl)); intro gb4001 hg w5 hbox hb; have n0_ := Aside0.mk (below_step (by repeat (first | (with_reducible first | exact HB.out | apply below_alloc | apply pw_below_drewN | apply below_drew1) | exact HB.out)) hb); have n1_ := Aside0.mk (hbox); have n2_ := Aside0.mk ((by rw [hg]; exact (below_size (by repeat (first | (with_reducible first | exact HB.out | apply below_alloc | apply pw_below_drewN | apply below_drew1) | exact HB.out))) : w.heap.size ≤ gb4001)); have n3_ := Aside0.mk ((by rw [hg]; exact (below_size (by repeat (first | (with_reducible first | exact HB.out | apply below_alloc | apply pw_below_drewN | apply below_drew1) | exact HB.out))) : w.heap.size ≤ gb4001)); clear HB; have HB := n0_; have BK4001 := n1_; have GW4001 := n2_; have GE4001 := n3_; clear n0_ n1_ n2_ n3_; clear hb hbox hg) | ((with_reducible refine gate_dst (N := 3) rfl ?_); refine box_event ?hg (N := 3) ?hd (cs := #[.int .i64 a1_0, .int .i64 a1_1, .int .i64 a1_2, .slice A1_3 l1_3.length c1_3]) (t := 24) ?hr ?_; (case hd => rfl); (case hg => rfl); (case hr => first | (go_simp; done) | (go_simp; rfl)); intro gb4002 hg w6 hbox hb; have n0_ := Aside0.mk (blk_below (g := gb4001) (o := .cells #[.int .i64 a0_0, .int .i64 a0_1, .int .i64 a0_2, .slice A0_3 l0_3.length c0_3] 24 (0, 0)) (by (with_reducible repeat (first | refine blk_drewN ?_ _ | refine blk_drew ?_ | refine blk_alloc ?_ _)); exact BK4001.out) hb); have n1_ := Aside0.mk (below_step (by repeat (first | (with_reducible first | exact HB.out | apply below_alloc | apply pw_below_drewN | apply below_drew1 | refine below_set ?_ GE4001.out) | exact HB.out)) hb); have n2_ := Aside0.mk (hbox); have n3_ := Aside0.mk ((by rw [hg]; exact (below_size (by repeat (first | (with_reducible first | exact HB.out | apply below_alloc | apply pw_below_drewN | apply below_drew1 | refine below_set ?_ GE4001.out) | exact HB.out))) : w.heap.size ≤ gb4002)); have n4_ := Aside0.mk ((by rw [hg]; exact (below_size (by repeat (first | (with_reducible first | exact HB.out | apply below_alloc | apply pw_below_drewN | apply below_drew1 | refine below_set ?_ GE4001.out) | exact HB.out))) : w.heap.size ≤ gb4002)); have n5_ := Aside0.mk ((by rw [hg]; exact Nat.ne_of_lt (blk_lt (g := gb4001) (o := .cells #[.int .i64 a0_0, .int .i64 a0_1, .int .i64 a0_2, .slice A0_3 l0_3.length c0_3] 24 (0, 0)) (by (with_reducible repeat (first | refine blk_drewN ?_ _ | refine blk_drew ?_ | refine blk_alloc ?_ _)); exact BK4001.out)) : gb4001 ≠ gb4002)); have n6_ := Aside0.mk ((by rw [hg]; exact Nat.ne_of_gt (blk_lt (g := gb4001) (o := .cells #[.int .i64 a0_0, .int .i64 a0_1, .int .i64 a0_2, .slice A0_3 l0_3.length c0_3] 24 (0, 0)) (by (with_reducible repeat (first | refine blk_drewN ?_ _ | refine blk_drew ?_ | refine blk_alloc ?_ _)); exact BK4001.out)) : gb4002 ≠ gb4001)); clear BK4001; clear HB; have BK4001 := n0_; have HB := n1_; have BK4002 := n2_; have GW4002 := n3_; have GE4002 := n4_; have NB4001_4002 := n5_; have NB4002_4001 := n6_; clear n0_ n1_ n2_ n3_ n4_ n5_ n6_; clear hb hbox hg; have hnb7 := NB4001_4002.out; have hnc7 := NB4002_4001.out; have hcz8_0 : w6.cell? ⟨gb4001, 0, none⟩ = some (.int .i64 a0_0) := (blk_cell BK4001.out 0).trans rfl; have hcz8_1 : w6.cell? ⟨gb4001, 1, none⟩ = some (.int .i64 a0_1) := (blk_cell BK4001.out 1).trans rfl; have hcz8_2 : w6.cell? ⟨gb4001, 2, none⟩ = some (.int .i64 a0_2) := (blk_cell BK4001.out 2).trans rfl; have hcz8_3 : w6.cell? ⟨gb4001, 3, none⟩ = some (.slice A0_3 l0_3.length c0_3) := (blk_cell BK4001.out 3).trans rfl; have hfz8_0 := blk_frozen BK4001.out 0; have hfz8_1 := blk_frozen BK4001.out 1; have hfz8_2 := blk_frozen BK4001.out 2; have hfz8_3 := blk_frozen BK4001.out 3) | ((with_reducible refine gate_callee (f := 20) rfl ?_); refine goesL_ (some 12) rfl rfl Try.func20 (by kernel_rfl) rfl #[.agg #[.int .i64 a0_0, .int .i64 a0_1, .int .i64 a0_2, .slice A0_3 l0_3.length c0_3], .int .i64 1048576] rfl (by (try simp only [List.map_toArray, List.map_cons, List.map_nil]); first | done | rfl | (simp only [List.length_drop, List.length_take]; rfl)) ?_; (with_reducible refine (laws_szImage.calls a0_0 a0_1 a0_2 _ _ l0_3 1048576 t4003 _ ?side1 ?side2 A3.out).mono ?_); (case side1 => repeat (first | exact (Kd.C_below HR0_3.out HB.out) | (with_reducible refine Kd.C_alloc ?_ _) | (with_reducible refine Kd.C_drewN ?_ _) | (with_reducible refine Kd.C_drew ?_))); (case side2 => exact HC0_3.out); rintro e w9 ⟨rfl, hb⟩; refine ⟨_, rfl, ?_⟩; have n0_ := Aside0.mk (blk_below (g := gb4001) (o := .cells #[.int .i64 a0_0, .int .i64 a0_1, .int .i64 a0_2, .slice A0_3 l0_3.length c0_3] 24 (0, 0)) (by (with_reducible repeat (first | refine blk_drewN ?_ _ | refine blk_drew ?_ | refine blk_alloc ?_ _)); exact BK4001.out) hb); have n1_ := Aside0.mk (blk_below (g := gb4002) (o := .cells #[.int .i64 a1_0, .int .i64 a1_1, .int .i64 a1_2, .slice A1_3 l1_3.length c1_3] 24 (0, 0)) (by (with_reducible repeat (first | refine blk_drewN ?_ _ | refine blk_drew ?_ | refine blk_alloc ?_ _)); exact BK4002.out) hb); have n2_ := Aside0.mk (below_step (by repeat (first | (with_reducible first | exact HB.out | apply below_alloc | apply pw_below_drewN | apply below_drew1 | refine below_set ?_ GE4001.out | refine below_set ?_ GE4002.out) | exact HB.out)) hb); clear BK4001; clear BK4002; clear HB; have BK4001 := n0_; have BK4002 := n1_; have HB := n2_; clear n0_ n1_ n2_; (try clear hb); (try clear hb2); (try clear hk); (try clear hi)))
    go_ret
    exact ⟨by first | rfl | (simp [errW_none, errW_some] <;> rfl) | (simp [*, errW_none, errW_some] <;> rfl), by repeat (first | (with_reducible first | exact HB.out | apply below_alloc | apply pw_below_drewN | apply below_drew1 | refine below_set ?_ GE4001.out | refine below_set ?_ GE4002.out) | exact HB.out)⟩
  · rw [if_neg c4] at H
    have c4b0 : decide (t4003 < 0) = false := decide_eq_false c4
    clear c4
    replace H := Option.bind_eq_some_iff.mp H
    obtain ⟨t4004, A100, H⟩ := H
    replace H : (if t4004 < 0 then (some true) else ((laws_toImage.f k a0_0 a0_1 a0_2 l0_3).bind fun bt4005 => ((laws_toImage.f k a1_0 a1_1 a1_2 l1_3).bind fun bt4011 => ((spec_GapOf.f k bt4005.1 bt4005.2.1 bt4005.2.2.1 bt4005.2.2.2 bt4011.1 bt4011.2.1 bt4011.2.2.1 bt4011.2.2.2).bind fun t4017 => ((laws_toImage.f k a0_0 a0_1 a0_2 l0_3).bind fun bt4018 => ((laws_toImage.f k a1_0 a1_1 a1_2 l1_3).bind fun bt4025 => ((impl_GapOf.f k bt4018.1 bt4018.2.1 bt4018.2.2.1 bt4018.2.2.2 bt4025.1 bt4025.2.1 bt4025.2.2.1 bt4025.2.2.2).bind fun t4032 => (if t4032 = t4017 then ((laws_toImage.f k a0_0 a0_1 a0_2 l0_3).bind fun bt4033 => ((laws_eqImage.f k bt4018.1 bt4018.2.1 bt4018.2.2.1 bt4018.2.2.2 bt4033.1 bt4033.2.1 bt4033.2.2.1 bt4033.2.2.2).bind fun t4039 => (if t4039 = true then ((laws_toImage.f k a1_0 a1_1 a1_2 l1_3).bind fun bt4040 => ((laws_eqImage.f k bt4025.1 bt4025.2.1 bt4025.2.2.1 bt4025.2.2.2 bt4040.1 bt4040.2.1 bt4040.2.2.1 bt4040.2.2.2).bind fun t4046 => (if t4046 = true then (some true) else (some false)))) else (some false)))) else (some false))))))))) = some r := H
    have A10 := Aside0.mk A100
    clear A100
    by_cases c11 : t4004 < 0
    · rw [if_pos c11] at H
      have c11b0 : decide (t4004 < 0) = true := decide_eq_true c11
      clear c11
      obtain rfl := Option.some.inj H
      go_enter Try.func3, Try.ntmps3
      go_wp2_with (first | ((with_reducible refine gate_dst (N := 2) rfl ?_); refine box_event ?hg (N := 2) ?hd (cs := #[.int .i64 a0_0, .int .i64 a0_1, .int .i64 a0_2, .slice A0_3 l0_3.length c0_3]) (t := 24) ?hr ?_; (case hd => rfl); (case hg => rfl); (case hr => first | (go_simp; done) | (go_simp; rfl)); intro gb4001 hg w12 hbox hb; have n0_ := Aside0.mk (below_step (by repeat (first | (with_reducible first | exact HB.out | apply below_alloc | apply pw_below_drewN | apply below_drew1) | exact HB.out)) hb); have n1_ := Aside0.mk (hbox); have n2_ := Aside0.mk ((by rw [hg]; exact (below_size (by repeat (first | (with_reducible first | exact HB.out | apply below_alloc | apply pw_below_drewN | apply below_drew1) | exact HB.out))) : w.heap.size ≤ gb4001)); have n3_ := Aside0.mk ((by rw [hg]; exact (below_size (by repeat (first | (with_reducible first | exact HB.out | apply below_alloc | apply pw_below_drewN | apply below_drew1) | exact HB.out))) : w.heap.size ≤ gb4001)); clear HB; have HB := n0_; have BK4001 := n1_; have GW4001 := n2_; have GE4001 := n3_; clear n0_ n1_ n2_ n3_; clear hb hbox hg) | ((with_reducible refine gate_dst (N := 3) rfl ?_); refine box_event ?hg (N := 3) ?hd (cs := #[.int .i64 a1_0, .int .i64 a1_1, .int .i64 a1_2, .slice A1_3 l1_3.length c1_3]) (t := 24) ?hr ?_; (case hd => rfl); (case hg => rfl); (case hr => first | (go_simp; done) | (go_simp; rfl)); intro gb4002 hg w13 hbox hb; have n0_ := Aside0.mk (blk_below (g := gb4001) (o := .cells #[.int .i64 a0_0, .int .i64 a0_1, .int .i64 a0_2, .slice A0_3 l0_3.length c0_3] 24 (0, 0)) (by (with_reducible repeat (first | refine blk_drewN ?_ _ | refine blk_drew ?_ | refine blk_alloc ?_ _)); exact BK4001.out) hb); have n1_ := Aside0.mk (below_step (by repeat (first | (with_reducible first | exact HB.out | apply below_alloc | apply pw_below_drewN | apply below_drew1 | refine below_set ?_ GE4001.out) | exact HB.out)) hb); have n2_ := Aside0.mk (hbox); have n3_ := Aside0.mk ((by rw [hg]; exact (below_size (by repeat (first | (with_reducible first | exact HB.out | apply below_alloc | apply pw_below_drewN | apply below_drew1 | refine below_set ?_ GE4001.out) | exact HB.out))) : w.heap.size ≤ gb4002)); have n4_ := Aside0.mk ((by rw [hg]; exact (below_size (by repeat (first | (with_reducible first | exact HB.out | apply below_alloc | apply pw_below_drewN | apply below_drew1 | refine below_set ?_ GE4001.out) | exact HB.out))) : w.heap.size ≤ gb4002)); have n5_ := Aside0.mk ((by rw [hg]; exact Nat.ne_of_lt (blk_lt (g := gb4001) (o := .cells #[.int .i64 a0_0, .int .i64 a0_1, .int .i64 a0_2, .slice A0_3 l0_3.length c0_3] 24 (0, 0)) (by (with_reducible repeat (first | refine blk_drewN ?_ _ | refine blk_drew ?_ | refine blk_alloc ?_ _)); exact BK4001.out)) : gb4001 ≠ gb4002)); have n6_ := Aside0.mk ((by rw [hg]; exact Nat.ne_of_gt (blk_lt (g := gb4001) (o := .cells #[.int .i64 a0_0, .int .i64 a0_1, .int .i64 a0_2, .slice A0_3 l0_3.length c0_3] 24 (0, 0)) (by (with_reducible repeat (first | refine blk_drewN ?_ _ | refine blk_drew ?_ | refine blk_alloc ?_ _)); exact BK4001.out)) : gb4002 ≠ gb4001)); clear BK4001; clear HB; have BK4001 := n0_; have HB := n1_; have BK4002 := n2_; have GW4002 := n3_; have GE4002 := n4_; have NB4001_4002 := n5_; have NB4002_4001 := n6_; clear n0_ n1_ n2_ n3_ n4_ n5_ n6_; clear hb hbox hg; have hnb14 := NB4001_4002.out; have hnc14 := NB4002_4001.out; have hcz15_0 : w13.cell? ⟨gb4001, 0, none⟩ = some (.int .i64 a0_0) := (blk_cell BK4001.out 0).trans rfl; have hcz15_1 : w13.cell? ⟨gb4001, 1, none⟩ = some (.int .i64 a0_1) := (blk_cell BK4001.out 1).trans rfl; have hcz15_2 : w13.cell? ⟨gb4001, 2, none⟩ = some (.int .i64 a0_2) := (blk_cell BK4001.out 2).trans rfl; have hcz15_3 : w13.cell? ⟨gb4001, 3, none⟩ = some (.slice A0_3 l0_3.length c0_3) := (blk_cell BK4001.out 3).trans rfl; have hfz15_0 := blk_frozen BK4001.out 0; have hfz15_1 := blk_frozen BK4001.out 1; have hfz15_2 := blk_frozen BK4001.out 2; have hfz15_3 := blk_frozen BK4001.out 3) | ((with_reducible refine gate_callee (f := 20) rfl ?_); refine goesL_ (some 12) rfl rfl Try.func20 (by kernel_rfl) rfl #[.agg #[.int .i64 a0_0, .int .i64 a0_1, .int .i64 a0_2, .slice A0_3 l0_3.length c0_3], .int .i64 1048576] rfl (by (try simp only [List.map_toArray, List.map_cons, List.map_nil]); first | done | rfl | (simp only [List.length_drop, List.length_take]; rfl)) ?_; (with_reducible refine (laws_szImage.calls a0_0 a0_1 a0_2 _ _ l0_3 1048576 t4003 _ ?side1 ?side2 A3.out).mono ?_); (case side1 => repeat (first | exact (Kd.C_below HR0_3.out HB.out) | (with_reducible refine Kd.C_alloc ?_ _) | (with_reducible refine Kd.C_drewN ?_ _) | (with_reducible refine Kd.C_drew ?_))); (case side2 => exact HC0_3.out); rintro e w16 ⟨rfl, hb⟩; refine ⟨_, rfl, ?_⟩; have n0_ := Aside0.mk (blk_below (g := gb4001) (o := .cells #[.int .i64 a0_0, .int .i64 a0_1, .int .i64 a0_2, .slice A0_3 l0_3.length c0_3] 24 (0, 0)) (by (with_reducible repeat (first | refine blk_drewN ?_ _ | refine blk_drew ?_ | refine blk_alloc ?_ _)); exact BK4001.out) hb); have n1_ := Aside0.mk (blk_below (g := gb4002) (o := .cells #[.int .i64 a1_0, .int .i64 a1_1, .int .i64 a1_2, .slice A1_3 l1_3.length c1_3] 24 (0, 0)) (by (with_reducible repeat (first | refine blk_drewN ?_ _ | refine blk_drew ?_ | refine blk_alloc ?_ _)); exact BK4002.out) hb); have n2_ := Aside0.mk (below_step (by repeat (first | (with_reducible first | exact HB.out | apply below_alloc | apply pw_below_drewN | apply below_drew1 | refine below_set ?_ GE4001.out | refine below_set ?_ GE4002.out) | exact HB.out)) hb); clear BK4001; clear BK4002; clear HB; have BK4001 := n0_; have BK4002 := n1_; have HB := n2_; clear n0_ n1_ n2_; (try clear hb); (try clear hb2); (try clear hk); (try clear hi); have hcz17_0 : w16.cell? ⟨gb4002, 0, none⟩ = some (.int .i64 a1_0) := (blk_cell BK4002.out 0).trans rfl; have hcz17_1 : w16.cell? ⟨gb4002, 1, none⟩ = some (.int .i64 a1_1) := (blk_cell BK4002.out 1).trans rfl; have hcz17_2 : w16.cell? ⟨gb4002, 2, none⟩ = some (.int .i64 a1_2) := (blk_cell BK4002.out 2).trans rfl; have hcz17_3 : w16.cell? ⟨gb4002, 3, none⟩ = some (.slice A1_3 l1_3.length c1_3) := (blk_cell BK4002.out 3).trans rfl; have hfz17_0 := blk_frozen BK4002.out 0; have hfz17_1 := blk_frozen BK4002.out 1; have hfz17_2 := blk_frozen BK4002.out 2; have hfz17_3 := blk_frozen BK4002.out 3) | ((with_reducible refine gate_callee (f := 20) rfl ?_); refine goesL_ (some 17) rfl rfl Try.func20 (by kernel_rfl) rfl #[.agg #[.int .i64 a1_0, .int .i64 a1_1, .int .i64 a1_2, .slice A1_3 l1_3.length c1_3], .int .i64 t4003] rfl (by (try simp only [List.map_toArray, List.map_cons, List.map_nil]); first | done | rfl | (simp only [List.length_drop, List.length_take]; rfl)) ?_; (with_reducible refine (laws_szImage.calls a1_0 a1_1 a1_2 _ _ l1_3 t4003 t4004 _ ?side1 ?side2 A10.out).mono ?_); (case side1 => repeat (first | exact (Kd.C_below HR1_3.out HB.out) | (with_reducible refine Kd.C_alloc ?_ _) | (with_reducible refine Kd.C_drewN ?_ _) | (with_reducible refine Kd.C_drew ?_))); (case side2 => exact HC1_3.out); rintro e w18 ⟨rfl, hb⟩; refine ⟨_, rfl, ?_⟩; have n0_ := Aside0.mk (blk_below (g := gb4001) (o := .cells #[.int .i64 a0_0, .int .i64 a0_1, .int .i64 a0_2, .slice A0_3 l0_3.length c0_3] 24 (0, 0)) (by (with_reducible repeat (first | refine blk_drewN ?_ _ | refine blk_drew ?_ | refine blk_alloc ?_ _)); exact BK4001.out) hb); have n1_ := Aside0.mk (blk_below (g := gb4002) (o := .cells #[.int .i64 a1_0, .int .i64 a1_1, .int .i64 a1_2, .slice A1_3 l1_3.length c1_3] 24 (0, 0)) (by (with_reducible repeat (first | refine blk_drewN ?_ _ | refine blk_drew ?_ | refine blk_alloc ?_ _)); exact BK4002.out) hb); have n2_ := Aside0.mk (below_step (by repeat (first | (with_reducible first | exact HB.out | apply below_alloc | apply pw_below_drewN | apply below_drew1 | refine below_set ?_ GE4001.out | refine below_set ?_ GE4002.out) | exact HB.out)) hb); clear BK4001; clear BK4002; clear HB; have BK4001 := n0_; have BK4002 := n1_; have HB := n2_; clear n0_ n1_ n2_; (try clear hb); (try clear hb2); (try clear hk); (try clear hi)))
      go_ret
      exact ⟨by first | rfl | (simp [errW_none, errW_some] <;> rfl) | (simp [*, errW_none, errW_some] <;> rfl), by repeat (first | (with_reducible first | exact HB.out | apply below_alloc | apply pw_below_drewN | apply below_drew1 | refine below_set ?_ GE4001.out | refine below_set ?_ GE4002.out) | exact HB.out)⟩
    · rw [if_neg c11] at H
      have c11b0 : decide (t4004 < 0) = false := decide_eq_false c11
      clear c11
      replace H := Option.bind_eq_some_iff.mp H
      obtain ⟨⟨t4005, t4006, t4007, t4008⟩, A190, H⟩ := H
      replace H : ((laws_toImage.f k a1_0 a1_1 a1_2 l1_3).bind fun bt4011 => ((spec_GapOf.f k t4005 t4006 t4007 t4008 bt4011.1 bt4011.2.1 bt4011.2.2.1 bt4011.2.2.2).bind fun t4017 => ((laws_toImage.f k a0_0 a0_1 a0_2 l0_3).bind fun bt4018 => ((laws_toImage.f k a1_0 a1_1 a1_2 l1_3).bind fun bt4025 => ((impl_GapOf.f k bt4018.1 bt4018.2.1 bt4018.2.2.1 bt4018.2.2.2 bt4025.1 bt4025.2.1 bt4025.2.2.1 bt4025.2.2.2).bind fun t4032 => (if t4032 = t4017 then ((laws_toImage.f k a0_0 a0_1 a0_2 l0_3).bind fun bt4033 => ((laws_eqImage.f k bt4018.1 bt4018.2.1 bt4018.2.2.1 bt4018.2.2.2 bt4033.1 bt4033.2.1 bt4033.2.2.1 bt4033.2.2.2).bind fun t4039 => (if t4039 = true then ((laws_toImage.f k a1_0 a1_1 a1_2 l1_3).bind fun bt4040 => ((laws_eqImage.f k bt4025.1 bt4025.2.1 bt4025.2.2.1 bt4025.2.2.2 bt4040.1 bt4040.2.1 bt4040.2.2.1 bt4040.2.2.2).bind fun t4046 => (if t4046 = true then (some true) else (some false)))) else (some false)))) else (some false))))))) = some r := H
      have A19 := Aside0.mk A190
      clear A190
      replace H := Option.bind_eq_some_iff.mp H
      obtain ⟨⟨t4011, t4012, t4013, t4014⟩, A200, H⟩ := H
      replace H : ((spec_GapOf.f k t4005 t4006 t4007 t4008 t4011 t4012 t4013 t4014).bind fun t4017 => ((laws_toImage.f k a0_0 a0_1 a0_2 l0_3).bind fun bt4018 => ((laws_toImage.f k a1_0 a1_1 a1_2 l1_3).bind fun bt4025 => ((impl_GapOf.f k bt4018.1 bt4018.2.1 bt4018.2.2.1 bt4018.2.2.2 bt4025.1 bt4025.2.1 bt4025.2.2.1 bt4025.2.2.2).bind fun t4032 => (if t4032 = t4017 then ((laws_toImage.f k a0_0 a0_1 a0_2 l0_3).bind fun bt4033 => ((laws_eqImage.f k bt4018.1 bt4018.2.1 bt4018.2.2.1 bt4018.2.2.2 bt4033.1 bt4033.2.1 bt4033.2.2.1 bt4033.2.2.2).bind fun t4039 => (if t4039 = true then ((laws_toImage.f k a1_0 a1_1 a1_2 l1_3).bind fun bt4040 => ((laws_eqImage.f k bt4025.1 bt4025.2.1 bt4025.2.2.1 bt4025.2.2.2 bt4040.1 bt4040.2.1 bt4040.2.2.1 bt4040.2.2.2).bind fun t4046 => (if t4046 = true then (some true) else (some false)))) else (some false)))) else (some false)))))) = some r := H
      have A20 := Aside0.mk A200
      clear A200
      replace H := Option.bind_eq_some_iff.mp H
      obtain ⟨t4017, A210, H⟩ := H
      replace H : ((laws_toImage.f k a0_0 a0_1 a0_2 l0_3).bind fun bt4018 => ((laws_toImage.f k a1_0 a1_1 a1_2 l1_3).bind fun bt4025 => ((impl_GapOf.f k bt4018.1 bt4018.2.1 bt4018.2.2.1 bt4018.2.2.2 bt4025.1 bt4025.2.1 bt4025.2.2.1 bt4025.2.2.2).bind fun t4032 => (if t4032 = t4017 then ((laws_toImage.f k a0_0 a0_1 a0_2 l0_3).bind fun bt4033 => ((laws_eqImage.f k bt4018.1 bt4018.2.1 bt4018.2.2.1 bt4018.2.2.2 bt4033.1 bt4033.2.1 bt4033.2.2.1 bt4033.2.2.2).bind fun t4039 => (if t4039 = true then ((laws_toImage.f k a1_0 a1_1 a1_2 l1_3).bind fun bt4040 => ((laws_eqImage.f k bt4025.1 bt4025.2.1 bt4025.2.2.1 bt4025.2.2.2 bt4040.1 bt4040.2.1 bt4040.2.2.1 bt4040.2.2.2).bind fun t4046 => (if t4046 = true then (some true) else (some false)))) else (some false)))) else (some false))))) = some r := H
      have A21 := Aside0.mk A210
      clear A210
      replace H := Option.bind_eq_some_iff.mp H
      obtain ⟨⟨t4018, t4019, t4020, t4021⟩, A220, H⟩ := H
      replace H : ((laws_toImage.f k a1_0 a1_1 a1_2 l1_3).bind fun bt4025 => ((impl_GapOf.f k t4018 t4019 t4020 t4021 bt4025.1 bt4025.2.1 bt4025.2.2.1 bt4025.2.2.2).bind fun t4032 => (if t4032 = t4017 then ((laws_toImage.f k a0_0 a0_1 a0_2 l0_3).bind fun bt4033 => ((laws_eqImage.f k t4018 t4019 t4020 t4021 bt4033.1 bt4033.2.1 bt4033.2.2.1 bt4033.2.2.2).bind fun t4039 => (if t4039 = true then ((laws_toImage.f k a1_0 a1_1 a1_2 l1_3).bind fun bt4040 => ((laws_eqImage.f k bt4025.1 bt4025.2.1 bt4025.2.2.1 bt4025.2.2.2 bt4040.1 bt4040.2.1 bt4040.2.2.1 bt4040.2.2.2).bind fun t4046 => (if t4046 = true then (some true) else (some false)))) else (some false)))) else (some false)))) = some r := H
      have A22 := Aside0.mk A220
      clear A220
      replace H := Option.bind_eq_some_iff.mp H
      obtain ⟨⟨t4025, t4026, t4027, t4028⟩, A230, H⟩ := H
      replace H : ((impl_GapOf.f k t4018 t4019 t4020 t4021 t4025 t4026 t4027 t4028).bind fun t4032 => (if t4032 = t4017 then ((laws_toImage.f k a0_0 a0_1 a0_2 l0_3).bind fun bt4033 => ((laws_eqImage.f k t4018 t4019 t4020 t4021 bt4033.1 bt4033.2.1 bt4033.2.2.1 bt4033.2.2.2).bind fun t4039 => (if t4039 = true then ((laws_toImage.f k a1_0 a1_1 a1_2 l1_3).bind fun bt4040 => ((laws_eqImage.f k t4025 t4026 t4027 t4028 bt4040.1 bt4040.2.1 bt4040.2.2.1 bt4040.2.2.2).bind fun t4046 => (if t4046 = true then (some true) else (some false)))) else (some false)))) else (some false))) = some r := H
      have A23 := Aside0.mk A230
      clear A230
      replace H := Option.bind_eq_some_iff.mp H
      obtain ⟨t4032, A240, H⟩ := H
      replace H : (if t4032 = t4017 then ((laws_toImage.f k a0_0 a0_1 a0_2 l0_3).bind fun bt4033 => ((laws_eqImage.f k t4018 t4019 t4020 t4021 bt4033.1 bt4033.2.1 bt4033.2.2.1 bt4033.2.2.2).bind fun t4039 => (if t4039 = true then ((laws_toImage.f k a1_0 a1_1 a1_2 l1_3).bind fun bt4040 => ((laws_eqImage.f k t4025 t4026 t4027 t4028 bt4040.1 bt4040.2.1 bt4040.2.2.1 bt4040.2.2.2).bind fun t4046 => (if t4046 = true then (some true) else (some false)))) else (some false)))) else (some false)) = some r := H
      have A24 := Aside0.mk A240
      clear A240
      by_cases c25 : t4032 = t4017
      · rw [if_pos c25] at H
        have c25b0 : (t4032 == t4017) = true := beq_iff_eq.mpr c25
        have c25b1 : (t4032 != t4017) = false := bne_eq_false_iff_eq.mpr c25
        clear c25
        replace H := Option.bind_eq_some_iff.mp H
        obtain ⟨⟨t4033, t4034, t4035, t4036⟩, A260, H⟩ := H
        replace H : ((laws_eqImage.f k t4018 t4019 t4020 t4021 t4033 t4034 t4035 t4036).bind fun t4039 => (if t4039 = true then ((laws_toImage.f k a1_0 a1_1 a1_2 l1_3).bind fun bt4040 => ((laws_eqImage.f k t4025 t4026 t4027 t4028 bt4040.1 bt4040.2.1 bt4040.2.2.1 bt4040.2.2.2).bind fun t4046 => (if t4046 = true then (some true) else (some false)))) else (some false))) = some r := H
        have A26 := Aside0.mk A260
        clear A260
        replace H := Option.bind_eq_some_iff.mp H
        obtain ⟨t4039, A270, H⟩ := H
        replace H : (if t4039 = true then ((laws_toImage.f k a1_0 a1_1 a1_2 l1_3).bind fun bt4040 => ((laws_eqImage.f k t4025 t4026 t4027 t4028 bt4040.1 bt4040.2.1 bt4040.2.2.1 bt4040.2.2.2).bind fun t4046 => (if t4046 = true then (some true) else (some false)))) else (some false)) = some r := H
        have A27 := Aside0.mk A270
        clear A270
        by_cases c28 : t4039 = true
        · subst c28
          have H1 : ((laws_toImage.f k a1_0 a1_1 a1_2 l1_3).bind fun bt4040 => ((laws_eqImage.f k t4025 t4026 t4027 t4028 bt4040.1 bt4040.2.1 bt4040.2.2.1 bt4040.2.2.2).bind fun t4046 => (if t4046 = true then (some true) else (some false)))) = some r := by rw [if_pos rfl] at H; exact H
          clear H
          have H := H1
          clear H1
          replace H := Option.bind_eq_some_iff.mp H
          obtain ⟨⟨t4040, t4041, t4042, t4043⟩, A290, H⟩ := H
          replace H : ((laws_eqImage.f k t4025 t4026 t4027 t4028 t4040 t4041 t4042 t4043).bind fun t4046 => (if t4046 = true then (some true) else (some false))) = some r := H
          have A29 := Aside0.mk A290
          clear A290
          replace H := Option.bind_eq_some_iff.mp H
          obtain ⟨t4046, A300, H⟩ := H
          replace H : (if t4046 = true then (some true) else (some false)) = some r := H
          have A30 := Aside0.mk A300
          clear A300
          by_cases c31 : t4046 = true
          · subst c31
            have H1 : (some true) = some r := by rw [if_pos rfl] at H; exact H
            clear H
            have H := H1
            clear H1
            obtain rfl := Option.some.inj H
            go_enter Try.func3, Try.ntmps3
            try go_wp2_with (first | ((with_reducible refine gate_dst (N := 2) rfl ?_); refine box_event ?hg (N := 2) ?hd (cs := #[.int .i64 a0_0, .int .i64 a0_1, .int .i64 a0_2, .slice A0_3 l0_3.length c0_3]) (t := 24) ?hr ?_; (case hd => rfl); (case hg => rfl); (case hr => first | (go_simp; done) | (go_simp; rfl)); intro gb4001 hg w32 hbox hb; have n0_ := Aside0.mk (below_step (by repeat (first | (with_reducible first | exact HB.out | apply below_alloc | apply pw_below_drewN | apply below_drew1) | exact HB.out)) hb); have n1_ := Aside0.mk (hbox); have n2_ := Aside0.mk ((by rw [hg]; exact (below_size (by repeat (first | (with_reducible first | exact HB.out | apply below_alloc | apply pw_below_drewN | apply below_drew1) | exact HB.out))) : w.heap.size ≤ gb4001)); have n3_ := Aside0.mk ((by rw [hg]; exact (below_size (by repeat (first | (with_reducible first | exact HB.out | apply below_alloc | apply pw_below_drewN | apply below_drew1) | exact HB.out))) : w.heap.size ≤ gb4001)); clear HB; have HB := n0_; have BK4001 := n1_; have GW4001 := n2_; have GE4001 := n3_; clear n0_ n1_ n2_ n3_; clear hb hbox hg) | ((with_reducible refine gate_dst (N := 3) rfl ?_); refine box_event ?hg (N := 3) ?hd (cs := #[.int .i64 a1_0, .int .i64 a1_1, .int .i64 a1_2, .slice A1_3 l1_3.length c1_3]) (t := 24) ?hr ?_; (case hd => rfl); (case hg => rfl); (case hr => first | (go_simp; done) | (go_simp; rfl)); intro gb4002 hg w33 hbox hb; have n0_ := Aside0.mk (blk_below (g := gb4001) (o := .cells #[.int .i64 a0_0, .int .i64 a0_1, .int .i64 a0_2, .slice A0_3 l0_3.length c0_3] 24 (0, 0)) (by (with_reducible repeat (first | refine blk_drewN ?_ _ | refine blk_drew ?_ | refine blk_alloc ?_ _)); exact BK4001.out) hb); have n1_ := Aside0.mk (below_step (by repeat (first | (with_reducible first | exact HB.out | apply below_alloc | apply pw_below_drewN | apply below_drew1 | refine below_set ?_ GE4001.out) | exact HB.out)) hb); have n2_ := Aside0.mk (hbox); have n3_ := Aside0.mk ((by rw [hg]; exact (below_size (by repeat (first | (with_reducible first | exact HB.out | apply below_alloc | apply pw_below_drewN | apply below_drew1 | refine below_set ?_ GE4001.out) | exact HB.out))) : w.heap.size ≤ gb4002)); have n4_ := Aside0.mk ((by rw [hg]; exact (below_size (by repeat (first | (with_reducible first | exact HB.out | apply below_alloc | apply pw_below_drewN | apply below_drew1 | refine below_set ?_ GE4001.out) | exact HB.out))) : w.heap.size ≤ gb4002)); have n5_ := Aside0.mk ((by rw [hg]; exact Nat.ne_of_lt (blk_lt (g := gb4001) (o := .cells #[.int .i64 a0_0, .int .i64 a0_1, .int .i64 a0_2, .slice A0_3 l0_3.length c0_3] 24 (0, 0)) (by (with_reducible repeat (first | refine blk_drewN ?_ _ | refine blk_drew ?_ | refine blk_alloc ?_ _)); exact BK4001.out)) : gb4001 ≠ gb4002)); have n6_ := Aside0.mk ((by rw [hg]; exact Nat.ne_of_gt (blk_lt (g := gb4001) (o := .cells #[.int .i64 a0_0, .int .i64 a0_1, .int .i64 a0_2, .slice A0_3 l0_3.length c0_3] 24 (0, 0)) (by (with_reducible repeat (first | refine blk_drewN ?_ _ | refine blk_drew ?_ | refine blk_alloc ?_ _)); exact BK4001.out)) : gb4002 ≠ gb4001)); clear BK4001; clear HB; have BK4001 := n0_; have HB := n1_; have BK4002 := n2_; have GW4002 := n3_; have GE4002 := n4_; have NB4001_4002 := n5_; have NB4002_4001 := n6_; clear n0_ n1_ n2_ n3_ n4_ n5_ n6_; clear hb hbox hg; have hnb34 := NB4001_4002.out; have hnc34 := NB4002_4001.out; have hcz35_0 : w33.cell? ⟨gb4001, 0, none⟩ = some (.int .i64 a0_0) := (blk_cell BK4001.out 0).trans rfl; have hcz35_1 : w33.cell? ⟨gb4001, 1, none⟩ = some (.int .i64 a0_1) := (blk_cell BK4001.out 1).trans rfl; have hcz35_2 : w33.cell? ⟨gb4001, 2, none⟩ = some (.int .i64 a0_2) := (blk_cell BK4001.out 2).trans rfl; have hcz35_3 : w33.cell? ⟨gb4001, 3, none⟩ = some (.slice A0_3 l0_3.length c0_3) := (blk_cell BK4001.out 3).trans rfl; have hfz35_0 := blk_frozen BK4001.out 0; have hfz35_1 := blk_frozen BK4001.out 1; have hfz35_2 := blk_frozen BK4001.out 2; have hfz35_3 := blk_frozen BK4001.out 3) | ((with_reducible refine gate_callee (f := 20) rfl ?_); refine goesL_ (some 12) rfl rfl Try.func20 (by kernel_rfl) rfl #[.agg #[.int .i64 a0_0, .int .i64 a0_1, .int .i64 a0_2, .slice A0_3 l0_3.length c0_3], .int .i64 1048576] rfl (by (try simp only [List.map_toArray, List.map_cons, List.map_nil]); first | done | rfl | (simp only [List.length_drop, List.length_take]; rfl)) ?_; (with_reducible refine (laws_szImage.calls a0_0 a0_1 a0_2 _ _ l0_3 1048576 t4003 _ ?side1 ?side2 A3.out).mono ?_); (case side1 => repeat (first | exact (Kd.C_below HR0_3.out HB.out) | (with_reducible refine Kd.C_alloc ?_ _) | (with_reducible refine Kd.C_drewN ?_ _) | (with_reducible refine Kd.C_drew ?_))); (case side2 => exact HC0_3.out); rintro e w36 ⟨rfl, hb⟩; refine ⟨_, rfl, ?_⟩; have n0_ := Aside0.mk (blk_below (g := gb4001) (o := .cells #[.int .i64 a0_0, .int .i64 a0_1, .int .i64 a0_2, .slice A0_3 l0_3.length c0_3] 24 (0, 0)) (by (with_reducible repeat (first | refine blk_drewN ?_ _ | refine blk_drew ?_ | refine blk_alloc ?_ _)); exact BK4001.out) hb); have n1_ := Aside0.mk (blk_below (g := gb4002) (o := .cells #[.int .i64 a1_0, .int .i64 a1_1, .int .i64 a1_2, .slice A1_3 l1_3.length c1_3] 24 (0, 0)) (by (with_reducible repeat (first | refine blk_drewN ?_ _ | refine blk_drew ?_ | refine blk_alloc ?_ _)); exact BK4002.out) hb); have n2_ := Aside0.mk (below_step (by repeat (first | (with_reducible first | exact HB.out | apply below_alloc | apply pw_below_drewN | apply below_drew1 | refine below_set ?_ GE4001.out | refine below_set ?_ GE4002.out) | exact HB.out)) hb); clear BK4001; clear BK4002; clear HB; have BK4001 := n0_; have BK4002 := n1_; have HB := n2_; clear n0_ n1_ n2_; (try clear hb); (try clear hb2); (try clear hk); (try clear hi); have hcz37_0 : w36.cell? ⟨gb4002, 0, none⟩ = some (.int .i64 a1_0) := (blk_cell BK4002.out 0).trans rfl; have hcz37_1 : w36.cell? ⟨gb4002, 1, none⟩ = some (.int .i64 a1_1) := (blk_cell BK4002.out 1).trans rfl; have hcz37_2 : w36.cell? ⟨gb4002, 2, none⟩ = some (.int .i64 a1_2) := (blk_cell BK4002.out 2).trans rfl; have hcz37_3 : w36.cell? ⟨gb4002, 3, none⟩ = some (.slice A1_3 l1_3.length c1_3) := (blk_cell BK4002.out 3).trans rfl; have hfz37_0 := blk_frozen BK4002.out 0; have hfz37_1 := blk_frozen BK4002.out 1; have hfz37_2 := blk_frozen BK4002.out 2; have hfz37_3 := blk_frozen BK4002.out 3) | ((with_reducible refine gate_callee (f := 20) rfl ?_); refine goesL_ (some 17) rfl rfl Try.func20 (by kernel_rfl) rfl #[.agg #[.int .i64 a1_0, .int .i64 a1_1, .int .i64 a1_2, .slice A1_3 l1_3.length c1_3], .int .i64 t4003] rfl (by (try simp only [List.map_toArray, List.map_cons, List.map_nil]); first | done | rfl | (simp only [List.length_drop, List.length_take]; rfl)) ?_; (with_reducible refine (laws_szImage.calls a1_0 a1_1 a1_2 _ _ l1_3 t4003 t4004 _ ?side1 ?side2 A10.out).mono ?_); (case side1 => repeat (first | exact (Kd.C_below HR1_3.out HB.out) | (with_reducible refine Kd.C_alloc ?_ _) | (with_reducible refine Kd.C_drewN ?_ _) | (with_reducible refine Kd.C_drew ?_))); (case side2 => exact HC1_3.out); rintro e w38 ⟨rfl, hb⟩; refine ⟨_, rfl, ?_⟩; have n0_ := Aside0.mk (blk_below (g := gb4001) (o := .cells #[.int .i64 a0_0, .int .i64 a0_1, .int .i64 a0_2, .slice A0_3 l0_3.length c0_3] 24 (0, 0)) (by (with_reducible repeat (first | refine blk_drewN ?_ _ | refine blk_drew ?_ | refine blk_alloc ?_ _)); exact BK4001.out) hb); have n1_ := Aside0.mk (blk_below (g := gb4002) (o := .cells #[.int .i64 a1_0, .int .i64 a1_1, .int .i64 a1_2, .slice A1_3 l1_3.length c1_3] 24 (0, 0)) (by (with_reducible repeat (first | refine blk_drewN ?_ _ | refine blk_drew ?_ | refine blk_alloc ?_ _)); exact BK4002.out) hb); have n2_ := Aside0.mk (below_step (by repeat (first | (with_reducible first | exact HB.out | apply below_alloc | apply pw_below_drewN | apply below_drew1 | refine below_set ?_ GE4001.out | refine below_set ?_ GE4002.out) | exact HB.out)) hb); clear BK4001; clear BK4002; clear HB; have BK4001 := n0_; have BK4002 := n1_; have HB := n2_; clear n0_ n1_ n2_; (try clear hb); (try clear hb2); (try clear hk); (try clear hi)))
            have n0_ := Aside0.mk (blk_drew BK4001.out)
            have n1_ := Aside0.mk (blk_drew BK4002.out)
            have n2_ := Aside0.mk (below_drew1 HB.out)
            clear BK4001
            clear BK4002
            clear HB
            have BK4001 := n0_
            have BK4002 := n1_
            have HB := n2_
            clear n0_ n1_ n2_
            refine start_ (n := 6) (S := fun w' => w'.cell? ⟨gb4001, 0, none⟩ = some (.int .i64 a0_0) ∧ w'.cell? ⟨gb4001, 1, none⟩ = some (.int .i64 a0_1) ∧ w'.cell? ⟨gb4001, 2, none⟩ = some (.int .i64 a0_2) ∧ w'.cell? ⟨gb4001, 3, none⟩ = some (.slice A0_3 l0_3.length c0_3) ∧ w'.cell? ⟨gb4002, 0, none⟩ = some (.int .i64 a1_0) ∧ w'.cell? ⟨gb4002, 1, none⟩ = some (.int .i64 a1_1) ∧ w'.cell? ⟨gb4002, 2, none⟩ = some (.int .i64 a1_2) ∧ w'.cell? ⟨gb4002, 3, none⟩ = some (.slice A1_3 l1_3.length c1_3)) (ds := []) #[false, false, false, false, false, false] (by kernel_rfl) rfl rfl ⟨(blk_cell BK4001.out 0).trans rfl, (blk_cell BK4001.out 1).trans rfl, (blk_cell BK4001.out 2).trans rfl, (blk_cell BK4001.out 3).trans rfl, (blk_cell BK4002.out 0).trans rfl, (blk_cell BK4002.out 1).trans rfl, (blk_cell BK4002.out 2).trans rfl, (blk_cell BK4002.out 3).trans rfl⟩ (fun hHeld => ?_)
            generalize w38.drew = w39 at BK4001 BK4002 HB hHeld ⊢
            refine take_ (i := 0) (N := some 20) (v := ?_) (a' := ?_) #[true, false, false, false, false, false] rfl rfl (by kernel_rfl) (fun _ _ _ h => h) (Or.inl ⟨by rfl, ?_⟩) hHeld ?_ ?_
            rotate_left
            · rintro w' ⟨s0, s1, s2, s3, s4, s5, s6, s7⟩
              go_simp
              with_reducible rfl
            rotate_left
            · simp only [Act.put, List.setIfInBounds_toArray, List.set_cons_zero, List.set_cons_succ, i64_w, i32_w]
              rfl
            refine take_ (i := 2) (N := some 22) (v := ?_) (a' := ?_) #[true, false, true, false, false, false] rfl rfl (by kernel_rfl) (fun _ _ _ h => h) (Or.inl ⟨by rfl, ?_⟩) hHeld ?_ ?_
            rotate_left
            · rintro w' ⟨s0, s1, s2, s3, s4, s5, s6, s7⟩
              go_simp
              with_reducible rfl
            rotate_left
            · simp only [Act.put, List.setIfInBounds_toArray, List.set_cons_zero, List.set_cons_succ, i64_w, i32_w]
              rfl
            refine one_ (i := 1) (N := some 21) #[true, true, true, false, false, false] rfl rfl (by kernel_rfl) (by decide) (fun K hK => ?_)
            refine goes_ Try.func22 (by kernel_rfl) rfl #[.agg #[.int .i64 a0_0, .int .i64 a0_1, .int .i64 a0_2, .slice A0_3 l0_3.length c0_3]] (by rfl) rfl rfl (by (try simp only [List.map_toArray, List.map_cons, List.map_nil]); first | done | rfl | (simp only [List.length_drop, List.length_take]; rfl)) ?_
            with_reducible refine (laws_toImage.calls k a0_0 a0_1 a0_2 _ _ l0_3 t4005 t4006 t4007 t4008 _ ?side1 ?side2 A19.out).mono ?_
            (case side1 => repeat (first | exact (Kd.C_below HR0_3.out HB.out) | (with_reducible refine Kd.C_alloc ?_ _) | (with_reducible refine Kd.C_drewN ?_ _) | (with_reducible refine Kd.C_drew ?_)))
            (case side2 => exact HC0_3.out)
            rintro e w40 ⟨v4009, rfl, ho0, hb⟩
            refine ⟨_, rfl, ?_⟩
            have n0_ := Aside0.mk (Kd.R_lower ho0 (below_size (by repeat (first | (with_reducible first | exact HB.out | apply below_alloc | apply pw_below_drewN | apply below_drew1 | refine below_set ?_ GE4001.out | refine below_set ?_ GE4002.out) | exact HB.out))))
            have n1_ := Aside0.mk (blk_below (g := gb4001) (o := .cells #[.int .i64 a0_0, .int .i64 a0_1, .int .i64 a0_2, .slice A0_3 l0_3.length c0_3] 24 (0, 0)) (by (with_reducible repeat (first | refine blk_drewN ?_ _ | refine blk_drew ?_ | refine blk_alloc ?_ _)); exact BK4001.out) hb)
            have n2_ := Aside0.mk (blk_below (g := gb4002) (o := .cells #[.int .i64 a1_0, .int .i64 a1_1, .int .i64 a1_2, .slice A1_3 l1_3.length c1_3] 24 (0, 0)) (by (with_reducible repeat (first | refine blk_drewN ?_ _ | refine blk_drew ?_ | refine blk_alloc ?_ _)); exact BK4002.out) hb)
            have n3_ := Aside0.mk (below_step (by repeat (first | (with_reducible first | exact HB.out | apply below_alloc | apply pw_below_drewN | apply below_drew1 | refine below_set ?_ GE4001.out | refine below_set ?_ GE4002.out) | exact HB.out)) hb)
            clear BK4001
            clear BK4002
            clear HB
            have HO4010 := n0_
            have BK4001 := n1_
            have BK4002 := n2_
            have HB := n3_
            clear n0_ n1_ n2_ n3_
            (try clear hb)
            (try clear hb2)
            (try clear hk)
            (try clear hi)
            (try clear ho0)
            refine hK.out _ _ ⟨(blk_cell BK4001.out 0).trans rfl, (blk_cell BK4001.out 1).trans rfl, (blk_cell BK4001.out 2).trans rfl, (blk_cell BK4001.out 3).trans rfl, (blk_cell BK4002.out 0).trans rfl, (blk_cell BK4002.out 1).trans rfl, (blk_cell BK4002.out 2).trans rfl, (blk_cell BK4002.out 3).trans rfl⟩ (fun hHeld => ?_)
            clear hK K
            refine norm_ (a' := ?_) ?_ ?_
            rotate_left
            · show Act.put _ (some 21) _ = _
              simp only [Act.put, List.setIfInBounds_toArray, List.set_cons_zero, List.set_cons_succ, i64_w, i32_w]
              rfl
            refine one_ (i := 3) (N := some 23) #[true, true, true, true, false, false] rfl rfl (by kernel_rfl) (by decide) (fun K hK => ?_)
            refine goes_ Try.func22 (by kernel_rfl) rfl #[.agg #[.int .i64 a1_0, .int .i64 a1_1, .int .i64 a1_2, .slice A1_3 l1_3.length c1_3]] (by rfl) rfl rfl (by (try simp only [List.map_toArray, List.map_cons, List.map_nil]); first | done | rfl | (simp only [List.length_drop, List.length_take]; rfl)) ?_
            with_reducible refine (laws_toImage.calls k a1_0 a1_1 a1_2 _ _ l1_3 t4011 t4012 t4013 t4014 _ ?side1 ?side2 A20.out).mono ?_
            (case side1 => repeat (first | exact (Kd.C_below HR1_3.out HB.out) | (with_reducible refine Kd.C_alloc ?_ _) | (with_reducible refine Kd.C_drewN ?_ _) | (with_reducible refine Kd.C_drew ?_)))
            (case side2 => exact HC1_3.out)
            rintro e w41 ⟨v4015, rfl, ho0, hb⟩
            refine ⟨_, rfl, ?_⟩
            have n0_ := Aside0.mk (Kd.R_elder' (by (with_reducible repeat (first | apply Kd.R_alloc | apply Kd.R_drewN | apply Kd.R_drew)); exact HO4010.out) (Kd.R_base ho0) hb)
            have n1_ := Aside0.mk (Kd.R_lower (Kd.R_new' ho0 (Kd.R_lt (by (with_reducible repeat (first | apply Kd.R_alloc | apply Kd.R_drewN | apply Kd.R_drew)); exact HO4010.out))) (below_size (by repeat (first | (with_reducible first | exact HB.out | apply below_alloc | apply pw_below_drewN | apply below_drew1 | refine below_set ?_ GE4001.out | refine below_set ?_ GE4002.out) | exact HB.out))))
            have n2_ := Aside0.mk (blk_below (g := gb4001) (o := .cells #[.int .i64 a0_0, .int .i64 a0_1, .int .i64 a0_2, .slice A0_3 l0_3.length c0_3] 24 (0, 0)) (by (with_reducible repeat (first | refine blk_drewN ?_ _ | refine blk_drew ?_ | refine blk_alloc ?_ _)); exact BK4001.out) hb)
            have n3_ := Aside0.mk (blk_below (g := gb4002) (o := .cells #[.int .i64 a1_0, .int .i64 a1_1, .int .i64 a1_2, .slice A1_3 l1_3.length c1_3] 24 (0, 0)) (by (with_reducible repeat (first | refine blk_drewN ?_ _ | refine blk_drew ?_ | refine blk_alloc ?_ _)); exact BK4002.out) hb)
            have n4_ := Aside0.mk (below_step (by repeat (first | (with_reducible first | exact HB.out | apply below_alloc | apply pw_below_drewN | apply below_drew1 | refine below_set ?_ GE4001.out | refine below_set ?_ GE4002.out) | exact HB.out)) hb)
            clear HO4010
            clear BK4001
            clear BK4002
            clear HB
            have HO4010 := n0_
            have HO4016 := n1_
            have BK4001 := n2_
            have BK4002 := n3_
            have HB := n4_
            clear n0_ n1_ n2_ n3_ n4_
            (try clear hb)
            (try clear hb2)
            (try clear hk)
            (try clear hi)
            (try clear ho0)
            obtain ⟨Ao42, co42, eo42⟩ := Kd.R_slice HO4010.out
            (first | subst eo42 | (injection eo42 with f1_ f2_ f3_; have f4_ := f1_.symm; have f5_ := f3_.symm; clear f1_ f2_ f3_; subst f4_; subst f5_))
            obtain ⟨Ao43, co43, eo43⟩ := Kd.R_slice HO4016.out
            (first | subst eo43 | (injection eo43 with f1_ f2_ f3_; have f4_ := f1_.symm; have f5_ := f3_.symm; clear f1_ f2_ f3_; subst f4_; subst f5_))
            refine hK.out _ _ ⟨(blk_cell BK4001.out 0).trans rfl, (blk_cell BK4001.out 1).trans rfl, (blk_cell BK4001.out 2).trans rfl, (blk_cell BK4001.out 3).trans rfl, (blk_cell BK4002.out 0).trans rfl, (blk_cell BK4002.out 1).trans rfl, (blk_cell BK4002.out 2).trans rfl, (blk_cell BK4002.out 3).trans rfl⟩ (fun hHeld => ?_)
            clear hK K
            refine norm_ (a' := ?_) ?_ ?_
            rotate_left
            · show Act.put _ (some 23) _ = _
              simp only [Act.put, List.setIfInBounds_toArray, List.set_cons_zero, List.set_cons_succ, i64_w, i32_w]
              rfl
            refine one_ (i := 4) (N := some 24) #[true, true, true, true, true, false] rfl rfl (by kernel_rfl) (by decide) (fun K hK => ?_)
            refine goes_ Try.func21 (by kernel_rfl) rfl #[.agg #[.int .i64 t4005, .int .i64 t4006, .int .i64 t4007, .slice Ao42 t4008.length co42], .agg #[.int .i64 t4011, .int .i64 t4012, .int .i64 t4013, .slice Ao43 t4014.length co43]] (by rfl) rfl rfl (by (try simp only [List.map_toArray, List.map_cons, List.map_nil]); first | done | rfl | (simp only [List.length_drop, List.length_take]; rfl)) ?_
            with_reducible refine (spec_GapOf.calls k t4005 t4006 t4007 _ _ t4008 t4011 t4012 t4013 _ _ t4014 t4017 _ ?side1 ?side2 ?side3 ?side4 A21.out).mono ?_
            (case side1 => repeat (first | exact (Kd.R_reads' HO4010.out).2.2 | (with_reducible refine Kd.C_alloc ?_ _) | (with_reducible refine Kd.C_drewN ?_ _) | (with_reducible refine Kd.C_drew ?_)))
            (case side2 => exact (Kd.R_reads' HO4010.out).2.1)
            (case side3 => repeat (first | exact (Kd.R_reads' HO4016.out).2.2 | (with_reducible refine Kd.C_alloc ?_ _) | (with_reducible refine Kd.C_drewN ?_ _) | (with_reducible refine Kd.C_drew ?_)))
            (case side4 => exact (Kd.R_reads' HO4016.out).2.1)
            rintro e w44 ⟨rfl, hb⟩
            refine ⟨_, rfl, ?_⟩
            have n0_ := Aside0.mk (Kd.R_below (by (with_reducible repeat (first | apply Kd.R_alloc | apply Kd.R_drewN | apply Kd.R_drew)); exact HO4010.out) hb)
            have n1_ := Aside0.mk (Kd.R_below (by (with_reducible repeat (first | apply Kd.R_alloc | apply Kd.R_drewN | apply Kd.R_drew)); exact HO4016.out) hb)
            have n2_ := Aside0.mk (blk_below (g := gb4001) (o := .cells #[.int .i64 a0_0, .int .i64 a0_1, .int .i64 a0_2, .slice A0_3 l0_3.length c0_3] 24 (0, 0)) (by (with_reducible repeat (first | refine blk_drewN ?_ _ | refine blk_drew ?_ | refine blk_alloc ?_ _)); exact BK4001.out) hb)
            have n3_ := Aside0.mk (blk_below (g := gb4002) (o := .cells #[.int .i64 a1_0, .int .i64 a1_1, .int .i64 a1_2, .slice A1_3 l1_3.length c1_3] 24 (0, 0)) (by (with_reducible repeat (first | refine blk_drewN ?_ _ | refine blk_drew ?_ | refine blk_alloc ?_ _)); exact BK4002.out) hb)
            have n4_ := Aside0.mk (below_step (by repeat (first | (with_reducible first | exact HB.out | apply below_alloc | apply pw_below_drewN | apply below_drew1 | refine below_set ?_ GE4001.out | refine below_set ?_ GE4002.out) | exact HB.out)) hb)
            clear HO4010
            clear HO4016
            clear BK4001
            clear BK4002
            clear HB
            have HO4010 := n0_
            have HO4016 := n1_
            have BK4001 := n2_
            have BK4002 := n3_
            have HB := n4_
            clear n0_ n1_ n2_ n3_ n4_
            (try clear hb)
            (try clear hb2)
            (try clear hk)
            (try clear hi)
            refine hK.out _ _ ⟨(blk_cell BK4001.out 0).trans rfl, (blk_cell BK4001.out 1).trans rfl, (blk_cell BK4001.out 2).trans rfl, (blk_cell BK4001.out 3).trans rfl, (blk_cell BK4002.out 0).trans rfl, (blk_cell BK4002.out 1).trans rfl, (blk_cell BK4002.out 2).trans rfl, (blk_cell BK4002.out 3).trans rfl⟩ (fun hHeld => ?_)
            clear hK K
            refine norm_ (a' := ?_) ?_ ?_
            rotate_left
            · show Act.put _ (some 24) _ = _
              simp only [Act.put, List.setIfInBounds_toArray, List.set_cons_zero, List.set_cons_succ, i64_w, i32_w]
              rfl
            refine pure_ (i := 5) (N := some 6) (v := ?_) (a' := ?_) #[true, true, true, true, true, true] rfl rfl (by kernel_rfl) (fun _ _ _ h => h) (Or.inl ⟨by rfl, ?_⟩) ?_ ?_
            rotate_left
            · intro w'
              go_simp
              with_reducible rfl
            rotate_left
            · simp only [Act.put, List.setIfInBounds_toArray, List.set_cons_zero, List.set_cons_succ, i64_w, i32_w]
              rfl
            refine done_ (by kernel_rfl) ?_
            have hcz45_0 : w44.cell? ⟨gb4001, 0, none⟩ = some (.int .i64 a0_0) := (blk_cell BK4001.out 0).trans rfl
            have hcz45_1 : w44.cell? ⟨gb4001, 1, none⟩ = some (.int .i64 a0_1) := (blk_cell BK4001.out 1).trans rfl
            have hcz45_2 : w44.cell? ⟨gb4001, 2, none⟩ = some (.int .i64 a0_2) := (blk_cell BK4001.out 2).trans rfl
            have hcz45_3 : w44.cell? ⟨gb4001, 3, none⟩ = some (.slice A0_3 l0_3.length c0_3) := (blk_cell BK4001.out 3).trans rfl
            have hfz45_0 := blk_frozen BK4001.out 0
            have hfz45_1 := blk_frozen BK4001.out 1
            have hfz45_2 := blk_frozen BK4001.out 2
            have hfz45_3 := blk_frozen BK4001.out 3
            try go_wp2_with (first | ((with_reducible refine gate_callee (f := 22) rfl ?_); refine goesL_ (some 26) rfl rfl Try.func22 (by kernel_rfl) rfl #[.agg #[.int .i64 a0_0, .int .i64 a0_1, .int .i64 a0_2, .slice A0_3 l0_3.length c0_3]] rfl (by (try simp only [List.map_toArray, List.map_cons, List.map_nil]); first | done | rfl | (simp only [List.length_drop, List.length_take]; rfl)) ?_; (with_reducible refine (laws_toImage.calls k a0_0 a0_1 a0_2 _ _ l0_3 t4018 t4019 t4020 t4021 _ ?side1 ?side2 A22.out).mono ?_); (case side1 => repeat (first | exact (Kd.C_below HR0_3.out HB.out) | (with_reducible refine Kd.C_alloc ?_ _) | (with_reducible refine Kd.C_drewN ?_ _) | (with_reducible refine Kd.C_drew ?_))); (case side2 => exact HC0_3.out); rintro e w46 ⟨v4022, rfl, ho0, hb⟩; refine ⟨_, rfl, ?_⟩; have n0_ := Aside0.mk (Kd.R_elder' (by (with_reducible repeat (first | apply Kd.R_alloc | apply Kd.R_drewN | apply Kd.R_drew)); exact HO4010.out) (Kd.R_base ho0) hb); have n1_ := Aside0.mk (Kd.R_elder' (by (with_reducible repeat (first | apply Kd.R_alloc | apply Kd.R_drewN | apply Kd.R_drew)); exact HO4016.out) (Kd.R_base ho0) hb); have n2_ := Aside0.mk (Kd.R_lower (Kd.R_new' (Kd.R_new' ho0 (Kd.R_lt (by (with_reducible repeat (first | apply Kd.R_alloc | apply Kd.R_drewN | apply Kd.R_drew)); exact HO4010.out))) (Kd.R_lt (by (with_reducible repeat (first | apply Kd.R_alloc | apply Kd.R_drewN | apply Kd.R_drew)); exact HO4016.out))) (below_size (by repeat (first | (with_reducible first | exact HB.out | apply below_alloc | apply pw_below_drewN | apply below_drew1 | refine below_set ?_ GE4001.out | refine below_set ?_ GE4002.out) | exact HB.out)))); have n3_ := Aside0.mk (blk_below (g := gb4001) (o := .cells #[.int .i64 a0_0, .int .i64 a0_1, .int .i64 a0_2, .slice A0_3 l0_3.length c0_3] 24 (0, 0)) (by (with_reducible repeat (first | refine blk_drewN ?_ _ | refine blk_drew ?_ | refine blk_alloc ?_ _)); exact BK4001.out) hb); have n4_ := Aside0.mk (blk_below (g := gb4002) (o := .cells #[.int .i64 a1_0, .int .i64 a1_1, .int .i64 a1_2, .slice A1_3 l1_3.length c1_3] 24 (0, 0)) (by (with_reducible repeat (first | refine blk_drewN ?_ _ | refine blk_drew ?_ | refine blk_alloc ?_ _)); exact BK4002.out) hb); have n5_ := Aside0.mk (below_step (by repeat (first | (with_reducible first | exact HB.out | apply below_alloc | apply pw_below_drewN | apply below_drew1 | refine below_set ?_ GE4001.out | refine below_set ?_ GE4002.out) | exact HB.out)) hb); clear HO4010; clear HO4016; clear BK4001; clear BK4002; clear HB; have HO4010 := n0_; have HO4016 := n1_; have HO4023 := n2_; have BK4001 := n3_; have BK4002 := n4_; have HB := n5_; clear n0_ n1_ n2_ n3_ n4_ n5_; (try clear hb); (try clear hb2); (try clear hk); (try clear hi); (try clear ho0)) | ((with_reducible refine gate_dst (N := 7) rfl ?_); refine box_event ?hg (N := 7) ?hd (cs := #[.int .i64 0, .int .i64 0, .int .i64 0, .slice none 0 0]) (t := 27) ?hr ?_; (case hd => rfl); (case hg => rfl); (case hr => first | (go_simp; done) | (go_simp; rfl)); intro gb4024 hg w47 hbox hb; have n0_ := Aside0.mk (Kd.R_below (by (with_reducible repeat (first | apply Kd.R_alloc | apply Kd.R_drewN | apply Kd.R_drew)); exact HO4010.out) hb); have n1_ := Aside0.mk (Kd.R_below (by (with_reducible repeat (first | apply Kd.R_alloc | apply Kd.R_drewN | apply Kd.R_drew)); exact HO4016.out) hb); have n2_ := Aside0.mk (Kd.R_below (by (with_reducible repeat (first | apply Kd.R_alloc | apply Kd.R_drewN | apply Kd.R_drew)); exact HO4023.out) hb); have n3_ := Aside0.mk (blk_below (g := gb4001) (o := .cells #[.int .i64 a0_0, .int .i64 a0_1, .int .i64 a0_2, .slice A0_3 l0_3.length c0_3] 24 (0, 0)) (by (with_reducible repeat (first | refine blk_drewN ?_ _ | refine blk_drew ?_ | refine blk_alloc ?_ _)); exact BK4001.out) hb); have n4_ := Aside0.mk (blk_below (g := gb4002) (o := .cells #[.int .i64 a1_0, .int .i64 a1_1, .int .i64 a1_2, .slice A1_3 l1_3.length c1_3] 24 (0, 0)) (by (with_reducible repeat (first | refine blk_drewN ?_ _ | refine blk_drew ?_ | refine blk_alloc ?_ _)); exact BK4002.out) hb); have n5_ := Aside0.mk (below_step (by repeat (first | (with_reducible first | exact HB.out | apply below_alloc | apply pw_below_drewN | apply below_drew1 | refine below_set ?_ GE4001.out | refine below_set ?_ GE4002.out) | exact HB.out)) hb); have n6_ := Aside0.mk (hbox); have n7_ := Aside0.mk ((by rw [hg]; exact (below_size (by repeat (first | (with_reducible first | exact HB.out | apply below_alloc | apply pw_below_drewN | apply below_drew1 | refine below_set ?_ GE4001.out | refine below_set ?_ GE4002.out) | exact HB.out))) : w.heap.size ≤ gb4024)); have n8_ := Aside0.mk ((by rw [hg]; exact (below_size (by repeat (first | (with_reducible first | exact HB.out | apply below_alloc | apply pw_below_drewN | apply below_drew1 | refine below_set ?_ GE4001.out | refine below_set ?_ GE4002.out) | exact HB.out))) : w.heap.size ≤ gb4024)); have n9_ := Aside0.mk ((by rw [hg]; exact Nat.ne_of_lt (blk_lt (g := gb4001) (o := .cells #[.int .i64 a0_0, .int .i64 a0_1, .int .i64 a0_2, .slice A0_3 l0_3.length c0_3] 24 (0, 0)) (by (with_reducible repeat (first | refine blk_drewN ?_ _ | refine blk_drew ?_ | refine blk_alloc ?_ _)); exact BK4001.out)) : gb4001 ≠ gb4024)); have n10_ := Aside0.mk ((by rw [hg]; exact Nat.ne_of_gt (blk_lt (g := gb4001) (o := .cells #[.int .i64 a0_0, .int .i64 a0_1, .int .i64 a0_2, .slice A0_3 l0_3.length c0_3] 24 (0, 0)) (by (with_reducible repeat (first | refine blk_drewN ?_ _ | refine blk_drew ?_ | refine blk_alloc ?_ _)); exact BK4001.out)) : gb4024 ≠ gb4001)); have n11_ := Aside0.mk ((by rw [hg]; exact Nat.ne_of_lt (blk_lt (g := gb4002) (o := .cells #[.int .i64 a1_0, .int .i64 a1_1, .int .i64 a1_2, .slice A1_3 l1_3.length c1_3] 24 (0, 0)) (by (with_reducible repeat (first | refine blk_drewN ?_ _ | refine blk_drew ?_ | refine blk_alloc ?_ _)); exact BK4002.out)) : gb4002 ≠ gb4024)); have n12_ := Aside0.mk ((by rw [hg]; exact Nat.ne_of_gt (blk_lt (g := gb4002) (o := .cells #[.int .i64 a1_0, .int .i64 a1_1, .int .i64 a1_2, .slice A1_3 l1_3.length c1_3] 24 (0, 0)) (by (with_reducible repeat (first | refine blk_drewN ?_ _ | refine blk_drew ?_ | refine blk_alloc ?_ _)); exact BK4002.out)) : gb4024 ≠ gb4002)); clear HO4010; clear HO4016; clear HO4023; clear BK4001; clear BK4002; clear HB; have HO4010 := n0_; have HO4016 := n1_; have HO4023 := n2_; have BK4001 := n3_; have BK4002 := n4_; have HB := n5_; have BK4024 := n6_; have GW4024 := n7_; have GE4024 := n8_; have NB4001_4024 := n9_; have NB4024_4001 := n10_; have NB4002_4024 := n11_; have NB4024_4002 := n12_; clear n0_ n1_ n2_ n3_ n4_ n5_ n6_ n7_ n8_ n9_ n10_ n11_ n12_; clear hb hbox hg; have hnb48 := NB4024_4001.out; have hnc48 := NB4001_4024.out; have hnb49 := NB4024_4002.out; have hnc49 := NB4002_4024.out; have hcz50_0 : w47.cell? ⟨gb4024, 0, none⟩ = some (.int .i64 0) := (blk_cell BK4024.out 0).trans rfl; have hcz50_1 : w47.cell? ⟨gb4024, 1, none⟩ = some (.int .i64 0) := (blk_cell BK4024.out 1).trans rfl; have hcz50_2 : w47.cell? ⟨gb4024, 2, none⟩ = some (.int .i64 0) := (blk_cell BK4024.out 2).trans rfl; have hcz50_3 : w47.cell? ⟨gb4024, 3, none⟩ = some (.slice none 0 0) := (blk_cell BK4024.out 3).trans rfl; have hfz50_0 := blk_frozen BK4024.out 0; have hfz50_1 := blk_frozen BK4024.out 1; have hfz50_2 := blk_frozen BK4024.out 2; have hfz50_3 := blk_frozen BK4024.out 3; obtain ⟨Ao51, co51, eo51⟩ := Kd.R_slice HO4023.out; subst eo51; have hcz52_0 : w47.cell? ⟨gb4002, 0, none⟩ = some (.int .i64 a1_0) := (blk_cell BK4002.out 0).trans rfl; have hcz52_1 : w47.cell? ⟨gb4002, 1, none⟩ = some (.int .i64 a1_1) := (blk_cell BK4002.out 1).trans rfl; have hcz52_2 : w47.cell? ⟨gb4002, 2, none⟩ = some (.int .i64 a1_2) := (blk_cell BK4002.out 2).trans rfl; have hcz52_3 : w47.cell? ⟨gb4002, 3, none⟩ = some (.slice A1_3 l1_3.length c1_3) := (blk_cell BK4002.out 3).trans rfl; have hfz52_0 := blk_frozen BK4002.out 0; have hfz52_1 := blk_frozen BK4002.out 1; have hfz52_2 := blk_frozen BK4002.out 2; have hfz52_3 := blk_frozen BK4002.out 3) | ((with_reducible refine gate_callee (f := 22) rfl ?_); refine goesL_ (some 28) rfl rfl Try.func22 (by kernel_rfl) rfl #[.agg #[.int .i64 a1_0, .int .i64 a1_1, .int .i64 a1_2, .slice A1_3 l1_3.length c1_3]] rfl (by (try simp only [List.map_toArray, List.map_cons, List.map_nil]); first | done | rfl | (simp only [List.length_drop, List.length_take]; rfl)) ?_; (with_reducible refine (laws_toImage.calls k a1_0 a1_1 a1_2 _ _ l1_3 t4025 t4026 t4027 t4028 _ ?side1 ?side2 A23.out).mono ?_); (case side1 => exact Kd.C_below HR1_3.out (by repeat (first | (with_reducible first | exact HB.out | apply below_alloc | apply pw_below_drewN | apply below_drew1 | refine below_set ?_ GE4001.out | refine below_set ?_ GE4002.out | refine below_set ?_ GE4024.out) | exact HB.out))); (case side2 => exact HC1_3.out); rintro e w53 ⟨v4029, rfl, ho0, hb⟩; refine ⟨_, rfl, ?_⟩; have n0_ := Aside0.mk (Kd.R_elder' (by (with_reducible repeat (first | apply Kd.R_alloc | apply Kd.R_drewN | apply Kd.R_drew)); exact (Kd.R_mono (Kd.R_far (p := ⟨gb4024, 3, none⟩) (Kd.R_far (p := ⟨gb4024, 2, none⟩) (Kd.R_far (p := ⟨gb4024, 1, none⟩) (Kd.R_far (p := ⟨gb4024, 0, none⟩) (Kd.R_types HO4010.out BK4024.out (by decide)) (fun _ hk => hk.2) (.int .i64 t4018)) (fun _ hk => hk.2) (.int .i64 t4019)) (fun _ hk => hk.2) (.int .i64 t4020)) (fun _ hk => hk.2) (.slice Ao51 t4021.length co51)) (fun _ h_ => h_.1))) (Kd.R_base ho0) hb); have n1_ := Aside0.mk (Kd.R_elder' (by (with_reducible repeat (first | apply Kd.R_alloc | apply Kd.R_drewN | apply Kd.R_drew)); exact (Kd.R_mono (Kd.R_far (p := ⟨gb4024, 3, none⟩) (Kd.R_far (p := ⟨gb4024, 2, none⟩) (Kd.R_far (p := ⟨gb4024, 1, none⟩) (Kd.R_far (p := ⟨gb4024, 0, none⟩) (Kd.R_types HO4016.out BK4024.out (by decide)) (fun _ hk => hk.2) (.int .i64 t4018)) (fun _ hk => hk.2) (.int .i64 t4019)) (fun _ hk => hk.2) (.int .i64 t4020)) (fun _ hk => hk.2) (.slice Ao51 t4021.length co51)) (fun _ h_ => h_.1))) (Kd.R_base ho0) hb); have n2_ := Aside0.mk (Kd.R_elder' (by (with_reducible repeat (first | apply Kd.R_alloc | apply Kd.R_drewN | apply Kd.R_drew)); exact (Kd.R_mono (Kd.R_far (p := ⟨gb4024, 3, none⟩) (Kd.R_far (p := ⟨gb4024, 2, none⟩) (Kd.R_far (p := ⟨gb4024, 1, none⟩) (Kd.R_far (p := ⟨gb4024, 0, none⟩) (Kd.R_types HO4023.out BK4024.out (by decide)) (fun _ hk => hk.2) (.int .i64 t4018)) (fun _ hk => hk.2) (.int .i64 t4019)) (fun _ hk => hk.2) (.int .i64 t4020)) (fun _ hk => hk.2) (.slice Ao51 t4021.length co51)) (fun _ h_ => h_.1))) (Kd.R_base ho0) hb); have n3_ := Aside0.mk (Kd.R_lower (Kd.R_new' (Kd.R_new' (Kd.R_new' ho0 (Kd.R_lt (by (with_reducible repeat (first | apply Kd.R_alloc | apply Kd.R_drewN | apply Kd.R_drew)); exact (Kd.R_mono (Kd.R_far (p := ⟨gb4024, 3, none⟩) (Kd.R_far (p := ⟨gb4024, 2, none⟩) (Kd.R_far (p := ⟨gb4024, 1, none⟩) (Kd.R_far (p := ⟨gb4024, 0, none⟩) (Kd.R_types HO4010.out BK4024.out (by decide)) (fun _ hk => hk.2) (.int .i64 t4018)) (fun _ hk => hk.2) (.int .i64 t4019)) (fun _ hk => hk.2) (.int .i64 t4020)) (fun _ hk => hk.2) (.slice Ao51 t4021.length co51)) (fun _ h_ => h_.1))))) (Kd.R_lt (by (with_reducible repeat (first | apply Kd.R_alloc | apply Kd.R_drewN | apply Kd.R_drew)); exact (Kd.R_mono (Kd.R_far (p := ⟨gb4024, 3, none⟩) (Kd.R_far (p := ⟨gb4024, 2, none⟩) (Kd.R_far (p := ⟨gb4024, 1, none⟩) (Kd.R_far (p := ⟨gb4024, 0, none⟩) (Kd.R_types HO4016.out BK4024.out (by decide)) (fun _ hk => hk.2) (.int .i64 t4018)) (fun _ hk => hk.2) (.int .i64 t4019)) (fun _ hk => hk.2) (.int .i64 t4020)) (fun _ hk => hk.2) (.slice Ao51 t4021.length co51)) (fun _ h_ => h_.1))))) (Kd.R_lt (by (with_reducible repeat (first | apply Kd.R_alloc | apply Kd.R_drewN | apply Kd.R_drew)); exact (Kd.R_mono (Kd.R_far (p := ⟨gb4024, 3, none⟩) (Kd.R_far (p := ⟨gb4024, 2, none⟩) (Kd.R_far (p := ⟨gb4024, 1, none⟩) (Kd.R_far (p := ⟨gb4024, 0, none⟩) (Kd.R_types HO4023.out BK4024.out (by decide)) (fun _ hk => hk.2) (.int .i64 t4018)) (fun _ hk => hk.2) (.int .i64 t4019)) (fun _ hk => hk.2) (.int .i64 t4020)) (fun _ hk => hk.2) (.slice Ao51 t4021.length co51)) (fun _ h_ => h_.1))))) (below_size (by repeat (first | (with_reducible first | exact HB.out | apply below_alloc | apply pw_below_drewN | apply below_drew1 | refine below_set ?_ GE4001.out | refine below_set ?_ GE4002.out | refine below_set ?_ GE4024.out) | exact HB.out)))); have n4_ := Aside0.mk (blk_below (g := gb4001) (o := .cells #[.int .i64 a0_0, .int .i64 a0_1, .int .i64 a0_2, .slice A0_3 l0_3.length c0_3] 24 (0, 0)) (by (with_reducible repeat (first | refine blk_drewN ?_ _ | refine blk_drew ?_ | refine blk_alloc ?_ _)); refine blk_far ?_ NB4001_4024.out _; (with_reducible repeat (first | refine blk_drewN ?_ _ | refine blk_drew ?_ | refine blk_alloc ?_ _)); refine blk_far ?_ NB4001_4024.out _; (with_reducible repeat (first | refine blk_drewN ?_ _ | refine blk_drew ?_ | refine blk_alloc ?_ _)); refine blk_far ?_ NB4001_4024.out _; (with_reducible repeat (first | refine blk_drewN ?_ _ | refine blk_drew ?_ | refine blk_alloc ?_ _)); refine blk_far ?_ NB4001_4024.out _; (with_reducible repeat (first | refine blk_drewN ?_ _ | refine blk_drew ?_ | refine blk_alloc ?_ _)); exact BK4001.out) hb); have n5_ := Aside0.mk (blk_below (g := gb4002) (o := .cells #[.int .i64 a1_0, .int .i64 a1_1, .int .i64 a1_2, .slice A1_3 l1_3.length c1_3] 24 (0, 0)) (by (with_reducible repeat (first | refine blk_drewN ?_ _ | refine blk_drew ?_ | refine blk_alloc ?_ _)); refine blk_far ?_ NB4002_4024.out _; (with_reducible repeat (first | refine blk_drewN ?_ _ | refine blk_drew ?_ | refine blk_alloc ?_ _)); refine blk_far ?_ NB4002_4024.out _; (with_reducible repeat (first | refine blk_drewN ?_ _ | refine blk_drew ?_ | refine blk_alloc ?_ _)); refine blk_far ?_ NB4002_4024.out _; (with_reducible repeat (first | refine blk_drewN ?_ _ | refine blk_drew ?_ | refine blk_alloc ?_ _)); refine blk_far ?_ NB4002_4024.out _; (with_reducible repeat (first | refine blk_drewN ?_ _ | refine blk_drew ?_ | refine blk_alloc ?_ _)); exact BK4002.out) hb); have n6_ := Aside0.mk (blk_below (g := gb4024) (o := .cells #[.int .i64 t4018, .int .i64 t4019, .int .i64 t4020, .slice Ao51 t4021.length co51] 27 (0, 0)) (by (with_reducible repeat (first | refine blk_drewN ?_ _ | refine blk_drew ?_ | refine blk_alloc ?_ _)); refine blk_put (cs := #[.int .i64 t4018, .int .i64 t4019, .int .i64 t4020, .slice none 0 0]) ?_ 3 _ rfl; (with_reducible repeat (first | refine blk_drewN ?_ _ | refine blk_drew ?_ | refine blk_alloc ?_ _)); refine blk_put (cs := #[.int .i64 t4018, .int .i64 t4019, .int .i64 0, .slice none 0 0]) ?_ 2 _ rfl; (with_reducible repeat (first | refine blk_drewN ?_ _ | refine blk_drew ?_ | refine blk_alloc ?_ _)); refine blk_put (cs := #[.int .i64 t4018, .int .i64 0, .int .i64 0, .slice none 0 0]) ?_ 1 _ rfl; (with_reducible repeat (first | refine blk_drewN ?_ _ | refine blk_drew ?_ | refine blk_alloc ?_ _)); refine blk_put (cs := #[.int .i64 0, .int .i64 0, .int .i64 0, .slice none 0 0]) ?_ 0 _ rfl; (with_reducible repeat (first | refine blk_drewN ?_ _ | refine blk_drew ?_ | refine blk_alloc ?_ _)); exact BK4024.out) hb); have n7_ := Aside0.mk (below_step (by repeat (first | (with_reducible first | exact HB.out | apply below_alloc | apply pw_below_drewN | apply below_drew1 | refine below_set ?_ GE4001.out | refine below_set ?_ GE4002.out | refine below_set ?_ GE4024.out) | exact HB.out)) hb); clear HO4010; clear HO4016; clear HO4023; clear BK4001; clear BK4002; clear BK4024; clear HB; have HO4010 := n0_; have HO4016 := n1_; have HO4023 := n2_; have HO4030 := n3_; have BK4001 := n4_; have BK4002 := n5_; have BK4024 := n6_; have HB := n7_; clear n0_ n1_ n2_ n3_ n4_ n5_ n6_ n7_; (try clear hb); (try clear hb2); (try clear hk); (try clear hi); (try clear ho0)) | ((with_reducible refine gate_dst (N := 8) rfl ?_); refine box_event ?hg (N := 8) ?hd (cs := #[.int .i64 0, .int .i64 0, .int .i64 0, .slice none 0 0]) (t := 27) ?hr ?_; (case hd => rfl); (case hg => rfl); (case hr => first | (go_simp; done) | (go_simp; rfl)); intro gb4031 hg w54 hbox hb; have n0_ := Aside0.mk (Kd.R_below (by (with_reducible repeat (first | apply Kd.R_alloc | apply Kd.R_drewN | apply Kd.R_drew)); exact HO4010.out) hb); have n1_ := Aside0.mk (Kd.R_below (by (with_reducible repeat (first | apply Kd.R_alloc | apply Kd.R_drewN | apply Kd.R_drew)); exact HO4016.out) hb); have n2_ := Aside0.mk (Kd.R_below (by (with_reducible repeat (first | apply Kd.R_alloc | apply Kd.R_drewN | apply Kd.R_drew)); exact HO4023.out) hb); have n3_ := Aside0.mk (Kd.R_below (by (with_reducible repeat (first | apply Kd.R_alloc | apply Kd.R_drewN | apply Kd.R_drew)); exact HO4030.out) hb); have n4_ := Aside0.mk (blk_below (g := gb4001) (o := .cells #[.int .i64 a0_0, .int .i64 a0_1, .int .i64 a0_2, .slice A0_3 l0_3.length c0_3] 24 (0, 0)) (by (with_reducible repeat (first | refine blk_drewN ?_ _ | refine blk_drew ?_ | refine blk_alloc ?_ _)); exact BK4001.out) hb); have n5_ := Aside0.mk (blk_below (g := gb4002) (o := .cells #[.int .i64 a1_0, .int .i64 a1_1, .int .i64 a1_2, .slice A1_3 l1_3.length c1_3] 24 (0, 0)) (by (with_reducible repeat (first | refine blk_drewN ?_ _ | refine blk_drew ?_ | refine blk_alloc ?_ _)); exact BK4002.out) hb); have n6_ := Aside0.mk (blk_below (g := gb4024) (o := .cells #[.int .i64 t4018, .int .i64 t4019, .int .i64 t4020, .slice Ao51 t4021.length co51] 27 (0, 0)) (by (with_reducible repeat (first | refine blk_drewN ?_ _ | refine blk_drew ?_ | refine blk_alloc ?_ _)); exact BK4024.out) hb); have n7_ := Aside0.mk (below_step (by repeat (first | (with_reducible first | exact HB.out | apply below_alloc | apply pw_below_drewN | apply below_drew1 | refine below_set ?_ GE4001.out | refine below_set ?_ GE4002.out | refine below_set ?_ GE4024.out) | exact HB.out)) hb); have n8_ := Aside0.mk (hbox); have n9_ := Aside0.mk ((by rw [hg]; exact (below_size (by repeat (first | (with_reducible first | exact HB.out | apply below_alloc | apply pw_below_drewN | apply below_drew1 | refine below_set ?_ GE4001.out | refine below_set ?_ GE4002.out | refine below_set ?_ GE4024.out) | exact HB.out))) : w.heap.size ≤ gb4031)); have n10_ := Aside0.mk ((by rw [hg]; exact (below_size (by repeat (first | (with_reducible first | exact HB.out | apply below_alloc | apply pw_below_drewN | apply below_drew1 | refine below_set ?_ GE4001.out | refine below_set ?_ GE4002.out | refine below_set ?_ GE4024.out) | exact HB.out))) : w.heap.size ≤ gb4031)); have n11_ := Aside0.mk ((by rw [hg]; exact Nat.ne_of_lt (blk_lt (g := gb4001) (o := .cells #[.int .i64 a0_0, .int .i64 a0_1, .int .i64 a0_2, .slice A0_3 l0_3.length c0_3] 24 (0, 0)) (by (with_reducible repeat (first | refine blk_drewN ?_ _ | refine blk_drew ?_ | refine blk_alloc ?_ _)); exact BK4001.out)) : gb4001 ≠ gb4031)); have n12_ := Aside0.mk ((by rw [hg]; exact Nat.ne_of_gt (blk_lt (g := gb4001) (o := .cells #[.int .i64 a0_0, .int .i64 a0_1, .int .i64 a0_2, .slice A0_3 l0_3.length c0_3] 24 (0, 0)) (by (with_reducible repeat (first | refine blk_drewN ?_ _ | refine blk_drew ?_ | refine blk_alloc ?_ _)); exact BK4001.out)) : gb4031 ≠ gb4001)); have n13_ := Aside0.mk ((by rw [hg]; exact Nat.ne_of_lt (blk_lt (g := gb4002) (o := .cells #[.int .i64 a1_0, .int .i64 a1_1, .int .i64 a1_2, .slice A1_3 l1_3.length c1_3] 24 (0, 0)) (by (with_reducible repeat (first | refine blk_drewN ?_ _ | refine blk_drew ?_ | refine blk_alloc ?_ _)); exact BK4002.out)) : gb4002 ≠ gb4031)); have n14_ := Aside0.mk ((by rw [hg]; exact Nat.ne_of_gt (blk_lt (g := gb4002) (o := .cells #[.int .i64 a1_0, .int .i64 a1_1, .int .i64 a1_2, .slice A1_3 l1_3.length c1_3] 24 (0, 0)) (by (with_reducible repeat (first | refine blk_drewN ?_ _ | refine blk_drew ?_ | refine blk_alloc ?_ _)); exact BK4002.out)) : gb4031 ≠ gb4002)); have n15_ := Aside0.mk ((by rw [hg]; exact Nat.ne_of_lt (blk_lt (g := gb4024) (o := .cells #[.int .i64 t4018, .int .i64 t4019, .int .i64 t4020, .slice Ao51 t4021.length co51] 27 (0, 0)) (by (with_reducible repeat (first | refine blk_drewN ?_ _ | refine blk_drew ?_ | refine blk_alloc ?_ _)); exact BK4024.out)) : gb4024 ≠ gb4031)); have n16_ := Aside0.mk ((by rw [hg]; exact Nat.ne_of_gt (blk_lt (g := gb4024) (o := .cells #[.int .i64 t4018, .int .i64 t4019, .int .i64 t4020, .slice Ao51 t4021.length co51] 27 (0, 0)) (by (with_reducible repeat (first | refine blk_drewN ?_ _ | refine blk_drew ?_ | refine blk_alloc ?_ _)); exact BK4024.out)) : gb4031 ≠ gb4024)); clear HO4010; clear HO4016; clear HO4023; clear HO4030; clear BK4001; clear BK4002; clear BK4024; clear HB; have HO4010 := n0_; have HO4016 := n1_; have HO4023 := n2_; have HO4030 := n3_; have BK4001 := n4_; have BK4002 := n5_; have BK4024 := n6_; have HB := n7_; have BK4031 := n8_; have GW4031 := n9_; have GE4031 := n10_; have NB4001_4031 := n11_; have NB4031_4001 := n12_; have NB4002_4031 := n13_; have NB4031_4002 := n14_; have NB4024_4031 := n15_; have NB4031_4024 := n16_; clear n0_ n1_ n2_ n3_ n4_ n5_ n6_ n7_ n8_ n9_ n10_ n11_ n12_ n13_ n14_ n15_ n16_; clear hb hbox hg; have hnb55 := NB4031_4001.out; have hnc55 := NB4001_4031.out; have hnb56 := NB4031_4002.out; have hnc56 := NB4002_4031.out; have hnb57 := NB4031_4024.out; have hnc57 := NB4024_4031.out; have hcz58_0 : w54.cell? ⟨gb4031, 0, none⟩ = some (.int .i64 0) := (blk_cell BK4031.out 0).trans rfl; have hcz58_1 : w54.cell? ⟨gb4031, 1, none⟩ = some (.int .i64 0) := (blk_cell BK4031.out 1).trans rfl; have hcz58_2 : w54.cell? ⟨gb4031, 2, none⟩ = some (.int .i64 0) := (blk_cell BK4031.out 2).trans rfl; have hcz58_3 : w54.cell? ⟨gb4031, 3, none⟩ = some (.slice none 0 0) := (blk_cell BK4031.out 3).trans rfl; have hfz58_0 := blk_frozen BK4031.out 0; have hfz58_1 := blk_frozen BK4031.out 1; have hfz58_2 := blk_frozen BK4031.out 2; have hfz58_3 := blk_frozen BK4031.out 3; obtain ⟨Ao59, co59, eo59⟩ := Kd.R_slice HO4030.out; subst eo59; have hcz60_0 : w54.cell? ⟨gb4024, 0, none⟩ = some (.int .i64 t4018) := (blk_cell BK4024.out 0).trans rfl; have hcz60_1 : w54.cell? ⟨gb4024, 1, none⟩ = some (.int .i64 t4019) := (blk_cell BK4024.out 1).trans rfl; have hcz60_2 : w54.cell? ⟨gb4024, 2, none⟩ = some (.int .i64 t4020) := (blk_cell BK4024.out 2).trans rfl; have hcz60_3 : w54.cell? ⟨gb4024, 3, none⟩ = some (.slice Ao51 t4021.length co51) := (blk_cell BK4024.out 3).trans rfl; have hfz60_0 := blk_frozen BK4024.out 0; have hfz60_1 := blk_frozen BK4024.out 1; have hfz60_2 := blk_frozen BK4024.out 2; have hfz60_3 := blk_frozen BK4024.out 3) | ((with_reducible refine gate_callee (f := 23) rfl ?_); refine goesL_ (some 31) rfl rfl Try.func23 (by kernel_rfl) rfl #[.agg #[.int .i64 t4018, .int .i64 t4019, .int .i64 t4020, .slice Ao51 t4021.length co51], .agg #[.int .i64 t4025, .int .i64 t4026, .int .i64 t4027, .slice Ao59 t4028.length co59]] rfl (by (try simp only [List.map_toArray, List.map_cons, List.map_nil]); first | done | rfl | (simp only [List.length_drop, List.length_take]; rfl)) ?_; (with_reducible refine (impl_GapOf.calls k t4018 t4019 t4020 _ _ t4021 t4025 t4026 t4027 _ _ t4028 t4032 _ ?side1 ?side2 ?side3 ?side4 A24.out).mono ?_); (case side1 => refine (Kd.R_reads' (e := 3) (base := w.heap.size) (ok := fun k_ => (((True ∧ some k_ ≠ (.slice Ao42 t4008.length co42 : Value).ownBlock) ∧ some k_ ≠ (.slice Ao43 t4014.length co43 : Value).ownBlock) ∧ some k_ ≠ (.slice Ao59 t4028.length co59 : Value).ownBlock)) (n := t4021.length) (c := co51) ?_).2.2; exact (by (with_reducible repeat (first | apply Kd.R_alloc | apply Kd.R_drewN | apply Kd.R_drew)); exact (Kd.R_mono (Kd.R_far (p := ⟨gb4031, 3, none⟩) (Kd.R_far (p := ⟨gb4031, 2, none⟩) (Kd.R_far (p := ⟨gb4031, 1, none⟩) (Kd.R_far (p := ⟨gb4031, 0, none⟩) (Kd.R_types HO4023.out BK4031.out (by decide)) (fun _ hk => hk.2) (.int .i64 t4025)) (fun _ hk => hk.2) (.int .i64 t4026)) (fun _ hk => hk.2) (.int .i64 t4027)) (fun _ hk => hk.2) (.slice Ao59 t4028.length co59)) (fun _ h_ => h_.1)))); (case side2 => exact (Kd.R_reads' HO4023.out).2.1); (case side3 => refine (Kd.R_reads' (e := 3) (base := w.heap.size) (ok := fun k_ => (((True ∧ some k_ ≠ (.slice Ao42 t4008.length co42 : Value).ownBlock) ∧ some k_ ≠ (.slice Ao43 t4014.length co43 : Value).ownBlock) ∧ some k_ ≠ (.slice Ao51 t4021.length co51 : Value).ownBlock)) (n := t4028.length) (c := co59) ?_).2.2; exact (by (with_reducible repeat (first | apply Kd.R_alloc | apply Kd.R_drewN | apply Kd.R_drew)); exact (Kd.R_mono (Kd.R_far (p := ⟨gb4031, 3, none⟩) (Kd.R_far (p := ⟨gb4031, 2, none⟩) (Kd.R_far (p := ⟨gb4031, 1, none⟩) (Kd.R_far (p := ⟨gb4031, 0, none⟩) (Kd.R_types HO4030.out BK4031.out (by decide)) (fun _ hk => hk.2) (.int .i64 t4025)) (fun _ hk => hk.2) (.int .i64 t4026)) (fun _ hk => hk.2) (.int .i64 t4027)) (fun _ hk => hk.2) (.slice Ao59 t4028.length co59)) (fun _ h_ => h_.1)))); (case side4 => exact (Kd.R_reads' HO4030.out).2.1); rintro e w61 ⟨rfl, hb⟩; refine ⟨_, rfl, ?_⟩; have n0_ := Aside0.mk (Kd.R_below (by (with_reducible repeat (first | apply Kd.R_alloc | apply Kd.R_drewN | apply Kd.R_drew)); exact (Kd.R_mono (Kd.R_far (p := ⟨gb4031, 3, none⟩) (Kd.R_far (p := ⟨gb4031, 2, none⟩) (Kd.R_far (p := ⟨gb4031, 1, none⟩) (Kd.R_far (p := ⟨gb4031, 0, none⟩) (Kd.R_types HO4010.out BK4031.out (by decide)) (fun _ hk => hk.2) (.int .i64 t4025)) (fun _ hk => hk.2) (.int .i64 t4026)) (fun _ hk => hk.2) (.int .i64 t4027)) (fun _ hk => hk.2) (.slice Ao59 t4028.length co59)) (fun _ h_ => h_.1))) hb); have n1_ := Aside0.mk (Kd.R_below (by (with_reducible repeat (first | apply Kd.R_alloc | apply Kd.R_drewN | apply Kd.R_drew)); exact (Kd.R_mono (Kd.R_far (p := ⟨gb4031, 3, none⟩) (Kd.R_far (p := ⟨gb4031, 2, none⟩) (Kd.R_far (p := ⟨gb4031, 1, none⟩) (Kd.R_far (p := ⟨gb4031, 0, none⟩) (Kd.R_types HO4016.out BK4031.out (by decide)) (fun _ hk => hk.2) (.int .i64 t4025)) (fun _ hk => hk.2) (.int .i64 t4026)) (fun _ hk => hk.2) (.int .i64 t4027)) (fun _ hk => hk.2) (.slice Ao59 t4028.length co59)) (fun _ h_ => h_.1))) hb); have n2_ := Aside0.mk (Kd.R_below (by (with_reducible repeat (first | apply Kd.R_alloc | apply Kd.R_drewN | apply Kd.R_drew)); exact (Kd.R_mono (Kd.R_far (p := ⟨gb4031, 3, none⟩) (Kd.R_far (p := ⟨gb4031, 2, none⟩) (Kd.R_far (p := ⟨gb4031, 1, none⟩) (Kd.R_far (p := ⟨gb4031, 0, none⟩) (Kd.R_types HO4023.out BK4031.out (by decide)) (fun _ hk => hk.2) (.int .i64 t4025)) (fun _ hk => hk.2) (.int .i64 t4026)) (fun _ hk => hk.2) (.int .i64 t4027)) (fun _ hk => hk.2) (.slice Ao59 t4028.length co59)) (fun _ h_ => h_.1))) hb); have n3_ := Aside0.mk (Kd.R_below (by (with_reducible repeat (first | apply Kd.R_alloc | apply Kd.R_drewN | apply Kd.R_drew)); exact (Kd.R_mono (Kd.R_far (p := ⟨gb4031, 3, none⟩) (Kd.R_far (p := ⟨gb4031, 2, none⟩) (Kd.R_far (p := ⟨gb4031, 1, none⟩) (Kd.R_far (p := ⟨gb4031, 0, none⟩) (Kd.R_types HO4030.out BK4031.out (by decide)) (fun _ hk => hk.2) (.int .i64 t4025)) (fun _ hk => hk.2) (.int .i64 t4026)) (fun _ hk => hk.2) (.int .i64 t4027)) (fun _ hk => hk.2) (.slice Ao59 t4028.length co59)) (fun _ h_ => h_.1))) hb); have n4_ := Aside0.mk (blk_below (g := gb4001) (o := .cells #[.int .i64 a0_0, .int .i64 a0_1, .int .i64 a0_2, .slice A0_3 l0_3.length c0_3] 24 (0, 0)) (by (with_reducible repeat (first | refine blk_drewN ?_ _ | refine blk_drew ?_ | refine blk_alloc ?_ _)); refine blk_far ?_ NB4001_4031.out _; (with_reducible repeat (first | refine blk_drewN ?_ _ | refine blk_drew ?_ | refine blk_alloc ?_ _)); refine blk_far ?_ NB4001_4031.out _; (with_reducible repeat (first | refine blk_drewN ?_ _ | refine blk_drew ?_ | refine blk_alloc ?_ _)); refine blk_far ?_ NB4001_4031.out _; (with_reducible repeat (first | refine blk_drewN ?_ _ | refine blk_drew ?_ | refine blk_alloc ?_ _)); refine blk_far ?_ NB4001_4031.out _; (with_reducible repeat (first | refine blk_drewN ?_ _ | refine blk_drew ?_ | refine blk_alloc ?_ _)); exact BK4001.out) hb); have n5_ := Aside0.mk (blk_below (g := gb4002) (o := .cells #[.int .i64 a1_0, .int .i64 a1_1, .int .i64 a1_2, .slice A1_3 l1_3.length c1_3] 24 (0, 0)) (by (with_reducible repeat (first | refine blk_drewN ?_ _ | refine blk_drew ?_ | refine blk_alloc ?_ _)); refine blk_far ?_ NB4002_4031.out _; (with_reducible repeat (first | refine blk_drewN ?_ _ | refine blk_drew ?_ | refine blk_alloc ?_ _)); refine blk_far ?_ NB4002_4031.out _; (with_reducible repeat (first | refine blk_drewN ?_ _ | refine blk_drew ?_ | refine blk_alloc ?_ _)); refine blk_far ?_ NB4002_4031.out _; (with_reducible repeat (first | refine blk_drewN ?_ _ | refine blk_drew ?_ | refine blk_alloc ?_ _)); refine blk_far ?_ NB4002_4031.out _; (with_reducible repeat (first | refine blk_drewN ?_ _ | refine blk_drew ?_ | refine blk_alloc ?_ _)); exact BK4002.out) hb); have n6_ := Aside0.mk (blk_below (g := gb4024) (o := .cells #[.int .i64 t4018, .int .i64 t4019, .int .i64 t4020, .slice Ao51 t4021.length co51] 27 (0, 0)) (by (with_reducible repeat (first | refine blk_drewN ?_ _ | refine blk_drew ?_ | refine blk_alloc ?_ _)); refine blk_far ?_ NB4024_4031.out _; (with_reducible repeat (first | refine blk_drewN ?_ _ | refine blk_drew ?_ | refine blk_alloc ?_ _)); refine blk_far ?_ NB4024_4031.out _; (with_reducible repeat (first | refine blk_drewN ?_ _ | refine blk_drew ?_ | refine blk_alloc ?_ _)); refine blk_far ?_ NB4024_4031.out _; (with_reducible repeat (first | refine blk_drewN ?_ _ | refine blk_drew ?_ | refine blk_alloc ?_ _)); refine blk_far ?_ NB4024_4031.out _; (with_reducible repeat (first | refine blk_drewN ?_ _ | refine blk_drew ?_ | refine blk_alloc ?_ _)); exact BK4024.out) hb); have n7_ := Aside0.mk (blk_below (g := gb4031) (o := .cells #[.int .i64 t4025, .int .i64 t4026, .int .i64 t4027, .slice Ao59 t4028.length co59] 27 (0, 0)) (by (with_reducible repeat (first | refine blk_drewN ?_ _ | refine blk_drew ?_ | refine blk_alloc ?_ _)); refine blk_put (cs := #[.int .i64 t4025, .int .i64 t4026, .int .i64 t4027, .slice none 0 0]) ?_ 3 _ rfl; (with_reducible repeat (first | refine blk_drewN ?_ _ | refine blk_drew ?_ | refine blk_alloc ?_ _)); refine blk_put (cs := #[.int .i64 t4025, .int .i64 t4026, .int .i64 0, .slice none 0 0]) ?_ 2 _ rfl; (with_reducible repeat (first | refine blk_drewN ?_ _ | refine blk_drew ?_ | refine blk_alloc ?_ _)); refine blk_put (cs := #[.int .i64 t4025, .int .i64 0, .int .i64 0, .slice none 0 0]) ?_ 1 _ rfl; (with_reducible repeat (first | refine blk_drewN ?_ _ | refine blk_drew ?_ | refine blk_alloc ?_ _)); refine blk_put (cs := #[.int .i64 0, .int .i64 0, .int .i64 0, .slice none 0 0]) ?_ 0 _ rfl; (with_reducible repeat (first | refine blk_drewN ?_ _ | refine blk_drew ?_ | refine blk_alloc ?_ _)); exact BK4031.out) hb); have n8_ := Aside0.mk (below_step (by repeat (first | (with_reducible first | exact HB.out | apply below_alloc | apply pw_below_drewN | apply below_drew1 | refine below_set ?_ GE4001.out | refine below_set ?_ GE4002.out | refine below_set ?_ GE4024.out | refine below_set ?_ GE4031.out) | exact HB.out)) hb); clear HO4010; clear HO4016; clear HO4023; clear HO4030; clear BK4001; clear BK4002; clear BK4024; clear BK4031; clear HB; have HO4010 := n0_; have HO4016 := n1_; have HO4023 := n2_; have HO4030 := n3_; have BK4001 := n4_; have BK4002 := n5_; have BK4024 := n6_; have BK4031 := n7_; have HB := n8_; clear n0_ n1_ n2_ n3_ n4_ n5_ n6_ n7_ n8_; (try clear hb); (try clear hb2); (try clear hk); (try clear hi)))
            have n0_ := Aside0.mk (Kd.R_drew HO4010.out)
            have n1_ := Aside0.mk (Kd.R_drew HO4016.out)
            have n2_ := Aside0.mk (Kd.R_drew HO4023.out)
            have n3_ := Aside0.mk (Kd.R_drew HO4030.out)
            have n4_ := Aside0.mk (blk_drew BK4001.out)
            have n5_ := Aside0.mk (blk_drew BK4002.out)
            have n6_ := Aside0.mk (blk_drew BK4024.out)
            have n7_ := Aside0.mk (blk_drew BK4031.out)
            have n8_ := Aside0.mk (below_drew1 HB.out)
            clear HO4010
            clear HO4016
            clear HO4023
            clear HO4030
            clear BK4001
            clear BK4002
            clear BK4024
            clear BK4031
            clear HB
            have HO4010 := n0_
            have HO4016 := n1_
            have HO4023 := n2_
            have HO4030 := n3_
            have BK4001 := n4_
            have BK4002 := n5_
            have BK4024 := n6_
            have BK4031 := n7_
            have HB := n8_
            clear n0_ n1_ n2_ n3_ n4_ n5_ n6_ n7_ n8_
            refine start_ (n := 5) (S := fun w' => w'.cell? ⟨gb4024, 0, none⟩ = some (.int .i64 t4018) ∧ w'.cell? ⟨gb4024, 1, none⟩ = some (.int .i64 t4019) ∧ w'.cell? ⟨gb4024, 2, none⟩ = some (.int .i64 t4020) ∧ w'.cell? ⟨gb4024, 3, none⟩ = some (.slice Ao51 t4021.length co51) ∧ w'.cell? ⟨gb4001, 0, none⟩ = some (.int .i64 a0_0) ∧ w'.cell? ⟨gb4001, 1, none⟩ = some (.int .i64 a0_1) ∧ w'.cell? ⟨gb4001, 2, none⟩ = some (.int .i64 a0_2) ∧ w'.cell? ⟨gb4001, 3, none⟩ = some (.slice A0_3 l0_3.length c0_3)) (ds := []) #[false, false, false, false, false] (by kernel_rfl) rfl rfl ⟨(blk_cell BK4024.out 0).trans rfl, (blk_cell BK4024.out 1).trans rfl, (blk_cell BK4024.out 2).trans rfl, (blk_cell BK4024.out 3).trans rfl, (blk_cell BK4001.out 0).trans rfl, (blk_cell BK4001.out 1).trans rfl, (blk_cell BK4001.out 2).trans rfl, (blk_cell BK4001.out 3).trans rfl⟩ (fun hHeld => ?_)
            generalize w61.drew = w62 at HO4010 HO4016 HO4023 HO4030 BK4001 BK4002 BK4024 BK4031 HB hHeld ⊢
            refine take_ (i := 0) (N := some 35) (v := ?_) (a' := ?_) #[true, false, false, false, false] rfl rfl (by kernel_rfl) (fun _ _ _ h => h) (Or.inl ⟨by rfl, ?_⟩) hHeld ?_ ?_
            rotate_left
            · rintro w' ⟨s0, s1, s2, s3, s4, s5, s6, s7⟩
              go_simp
              with_reducible rfl
            rotate_left
            · simp only [Act.put, List.setIfInBounds_toArray, List.set_cons_zero, List.set_cons_succ, i64_w, i32_w]
              rfl
            refine take_ (i := 1) (N := some 36) (v := ?_) (a' := ?_) #[true, true, false, false, false] rfl rfl (by kernel_rfl) (fun _ _ _ h => h) (Or.inl ⟨by rfl, ?_⟩) hHeld ?_ ?_
            rotate_left
            · rintro w' ⟨s0, s1, s2, s3, s4, s5, s6, s7⟩
              go_simp
              with_reducible rfl
            rotate_left
            · simp only [Act.put, List.setIfInBounds_toArray, List.set_cons_zero, List.set_cons_succ, i64_w, i32_w]
              rfl
            refine one_ (i := 2) (N := some 37) #[true, true, true, false, false] rfl rfl (by kernel_rfl) (by decide) (fun K hK => ?_)
            refine goes_ Try.func22 (by kernel_rfl) rfl #[.agg #[.int .i64 a0_0, .int .i64 a0_1, .int .i64 a0_2, .slice A0_3 l0_3.length c0_3]] (by rfl) rfl rfl (by (try simp only [List.map_toArray, List.map_cons, List.map_nil]); first | done | rfl | (simp only [List.length_drop, List.length_take]; rfl)) ?_
            with_reducible refine (laws_toImage.calls k a0_0 a0_1 a0_2 _ _ l0_3 t4033 t4034 t4035 t4036 _ ?side1 ?side2 A26.out).mono ?_
            (case side1 => repeat (first | exact (Kd.C_below HR0_3.out HB.out) | (with_reducible refine Kd.C_alloc ?_ _) | (with_reducible refine Kd.C_drewN ?_ _) | (with_reducible refine Kd.C_drew ?_)))
            (case side2 => exact HC0_3.out)
            rintro e w63 ⟨v4037, rfl, ho0, hb⟩
            refine ⟨_, rfl, ?_⟩
            have n0_ := Aside0.mk (Kd.R_elder' (by (with_reducible repeat (first | apply Kd.R_alloc | apply Kd.R_drewN | apply Kd.R_drew)); exact HO4010.out) (Kd.R_base ho0) hb)
            have n1_ := Aside0.mk (Kd.R_elder' (by (with_reducible repeat (first | apply Kd.R_alloc | apply Kd.R_drewN | apply Kd.R_drew)); exact HO4016.out) (Kd.R_base ho0) hb)
            have n2_ := Aside0.mk (Kd.R_elder' (by (with_reducible repeat (first | apply Kd.R_alloc | apply Kd.R_drewN | apply Kd.R_drew)); exact HO4023.out) (Kd.R_base ho0) hb)
            have n3_ := Aside0.mk (Kd.R_elder' (by (with_reducible repeat (first | apply Kd.R_alloc | apply Kd.R_drewN | apply Kd.R_drew)); exact HO4030.out) (Kd.R_base ho0) hb)
            have n4_ := Aside0.mk (Kd.R_lower (Kd.R_new' (Kd.R_new' (Kd.R_new' (Kd.R_new' ho0 (Kd.R_lt (by (with_reducible repeat (first | apply Kd.R_alloc | apply Kd.R_drewN | apply Kd.R_drew)); exact HO4010.out))) (Kd.R_lt (by (with_reducible repeat (first | apply Kd.R_alloc | apply Kd.R_drewN | apply Kd.R_drew)); exact HO4016.out))) (Kd.R_lt (by (with_reducible repeat (first | apply Kd.R_alloc | apply Kd.R_drewN | apply Kd.R_drew)); exact HO4023.out))) (Kd.R_lt (by (with_reducible repeat (first | apply Kd.R_alloc | apply Kd.R_drewN | apply Kd.R_drew)); exact HO4030.out))) (below_size (by repeat (first | (with_reducible first | exact HB.out | apply below_alloc | apply pw_below_drewN | apply below_drew1 | refine below_set ?_ GE4001.out | refine below_set ?_ GE4002.out | refine below_set ?_ GE4024.out | refine below_set ?_ GE4031.out) | exact HB.out))))
            have n5_ := Aside0.mk (blk_below (g := gb4001) (o := .cells #[.int .i64 a0_0, .int .i64 a0_1, .int .i64 a0_2, .slice A0_3 l0_3.length c0_3] 24 (0, 0)) (by (with_reducible repeat (first | refine blk_drewN ?_ _ | refine blk_drew ?_ | refine blk_alloc ?_ _)); exact BK4001.out) hb)
            have n6_ := Aside0.mk (blk_below (g := gb4002) (o := .cells #[.int .i64 a1_0, .int .i64 a1_1, .int .i64 a1_2, .slice A1_3 l1_3.length c1_3] 24 (0, 0)) (by (with_reducible repeat (first | refine blk_drewN ?_ _ | refine blk_drew ?_ | refine blk_alloc ?_ _)); exact BK4002.out) hb)
            have n7_ := Aside0.mk (blk_below (g := gb4024) (o := .cells #[.int .i64 t4018, .int .i64 t4019, .int .i64 t4020, .slice Ao51 t4021.length co51] 27 (0, 0)) (by (with_reducible repeat (first | refine blk_drewN ?_ _ | refine blk_drew ?_ | refine blk_alloc ?_ _)); exact BK4024.out) hb)
            have n8_ := Aside0.mk (blk_below (g := gb4031) (o := .cells #[.int .i64 t4025, .int .i64 t4026, .int .i64 t4027, .slice Ao59 t4028.length co59] 27 (0, 0)) (by (with_reducible repeat (first | refine blk_drewN ?_ _ | refine blk_drew ?_ | refine blk_alloc ?_ _)); exact BK4031.out) hb)
            have n9_ := Aside0.mk (below_step (by repeat (first | (with_reducible first | exact HB.out | apply below_alloc | apply pw_below_drewN | apply below_drew1 | refine below_set ?_ GE4001.out | refine below_set ?_ GE4002.out | refine below_set ?_ GE4024.out | refine below_set ?_ GE4031.out) | exact HB.out)) hb)
            clear HO4010
            clear HO4016
            clear HO4023
            clear HO4030
            clear BK4001
            clear BK4002
            clear BK4024
            clear BK4031
            clear HB
            have HO4010 := n0_
            have HO4016 := n1_
            have HO4023 := n2_
            have HO4030 := n3_
            have HO4038 := n4_
            have BK4001 := n5_
            have BK4002 := n6_
            have BK4024 := n7_
            have BK4031 := n8_
            have HB := n9_
            clear n0_ n1_ n2_ n3_ n4_ n5_ n6_ n7_ n8_ n9_
            (try clear hb)
            (try clear hb2)
            (try clear hk)
            (try clear hi)
            (try clear ho0)
            obtain ⟨Ao64, co64, eo64⟩ := Kd.R_slice HO4038.out
            (first | subst eo64 | (injection eo64 with f1_ f2_ f3_; have f4_ := f1_.symm; have f5_ := f3_.symm; clear f1_ f2_ f3_; subst f4_; subst f5_))
            refine hK.out _ _ ⟨(blk_cell BK4024.out 0).trans rfl, (blk_cell BK4024.out 1).trans rfl, (blk_cell BK4024.out 2).trans rfl, (blk_cell BK4024.out 3).trans rfl, (blk_cell BK4001.out 0).trans rfl, (blk_cell BK4001.out 1).trans rfl, (blk_cell BK4001.out 2).trans rfl, (blk_cell BK4001.out 3).trans rfl⟩ (fun hHeld => ?_)
            clear hK K
            refine norm_ (a' := ?_) ?_ ?_
            rotate_left
            · show Act.put _ (some 37) _ = _
              simp only [Act.put, List.setIfInBounds_toArray, List.set_cons_zero, List.set_cons_succ, i64_w, i32_w]
              rfl
            refine one_ (i := 3) (N := some 38) #[true, true, true, true, false] rfl rfl (by kernel_rfl) (by decide) (fun K hK => ?_)
            refine goes_ Try.func24 (by kernel_rfl) rfl #[.agg #[.int .i64 t4018, .int .i64 t4019, .int .i64 t4020, .slice Ao51 t4021.length co51], .agg #[.int .i64 t4033, .int .i64 t4034, .int .i64 t4035, .slice Ao64 t4036.length co64]] (by rfl) rfl rfl (by (try simp only [List.map_toArray, List.map_cons, List.map_nil]); first | done | rfl | (simp only [List.length_drop, List.length_take]; rfl)) ?_
            with_reducible refine (laws_eqImage.calls k t4018 t4019 t4020 _ _ t4021 t4033 t4034 t4035 _ _ t4036 true _ ?side1 ?side2 ?side3 ?side4 A27.out).mono ?_
            (case side1 => repeat (first | exact (Kd.R_reads' HO4023.out).2.2 | (with_reducible refine Kd.C_alloc ?_ _) | (with_reducible refine Kd.C_drewN ?_ _) | (with_reducible refine Kd.C_drew ?_)))
            (case side2 => exact (Kd.R_reads' HO4023.out).2.1)
            (case side3 => repeat (first | exact (Kd.R_reads' HO4038.out).2.2 | (with_reducible refine Kd.C_alloc ?_ _) | (with_reducible refine Kd.C_drewN ?_ _) | (with_reducible refine Kd.C_drew ?_)))
            (case side4 => exact (Kd.R_reads' HO4038.out).2.1)
            rintro e w65 ⟨rfl, hb⟩
            refine ⟨_, rfl, ?_⟩
            have n0_ := Aside0.mk (Kd.R_below (by (with_reducible repeat (first | apply Kd.R_alloc | apply Kd.R_drewN | apply Kd.R_drew)); exact HO4010.out) hb)
            have n1_ := Aside0.mk (Kd.R_below (by (with_reducible repeat (first | apply Kd.R_alloc | apply Kd.R_drewN | apply Kd.R_drew)); exact HO4016.out) hb)
            have n2_ := Aside0.mk (Kd.R_below (by (with_reducible repeat (first | apply Kd.R_alloc | apply Kd.R_drewN | apply Kd.R_drew)); exact HO4023.out) hb)
            have n3_ := Aside0.mk (Kd.R_below (by (with_reducible repeat (first | apply Kd.R_alloc | apply Kd.R_drewN | apply Kd.R_drew)); exact HO4030.out) hb)
            have n4_ := Aside0.mk (Kd.R_below (by (with_reducible repeat (first | apply Kd.R_alloc | apply Kd.R_drewN | apply Kd.R_drew)); exact HO4038.out) hb)
            have n5_ := Aside0.mk (blk_below (g := gb4001) (o := .cells #[.int .i64 a0_0, .int .i64 a0_1, .int .i64 a0_2, .slice A0_3 l0_3.length c0_3] 24 (0, 0)) (by (with_reducible repeat (first | refine blk_drewN ?_ _ | refine blk_drew ?_ | refine blk_alloc ?_ _)); exact BK4001.out) hb)
            have n6_ := Aside0.mk (blk_below (g := gb4002) (o := .cells #[.int .i64 a1_0, .int .i64 a1_1, .int .i64 a1_2, .slice A1_3 l1_3.length c1_3] 24 (0, 0)) (by (with_reducible repeat (first | refine blk_drewN ?_ _ | refine blk_drew ?_ | refine blk_alloc ?_ _)); exact BK4002.out) hb)
            have n7_ := Aside0.mk (blk_below (g := gb4024) (o := .cells #[.int .i64 t4018, .int .i64 t4019, .int .i64 t4020, .slice Ao51 t4021.length co51] 27 (0, 0)) (by (with_reducible repeat (first | refine blk_drewN ?_ _ | refine blk_drew ?_ | refine blk_alloc ?_ _)); exact BK4024.out) hb)
            have n8_ := Aside0.mk (blk_below (g := gb4031) (o := .cells #[.int .i64 t4025, .int .i64 t4026, .int .i64 t4027, .slice Ao59 t4028.length co59] 27 (0, 0)) (by (with_reducible repeat (first | refine blk_drewN ?_ _ | refine blk_drew ?_ | refine blk_alloc ?_ _)); exact BK4031.out) hb)
            have n9_ := Aside0.mk (below_step (by repeat (first | (with_reducible first | exact HB.out | apply below_alloc | apply pw_below_drewN | apply below_drew1 | refine below_set ?_ GE4001.out | refine below_set ?_ GE4002.out | refine below_set ?_ GE4024.out | refine below_set ?_ GE4031.out) | exact HB.out)) hb)
            clear HO4010
            clear HO4016
            clear HO4023
            clear HO4030
            clear HO4038
            clear BK4001
            clear BK4002
            clear BK4024
            clear BK4031
            clear HB
            have HO4010 := n0_
            have HO4016 := n1_
            have HO4023 := n2_
            have HO4030 := n3_
            have HO4038 := n4_
            have BK4001 := n5_
            have BK4002 := n6_
            have BK4024 := n7_
            have BK4031 := n8_
            have HB := n9_
            clear n0_ n1_ n2_ n3_ n4_ n5_ n6_ n7_ n8_ n9_
            (try clear hb)
            (try clear hb2)
            (try clear hk)
            (try clear hi)
            refine hK.out _ _ ⟨(blk_cell BK4024.out 0).trans rfl, (blk_cell BK4024.out 1).trans rfl, (blk_cell BK4024.out 2).trans rfl, (blk_cell BK4024.out 3).trans rfl, (blk_cell BK4001.out 0).trans rfl, (blk_cell BK4001.out 1).trans rfl, (blk_cell BK4001.out 2).trans rfl, (blk_cell BK4001.out 3).trans rfl⟩ (fun hHeld => ?_)
            clear hK K
            refine norm_ (a' := ?_) ?_ ?_
            rotate_left
            · show Act.put _ (some 38) _ = _
              simp only [Act.put, List.setIfInBounds_toArray, List.set_cons_zero, List.set_cons_succ, i64_w, i32_w]
              rfl
            refine pure_ (i := 4) (N := some 39) (v := ?_) (a' := ?_) #[true, true, true, true, true] rfl rfl (by kernel_rfl) (fun _ _ _ h => h) (Or.inl ⟨by rfl, ?_⟩) ?_ ?_
            rotate_left
            · intro w'
              go_simp
              with_reducible rfl
            rotate_left
            · simp only [Act.put, List.setIfInBounds_toArray, List.set_cons_zero, List.set_cons_succ, i64_w, i32_w]
              rfl
            refine done_ (by kernel_rfl) ?_
            try go_wp2
            have n0_ := Aside0.mk (Kd.R_drew HO4010.out)
            have n1_ := Aside0.mk (Kd.R_drew HO4016.out)
            have n2_ := Aside0.mk (Kd.R_drew HO4023.out)
            have n3_ := Aside0.mk (Kd.R_drew HO4030.out)
            have n4_ := Aside0.mk (Kd.R_drew HO4038.out)
            have n5_ := Aside0.mk (blk_drew BK4001.out)
            have n6_ := Aside0.mk (blk_drew BK4002.out)
            have n7_ := Aside0.mk (blk_drew BK4024.out)
            have n8_ := Aside0.mk (blk_drew BK4031.out)
            have n9_ := Aside0.mk (below_drew1 HB.out)
            clear HO4010
            clear HO4016
            clear HO4023
            clear HO4030
            clear HO4038
            clear BK4001
            clear BK4002
            clear BK4024
            clear BK4031
            clear HB
            have HO4010 := n0_
            have HO4016 := n1_
            have HO4023 := n2_
            have HO4030 := n3_
            have HO4038 := n4_
            have BK4001 := n5_
            have BK4002 := n6_
            have BK4024 := n7_
            have BK4031 := n8_
            have HB := n9_
            clear n0_ n1_ n2_ n3_ n4_ n5_ n6_ n7_ n8_ n9_
            refine start_ (n := 5) (S := fun w' => w'.cell? ⟨gb4031, 0, none⟩ = some (.int .i64 t4025) ∧ w'.cell? ⟨gb4031, 1, none⟩ = some (.int .i64 t4026) ∧ w'.cell? ⟨gb4031, 2, none⟩ = some (.int .i64 t4027) ∧ w'.cell? ⟨gb4031, 3, none⟩ = some (.slice Ao59 t4028.length co59) ∧ w'.cell? ⟨gb4002, 0, none⟩ = some (.int .i64 a1_0) ∧ w'.cell? ⟨gb4002, 1, none⟩ = some (.int .i64 a1_1) ∧ w'.cell? ⟨gb4002, 2, none⟩ = some (.int .i64 a1_2) ∧ w'.cell? ⟨gb4002, 3, none⟩ = some (.slice A1_3 l1_3.length c1_3)) (ds := []) #[false, false, false, false, false] (by kernel_rfl) rfl rfl ⟨(blk_cell BK4031.out 0).trans rfl, (blk_cell BK4031.out 1).trans rfl, (blk_cell BK4031.out 2).trans rfl, (blk_cell BK4031.out 3).trans rfl, (blk_cell BK4002.out 0).trans rfl, (blk_cell BK4002.out 1).trans rfl, (blk_cell BK4002.out 2).trans rfl, (blk_cell BK4002.out 3).trans rfl⟩ (fun hHeld => ?_)
            generalize w65.drew = w66 at HO4010 HO4016 HO4023 HO4030 HO4038 BK4001 BK4002 BK4024 BK4031 HB hHeld ⊢
            refine take_ (i := 0) (N := some 40) (v := ?_) (a' := ?_) #[true, false, false, false, false] rfl rfl (by kernel_rfl) (fun _ _ _ h => h) (Or.inl ⟨by rfl, ?_⟩) hHeld ?_ ?_
            rotate_left
            · rintro w' ⟨s0, s1, s2, s3, s4, s5, s6, s7⟩
              go_simp
              with_reducible rfl
            rotate_left
            · simp only [Act.put, List.setIfInBounds_toArray, List.set_cons_zero, List.set_cons_succ, i64_w, i32_w]
              rfl
            refine take_ (i := 1) (N := some 41) (v := ?_) (a' := ?_) #[true, true, false, false, false] rfl rfl (by kernel_rfl) (fun _ _ _ h => h) (Or.inl ⟨by rfl, ?_⟩) hHeld ?_ ?_
            rotate_left
            · rintro w' ⟨s0, s1, s2, s3, s4, s5, s6, s7⟩
              go_simp
              with_reducible rfl
            rotate_left
            · simp only [Act.put, List.setIfInBounds_toArray, List.set_cons_zero, List.set_cons_succ, i64_w, i32_w]
              rfl
            refine one_ (i := 2) (N := some 42) #[true, true, true, false, false] rfl rfl (by kernel_rfl) (by decide) (fun K hK => ?_)
            refine goes_ Try.func22 (by kernel_rfl) rfl #[.agg #[.int .i64 a1_0, .int .i64 a1_1, .int .i64 a1_2, .slice A1_3 l1_3.length c1_3]] (by rfl) rfl rfl (by (try simp only [List.map_toArray, List.map_cons, List.map_nil]); first | done | rfl | (simp only [List.length_drop, List.length_take]; rfl)) ?_
            with_reducible refine (laws_toImage.calls k a1_0 a1_1 a1_2 _ _ l1_3 t4040 t4041 t4042 t4043 _ ?side1 ?side2 A29.out).mono ?_
            (case side1 => repeat (first | exact (Kd.C_below HR1_3.out HB.out) | (with_reducible refine Kd.C_alloc ?_ _) | (with_reducible refine Kd.C_drewN ?_ _) | (with_reducible refine Kd.C_drew ?_)))
            (case side2 => exact HC1_3.out)
            rintro e w67 ⟨v4044, rfl, ho0, hb⟩
            refine ⟨_, rfl, ?_⟩
            have n0_ := Aside0.mk (Kd.R_elder' (by (with_reducible repeat (first | apply Kd.R_alloc | apply Kd.R_drewN | apply Kd.R_drew)); exact HO4010.out) (Kd.R_base ho0) hb)
            have n1_ := Aside0.mk (Kd.R_elder' (by (with_reducible repeat (first | apply Kd.R_alloc | apply Kd.R_drewN | apply Kd.R_drew)); exact HO4016.out) (Kd.R_base ho0) hb)
            have n2_ := Aside0.mk (Kd.R_elder' (by (with_reducible repeat (first | apply Kd.R_alloc | apply Kd.R_drewN | apply Kd.R_drew)); exact HO4023.out) (Kd.R_base ho0) hb)
            have n3_ := Aside0.mk (Kd.R_elder' (by (with_reducible repeat (first | apply Kd.R_alloc | apply Kd.R_drewN | apply Kd.R_drew)); exact HO4030.out) (Kd.R_base ho0) hb)
            have n4_ := Aside0.mk (Kd.R_elder' (by (with_reducible repeat (first | apply Kd.R_alloc | apply Kd.R_drewN | apply Kd.R_drew)); exact HO4038.out) (Kd.R_base ho0) hb)
            have n5_ := Aside0.mk (Kd.R_lower (Kd.R_new' (Kd.R_new' (Kd.R_new' (Kd.R_new' (Kd.R_new' ho0 (Kd.R_lt (by (with_reducible repeat (first | apply Kd.R_alloc | apply Kd.R_drewN | apply Kd.R_drew)); exact HO4010.out))) (Kd.R_lt (by (with_reducible repeat (first | apply Kd.R_alloc | apply Kd.R_drewN | apply Kd.R_drew)); exact HO4016.out))) (Kd.R_lt (by (with_reducible repeat (first | apply Kd.R_alloc | apply Kd.R_drewN | apply Kd.R_drew)); exact HO4023.out))) (Kd.R_lt (by (with_reducible repeat (first | apply Kd.R_alloc | apply Kd.R_drewN | apply Kd.R_drew)); exact HO4030.out))) (Kd.R_lt (by (with_reducible repeat (first | apply Kd.R_alloc | apply Kd.R_drewN | apply Kd.R_drew)); exact HO4038.out))) (below_size (by repeat (first | (with_reducible first | exact HB.out | apply below_alloc | apply pw_below_drewN | apply below_drew1 | refine below_set ?_ GE4001.out | refine below_set ?_ GE4002.out | refine below_set ?_ GE4024.out | refine below_set ?_ GE4031.out) | exact HB.out))))
            have n6_ := Aside0.mk (blk_below (g := gb4001) (o := .cells #[.int .i64 a0_0, .int .i64 a0_1, .int .i64 a0_2, .slice A0_3 l0_3.length c0_3] 24 (0, 0)) (by (with_reducible repeat (first | refine blk_drewN ?_ _ | refine blk_drew ?_ | refine blk_alloc ?_ _)); exact BK4001.out) hb)
            have n7_ := Aside0.mk (blk_below (g := gb4002) (o := .cells #[.int .i64 a1_0, .int .i64 a1_1, .int .i64 a1_2, .slice A1_3 l1_3.length c1_3] 24 (0, 0)) (by (with_reducible repeat (first | refine blk_drewN ?_ _ | refine blk_drew ?_ | refine blk_alloc ?_ _)); exact BK4002.out) hb)
            have n8_ := Aside0.mk (blk_below (g := gb4024) (o := .cells #[.int .i64 t4018, .int .i64 t4019, .int .i64 t4020, .slice Ao51 t4021.length co51] 27 (0, 0)) (by (with_reducible repeat (first | refine blk_drewN ?_ _ | refine blk_drew ?_ | refine blk_alloc ?_ _)); exact BK4024.out) hb)
            have n9_ := Aside0.mk (blk_below (g := gb4031) (o := .cells #[.int .i64 t4025, .int .i64 t4026, .int .i64 t4027, .slice Ao59 t4028.length co59] 27 (0, 0)) (by (with_reducible repeat (first | refine blk_drewN ?_ _ | refine blk_drew ?_ | refine blk_alloc ?_ _)); exact BK4031.out) hb)
            have n10_ := Aside0.mk (below_step (by repeat (first | (with_reducible first | exact HB.out | apply below_alloc | apply pw_below_drewN | apply below_drew1 | refine below_set ?_ GE4001.out | refine below_set ?_ GE4002.out | refine below_set ?_ GE4024.out | refine below_set ?_ GE4031.out) | exact HB.out)) hb)
            clear HO4010
            clear HO4016
            clear HO4023
            clear HO4030
            clear HO4038
            clear BK4001
            clear BK4002
            clear BK4024
            clear BK4031
            clear HB
            have HO4010 := n0_
            have HO4016 := n1_
            have HO4023 := n2_
            have HO4030 := n3_
            have HO4038 := n4_
            have HO4045 := n5_
            have BK4001 := n6_
            have BK4002 := n7_
            have BK4024 := n8_
            have BK4031 := n9_
            have HB := n10_
            clear n0_ n1_ n2_ n3_ n4_ n5_ n6_ n7_ n8_ n9_ n10_
            (try clear hb)
            (try clear hb2)
            (try clear hk)
            (try clear hi)
            (try clear ho0)
            obtain ⟨Ao68, co68, eo68⟩ := Kd.R_slice HO4045.out
            (first | subst eo68 | (injection eo68 with f1_ f2_ f3_; have f4_ := f1_.symm; have f5_ := f3_.symm; clear f1_ f2_ f3_; subst f4_; subst f5_))
            refine hK.out _ _ ⟨(blk_cell BK4031.out 0).trans rfl, (blk_cell BK4031.out 1).trans rfl, (blk_cell BK4031.out 2).trans rfl, (blk_cell BK4031.out 3).trans rfl, (blk_cell BK4002.out 0).trans rfl, (blk_cell BK4002.out 1).trans rfl, (blk_cell BK4002.out 2).trans rfl, (blk_cell BK4002.out 3).trans rfl⟩ (fun hHeld => ?_)
            clear hK K
            refine norm_ (a' := ?_) ?_ ?_
            rotate_left
            · show Act.put _ (some 42) _ = _
              simp only [Act.put, List.setIfInBounds_toArray, List.set_cons_zero, List.set_cons_succ, i64_w, i32_w]
              rfl
            refine one_ (i := 3) (N := some 43) #[true, true, true, true, false] rfl rfl (by kernel_rfl) (by decide) (fun K hK => ?_)
            refine goes_ Try.func24 (by kernel_rfl) rfl #[.agg #[.int .i64 t4025, .int .i64 t4026, .int .i64 t4027, .slice Ao59 t4028.length co59], .agg #[.int .i64 t4040, .int .i64 t4041, .int .i64 t4042, .slice Ao68 t4043.length co68]] (by rfl) rfl rfl (by (try simp only [List.map_toArray, List.map_cons, List.map_nil]); first | done | rfl | (simp only [List.length_drop, List.length_take]; rfl)) ?_
            with_reducible refine (laws_eqImage.calls k t4025 t4026 t4027 _ _ t4028 t4040 t4041 t4042 _ _ t4043 true _ ?side1 ?side2 ?side3 ?side4 A30.out).mono ?_
            (case side1 => repeat (first | exact (Kd.R_reads' HO4030.out).2.2 | (with_reducible refine Kd.C_alloc ?_ _) | (with_reducible refine Kd.C_drewN ?_ _) | (with_reducible refine Kd.C_drew ?_)))
            (case side2 => exact (Kd.R_reads' HO4030.out).2.1)
            (case side3 => repeat (first | exact (Kd.R_reads' HO4045.out).2.2 | (with_reducible refine Kd.C_alloc ?_ _) | (with_reducible refine Kd.C_drewN ?_ _) | (with_reducible refine Kd.C_drew ?_)))
            (case side4 => exact (Kd.R_reads' HO4045.out).2.1)
            rintro e w69 ⟨rfl, hb⟩
            refine ⟨_, rfl, ?_⟩
            have n0_ := Aside0.mk (Kd.R_below (by (with_reducible repeat (first | apply Kd.R_alloc | apply Kd.R_drewN | apply Kd.R_drew)); exact HO4010.out) hb)
            have n1_ := Aside0.mk (Kd.R_below (by (with_reducible repeat (first | apply Kd.R_alloc | apply Kd.R_drewN | apply Kd.R_drew)); exact HO4016.out) hb)
            have n2_ := Aside0.mk (Kd.R_below (by (with_reducible repeat (first | apply Kd.R_alloc | apply Kd.R_drewN | apply Kd.R_drew)); exact HO4023.out) hb)
            have n3_ := Aside0.mk (Kd.R_below (by (with_reducible repeat (first | apply Kd.R_alloc | apply Kd.R_drewN | apply Kd.R_drew)); exact HO4030.out) hb)
            have n4_ := Aside0.mk (Kd.R_below (by (with_reducible repeat (first | apply Kd.R_alloc | apply Kd.R_drewN | apply Kd.R_drew)); exact HO4038.out) hb)
            have n5_ := Aside0.mk (Kd.R_below (by (with_reducible repeat (first | apply Kd.R_alloc | apply Kd.R_drewN | apply Kd.R_drew)); exact HO4045.out) hb)
            have n6_ := Aside0.mk (blk_below (g := gb4001) (o := .cells #[.int .i64 a0_0, .int .i64 a0_1, .int .i64 a0_2, .slice A0_3 l0_3.length c0_3] 24 (0, 0)) (by (with_reducible repeat (first | refine blk_drewN ?_ _ | refine blk_drew ?_ | refine blk_alloc ?_ _)); exact BK4001.out) hb)
            have n7_ := Aside0.mk (blk_below (g := gb4002) (o := .cells #[.int .i64 a1_0, .int .i64 a1_1, .int .i64 a1_2, .slice A1_3 l1_3.length c1_3] 24 (0, 0)) (by (with_reducible repeat (first | refine blk_drewN ?_ _ | refine blk_drew ?_ | refine blk_alloc ?_ _)); exact BK4002.out) hb)
            have n8_ := Aside0.mk (blk_below (g := gb4024) (o := .cells #[.int .i64 t4018, .int .i64 t4019, .int .i64 t4020, .slice Ao51 t4021.length co51] 27 (0, 0)) (by (with_reducible repeat (first | refine blk_drewN ?_ _ | refine blk_drew ?_ | refine blk_alloc ?_ _)); exact BK4024.out) hb)
            have n9_ := Aside0.mk (blk_below (g := gb4031) (o := .cells #[.int .i64 t4025, .int .i64 t4026, .int .i64 t4027, .slice Ao59 t4028.length co59] 27 (0, 0)) (by (with_reducible repeat (first | refine blk_drewN ?_ _ | refine blk_drew ?_ | refine blk_alloc ?_ _)); exact BK4031.out) hb)
            have n10_ := Aside0.mk (below_step (by repeat (first | (with_reducible first | exact HB.out | apply below_alloc | apply pw_below_drewN | apply below_drew1 | refine below_set ?_ GE4001.out | refine below_set ?_ GE4002.out | refine below_set ?_ GE4024.out | refine below_set ?_ GE4031.out) | exact HB.out)) hb)
            clear HO4010
            clear HO4016
            clear HO4023
            clear HO4030
            clear HO4038
            clear HO4045
            clear BK4001
            clear BK4002
            clear BK4024
            clear BK4031
            clear HB
            have HO4010 := n0_
            have HO4016 := n1_
            have HO4023 := n2_
            have HO4030 := n3_
            have HO4038 := n4_
            have HO4045 := n5_
            have BK4001 := n6_
            have BK4002 := n7_
            have BK4024 := n8_
            have BK4031 := n9_
            have HB := n10_
            clear n0_ n1_ n2_ n3_ n4_ n5_ n6_ n7_ n8_ n9_ n10_
            (try clear hb)
            (try clear hb2)
            (try clear hk)
            (try clear hi)
            refine hK.out _ _ ⟨(blk_cell BK4031.out 0).trans rfl, (blk_cell BK4031.out 1).trans rfl, (blk_cell BK4031.out 2).trans rfl, (blk_cell BK4031.out 3).trans rfl, (blk_cell BK4002.out 0).trans rfl, (blk_cell BK4002.out 1).trans rfl, (blk_cell BK4002.out 2).trans rfl, (blk_cell BK4002.out 3).trans rfl⟩ (fun hHeld => ?_)
            clear hK K
            refine norm_ (a' := ?_) ?_ ?_
            rotate_left
            · show Act.put _ (some 43) _ = _
              simp only [Act.put, List.setIfInBounds_toArray, List.set_cons_zero, List.set_cons_succ, i64_w, i32_w]
              rfl
            refine pure_ (i := 4) (N := some 44) (v := ?_) (a' := ?_) #[true, true, true, true, true] rfl rfl (by kernel_rfl) (fun _ _ _ h => h) (Or.inl ⟨by rfl, ?_⟩) ?_ ?_
            rotate_left
            · intro w'
              go_simp
              with_reducible rfl
            rotate_left
            · simp only [Act.put, List.setIfInBounds_toArray, List.set_cons_zero, List.set_cons_succ, i64_w, i32_w]
              rfl
            refine done_ (by kernel_rfl) ?_
            try go_wp2
            go_ret
            exact ⟨by first | rfl | (simp [errW_none, errW_some] <;> rfl) | (simp [*, errW_none, errW_some] <;> rfl), by repeat (first | (with_reducible first | exact HB.out | apply below_alloc | apply pw_below_drewN | apply below_drew1 | refine below_set ?_ GE4001.out | refine below_set ?_ GE4002.out | refine below_set ?_ GE4024.out | refine below_set ?_ GE4031.out) | exact HB.out)⟩
          · replace c31 := Bool.eq_false_iff.mpr c31
            subst c31
            have H1 : (some false) = some r := by rw [if_neg (show ¬ (false = true) by decide)] at H; exact H
            clear H
            have H := H1
            clear H1
            exact absurd ((Option.some.inj H).trans HRT.out) (by decide)
        · replace c28 := Bool.eq_false_iff.mpr c28
          subst c28
          have H1 : (some false) = some r := by rw [if_neg (show ¬ (false = true) by decide)] at H; exact H
          clear H
          have H := H1
          clear H1
          exact absurd ((Option.some.inj H).trans HRT.out) (by decide)
      · rw [if_neg c25] at H
        have c25b0 : (t4032 == t4017) = false := beq_eq_false_iff_ne.mpr c25
        have c25b1 : (t4032 != t4017) = true := bne_iff_ne.mpr c25
        exact absurd ((Option.some.inj H).trans HRT.out) (by decide)

end Go.Proofs.Ytnofkbbcbpjhfaa.Q

/- What an argument's reading as data tells: numbers, bools, slices and structs of them, by their kinds. -/
namespace Go.Proofs.Ytnofkbbcbpjhfaa.Q
open Go.RowKit Go.Proofs.YtnofkbbcbpjhfaaW.PrintWords Go.Proofs.YtnofkbbcbpjhfaaW.PrintLast Go.Proofs.YtnofkbbcbpjhfaaW.PrintMore
attribute [local go_sem] max2_int min2_int max_two min_two max_three min_three max_four min_four
set_option linter.unusedVariables false
set_option linter.unusedSimpArgs false
open Go.ChangeShapes Go.WideShapes Go.Deep

/-- A number of 64 bits. -/
def I64 (n : Int) : Prop := -9223372036854775808 ≤ n ∧ n ≤ 9223372036854775807
theorem i64_of (n : Int) (h : (Lit.int .i64 n).wf = true) : I64 n := by
  simp only [Lit.wf, Bool.and_eq_true, decide_eq_true_eq] at h
  have e1 : IntKind.min .i64 = -9223372036854775808 := by decide
  have e2 : IntKind.max .i64 = 9223372036854775807 := by decide
  unfold I64
  omega
/-- Whatever reads at type t as data is a y of this kind, of which Q holds. -/
def Opens {α : Type} (P : Program) (t : TypeId) (d : Kd α) (Q : α → Prop) : Prop :=
  ∀ (H : Type) (enc : TypeId × Value → H) (w : World) (fuel : Nat) (cs : List Value) (x : DataW H × List MemPlace),
    DataW.trod enc P w 0 (fun _ => true) true fuel t cs = some x → ∃ y : α, d.K w y cs ∧ Q y
section
variable {P : Program} {t : TypeId} {α β : Type}
theorem opens_i64 (ht : P.underlying t = some (.int .i64)) : Opens P t (Kd.int .i64) I64 := by
  intro H enc w fuel cs x h
  obtain ⟨n, rfl, _, hw⟩ := DataW.trod_int ht h
  exact ⟨n, rfl, i64_of n hw⟩
theorem opens_bool (ht : P.underlying t = some .bool) : Opens P t Kd.bool (fun _ => True) := by
  intro H enc w fuel cs x h
  obtain ⟨b, rfl, _⟩ := DataW.trod_bool ht h
  exact ⟨b, rfl, trivial⟩
theorem opens_slice {e : TypeId} {d : Kd α} {Q : α → Prop} (ht : P.underlying t = some (.slice e)) (hc : P.cellsOf e = d.sz) (ho : Opens P e d Q) :
    Opens P t (Kd.slice e d) (fun l => ∀ x ∈ l, Q x) := by
  intro H enc w fuel cs x h
  rcases open_slice ht h with ⟨rfl, _⟩ | ⟨a, len, cap, m, n, D, Pl, rfl, _, hl, hm, hmm, _, hi⟩
  · exact ⟨[], ⟨none, 0, rfl, Nat.le_refl _, rfl, by simp, fun h0 => absurd h0 (by simp)⟩, fun x hx => absurd hx (by simp)⟩
  · have hmc : m = cap := by simpa using hmm
    subst hmc
    have each : ∀ i, i < len → ∃ y : α, (∃ c, c.length = d.sz ∧ d.K w y c ∧ ∀ j u, c[j]? = some u → w.cell? (a.add (i * d.sz + j)) = some u) ∧ Q y := by
      intro i hil
      obtain ⟨cs', hcs, htr⟩ := hi i (by omega)
      rw [hc] at hcs
      obtain ⟨_, hcl, hat⟩ := World.cells?_some hcs
      obtain ⟨y, hK, hQ⟩ := ho H enc w n cs' _ htr
      refine ⟨y, ⟨cs', hcl, hK, fun j u hu => ?_⟩, hQ⟩
      have hj : j < d.sz := by rw [← hcl]; exact (List.getElem?_eq_some_iff.1 hu).1
      rw [← Go.Deep.add_add, hat j hj, hu]
    have hY : ∃ ys : List α, ys.length = len ∧ ∀ i, i < len → ∃ y, ys[i]? = some y ∧ (∃ c, c.length = d.sz ∧ d.K w y c ∧ ∀ j u, c[j]? = some u → w.cell? (a.add (i * d.sz + j)) = some u) ∧ Q y := by
      have key : ∀ q, q ≤ len → ∃ ys : List α, ys.length = q ∧ ∀ i, i < q → ∃ y, ys[i]? = some y ∧ (∃ c, c.length = d.sz ∧ d.K w y c ∧ ∀ j u, c[j]? = some u → w.cell? (a.add (i * d.sz + j)) = some u) ∧ Q y := by
        intro q
        induction q with
        | zero => intro _; exact ⟨[], rfl, fun i hi' => absurd hi' (by omega)⟩
        | succ q ih =>
          intro hq
          obtain ⟨ys, hyl, hys⟩ := ih (by omega)
          obtain ⟨y, hy⟩ := each q (by omega)
          refine ⟨ys ++ [y], by simp [hyl], fun i hi' => ?_⟩
          by_cases e : i = q
          · subst e
            exact ⟨y, by rw [List.getElem?_append_right (by omega)]; simp [hyl], hy⟩
          · obtain ⟨z, hz, hz2⟩ := hys i (by omega)
            exact ⟨z, by rw [List.getElem?_append_left (by omega)]; exact hz, hz2⟩
      exact key len (Nat.le_refl _)
    obtain ⟨ys, hyl, hys⟩ := hY
    refine ⟨ys, ⟨some a, m, by rw [hyl], by omega, rfl, by rw [hyl]; simp only [maxLen] at hm; omega, fun _ => ⟨a, rfl, fun j p hj => ?_⟩⟩, fun x hx => ?_⟩
    · have hjl : j < len := by rw [← hyl]; exact (List.getElem?_eq_some_iff.1 hj).1
      obtain ⟨y, hy, hc2, _⟩ := hys j hjl
      rw [hy] at hj
      obtain rfl := Option.some.inj hj
      exact hc2
    · obtain ⟨j, hj, rfl⟩ := List.getElem_of_mem hx
      obtain ⟨y, hy, _, hq⟩ := hys j (by omega)
      rw [List.getElem?_eq_getElem hj] at hy
      obtain rfl := Option.some.inj hy
      exact hq
/-- Fields in line, from the cell 'off' on. -/
def OpensF (P : Program) (fs : List Field) (off : Nat) (d : Kd α) (Q : α → Prop) : Prop :=
  ∀ (H : Type) (enc : TypeId × Value → H) (w : World) (n : Nat) (cs : List Value), cs.length = off + d.sz →
    (∀ f ∈ fs, ∃ x, DataW.trod enc P w 0 (fun _ => true) true n f.type ((cs.drop f.offset).take (P.cellsOf f.type)) = some x) → ∃ y : α, d.K w y (cs.drop off) ∧ Q y
theorem opensF_one {f : Field} {off : Nat} {d : Kd α} {Q : α → Prop} (ho : f.offset = off) (hc : P.cellsOf f.type = d.sz) (h : Opens P f.type d Q) : OpensF P [f] off d Q := by
  intro H enc w n cs hl hf
  obtain ⟨x, hx⟩ := hf f (by simp)
  rw [ho, hc, List.take_of_length_le (by rw [List.length_drop]; omega)] at hx
  exact h H enc w n _ _ hx
theorem opensF_cons {f : Field} {fs : List Field} {off : Nat} {d : Kd α} {Q : α → Prop} {d' : Kd β} {Q' : β → Prop} (ho : f.offset = off) (hc : P.cellsOf f.type = d.sz) (h : Opens P f.type d Q) (h' : OpensF P fs (off + d.sz) d' Q') :
    OpensF P (f :: fs) off (Kd.pair d d') (fun p => Q p.1 ∧ Q' p.2) := by
  intro H enc w n cs hl hf
  have hl' : cs.length = off + (d.sz + d'.sz) := hl
  obtain ⟨x, hx⟩ := hf f (by simp)
  rw [ho, hc] at hx
  obtain ⟨y, hK, hQ⟩ := h H enc w n _ _ hx
  obtain ⟨y', hK', hQ'⟩ := h' H enc w n cs (by omega) (fun g hg => hf g (by simp [hg]))
  refine ⟨(y, y'), ⟨(cs.drop off).take d.sz, cs.drop (off + d.sz), ?_, hK, hK'⟩, hQ, hQ'⟩
  rw [← List.drop_drop, List.take_append_drop]
theorem opens_struct {fs : Array Field} {d : Kd α} {Q : α → Prop} (ht : P.underlying t = some (.struct fs)) (hc : P.cellsOf t = d.sz) (h : OpensF P fs.toList 0 d Q) : Opens P t d Q := by
  intro H enc w fuel cs x hx
  obtain ⟨xs, n, _, _, hcl, hxl, hg⟩ := DataW.trod_struct ht hx
  obtain ⟨y, hK, hQ⟩ := h H enc w n cs (by omega) (fun f hf => by
    obtain ⟨i, hi, rfl⟩ := List.getElem_of_mem hf
    have hi' : i < fs.size := by simpa using hi
    have h1 := hg i (fs.toList[i]) (by simp [hi'])
    rw [List.getElem?_eq_getElem (by omega)] at h1
    exact ⟨_, h1⟩)
  exact ⟨y, by simpa using hK, hQ⟩
theorem opens_iso {d : Kd α} {Q : α → Prop} (f : β → α) (g : α → β) (hfg : ∀ a, f (g a) = a) (h : Opens P t d Q) : Opens P t (Kd.iso d f) (fun b => Q (f b)) := by
  intro H enc w fuel cs x hx
  obtain ⟨y, hK, hQ⟩ := h H enc w fuel cs x hx
  refine ⟨g y, ?_, ?_⟩
  · show d.K w (f (g y)) cs
    rw [hfg]; exact hK
  · show Q (f (g y))
    rw [hfg]; exact hQ
end
end Go.Proofs.Ytnofkbbcbpjhfaa.Q

/- What is known of structs that came in. -/
namespace Go.Proofs.Ytnofkbbcbpjhfaa.Q
open Go.RowKit Go.Proofs.YtnofkbbcbpjhfaaW.PrintWords Go.Proofs.YtnofkbbcbpjhfaaW.PrintLast Go.Proofs.YtnofkbbcbpjhfaaW.PrintMore
attribute [local go_sem] max2_int min2_int max_two min_two max_three min_three max_four min_four
set_option linter.unusedVariables false
set_option linter.unusedSimpArgs false
def wf24 (x : S24) : Prop := I64 x.f0 ∧ I64 x.f1 ∧ I64 x.f2 ∧ (∀ y ∈ x.f3, I64 y)
theorem o24 : Opens Try.prog 24 k24 wf24 :=
  opens_iso (fun x : S24 => (x.f0, x.f1, x.f2, x.f3)) (fun p => (⟨p.1, p.2.1, p.2.2.1, p.2.2.2⟩ : S24)) (fun _ => rfl) (opens_struct Try.underlying24 (by kernel_rfl) (opensF_cons rfl (by kernel_rfl) (opens_i64 Try.underlying3) (opensF_cons rfl (by kernel_rfl) (opens_i64 Try.underlying3) (opensF_cons rfl (by kernel_rfl) (opens_i64 Try.underlying3) (opensF_one rfl (by kernel_rfl) (opens_slice Try.underlying22 (by kernel_rfl) (opens_i64 Try.underlying3)))))))
def wf51 (x : S51) : Prop := wf24 x.f0 ∧ I64 x.f1 ∧ I64 x.f2 ∧ I64 x.f3 ∧ I64 x.f4 ∧ True
theorem o51 : Opens Try.prog 51 k51 wf51 :=
  opens_iso (fun x : S51 => (x.f0, x.f1, x.f2, x.f3, x.f4, x.f5)) (fun p => (⟨p.1, p.2.1, p.2.2.1, p.2.2.2.1, p.2.2.2.2.1, p.2.2.2.2.2⟩ : S51)) (fun _ => rfl) (opens_struct Try.underlying51 (by kernel_rfl) (opensF_cons rfl (by kernel_rfl) o24 (opensF_cons rfl (by kernel_rfl) (opens_i64 Try.underlying3) (opensF_cons rfl (by kernel_rfl) (opens_i64 Try.underlying3) (opensF_cons rfl (by kernel_rfl) (opens_i64 Try.underlying3) (opensF_cons rfl (by kernel_rfl) (opens_i64 Try.underlying3) (opensF_one rfl (by kernel_rfl) (opens_bool Try.underlying4))))))))
end Go.Proofs.Ytnofkbbcbpjhfaa.Q

/- The statement over plain lists and numbers that is left of the law FnExactGapOf. -/
namespace Go.Proofs.Ytnofkbbcbpjhfaa.Q
open Go.RowKit Go.Proofs.YtnofkbbcbpjhfaaW.PrintWords Go.Proofs.YtnofkbbcbpjhfaaW.PrintLast Go.Proofs.YtnofkbbcbpjhfaaW.PrintMore
attribute [local go_sem] max2_int min2_int max_two min_two max_three min_three max_four min_four
set_option linter.unusedVariables false
set_option linter.unusedSimpArgs false
def laws_FnExactGapOf.Pure : Prop := ∀ (a0_0 : Int) (a0_1 : Int) (a0_2 : Int) (l0_3 : List Int) (a1_0 : Int) (a1_1 : Int) (a1_2 : Int) (l1_3 : List Int), I64 a0_0 → I64 a0_1 → I64 a0_2 → (∀ y ∈ l0_3, I64 y) → l0_3.length ≤ 9223372036854775807 → I64 a1_0 → I64 a1_1 → I64 a1_2 → (∀ y ∈ l1_3, I64 y) → l1_3.length ≤ 9223372036854775807 → ∃ k, laws_FnExactGapOf.f k a0_0 a0_1 a0_2 l0_3 a1_0 a1_1 a1_2 l1_3 = some true
end Go.Proofs.Ytnofkbbcbpjhfaa.Q

/- Plain words: numbers that do not wrap, elements of lists, rounds that are enough. -/
namespace Go.Proofs.Ytnofkbbcbpjhfaa.Pure
open Go.RowKit Go.Proofs.Ytnofkbbcbpjhfaa.Q Go.Proofs.YtnofkbbcbpjhfaaW.PrintWords Go.Proofs.YtnofkbbcbpjhfaaW.PrintLast Go.Proofs.YtnofkbbcbpjhfaaW.PrintMore
set_option linter.unusedVariables false
set_option linter.unusedSimpArgs false

theorem w64 {x : Int} (h1 : -9223372036854775808 ≤ x) (h2 : x ≤ 9223372036854775807) : wrap64 x = x := by unfold wrap64; omega
theorem w64n (n : Nat) (h : n < 9223372036854775807) : wrap64 ((n : Int) + 1) = ((n + 1 : Nat) : Int) := by unfold wrap64; omega
theorem rd_nat (l : List Int) (i : Nat) (h : i < l.length) : rd l (i : Int) = l[i] := by simp [rd, h]
theorem ev_const {α : Type} {o : Option α} {r : α} (h : o = some r) : Ev (fun _ => o) r := ⟨0, fun _ _ => h⟩
theorem ev_bind {α β : Type} {g : Nat → Option α} {f : Nat → α → Option β} {a : α} {r : β} (h : Ev g a) (k : Ev (fun n => f n a) r) : Ev (fun n => (g n).bind (f n)) r := Ev.bind h k
theorem ev_now {α β : Type} {o : Option α} {f : Nat → α → Option β} {a : α} {r : β} (h : o = some a) (k : Ev (fun n => f n a) r) : Ev (fun n => o.bind (f n)) r := Ev.bind (ev_const h) k
theorem ev_pos {α : Type} {c : Prop} [Decidable c] {f g : Nat → Option α} {r : α} (h : c) (k : Ev f r) : Ev (fun n => if c then f n else g n) r := by
  simpa [h] using k
theorem ev_neg {α : Type} {c : Prop} [Decidable c] {f g : Nat → Option α} {r : α} (h : ¬ c) (k : Ev g r) : Ev (fun n => if c then f n else g n) r := by
  simpa [h] using k
/-- The same, from some number of rounds on: for loops in loops. -/
theorem ev_up {σ ρ : Type} (n : Nat) (L : Nat → Nat → σ → Option ρ) (Inv : Nat → σ → Prop) (F : Nat → σ → ρ)
    (step : ∀ i s, i < n → Inv i s → Ev (fun k => L k i s) (F i s) ∨ ∃ s', (∀ k, L (k + 1) i s = L k (i + 1) s') ∧ Inv (i + 1) s' ∧ F (i + 1) s' = F i s)
    (last : ∀ s, Inv n s → Ev (fun k => L k n s) (F n s)) :
    ∀ d i s, i + d = n → Inv i s → Ev (fun k => L k i s) (F i s) := by
  intro d
  induction d with
  | zero =>
    intro i s hi hinv
    have : i = n := by omega
    subst this
    exact last s hinv
  | succ d ih =>
    intro i s hi hinv
    rcases step i s (by omega) hinv with h | ⟨s', h, hi', hF⟩
    · exact h
    · rw [← hF]
      exact Ev.step h (ih (i + 1) s' (by omega) hi')
theorem take_set {α : Type} (s : List α) (i : Nat) (c : α) (h : i < s.length) : (s.set i c).take (i + 1) = s.take i ++ [c] := by
  rw [List.take_succ_eq_append_getElem (by simpa using h), List.take_set_of_le (Nat.le_refl i)]
  simp
end Go.Proofs.Ytnofkbbcbpjhfaa.Pure

/- Images: valid ones, as the program and the reference have it; copies of lists of numbers. -/
namespace Go.Proofs.Ytnofkbbcbpjhfaa.Pure
open Go.RowKit Go.Proofs.Ytnofkbbcbpjhfaa.Q Go.Proofs.YtnofkbbcbpjhfaaW.PrintWords Go.Proofs.YtnofkbbcbpjhfaaW.PrintLast Go.Proofs.YtnofkbbcbpjhfaaW.PrintMore
set_option linter.unusedVariables false
set_option linter.unusedSimpArgs false

def byteI (n : Int) : Bool := decide (0 ≤ n) && decide (n ≤ 255)
def shapeI (w h p : Int) : Bool := decide (1 ≤ w ∧ w ≤ 16 ∧ 1 ≤ h ∧ h ≤ 16 ∧ 1 ≤ p ∧ p ≤ 4)
theorem shapeI_iff (w h p : Int) : shapeI w h p = true ↔ 1 ≤ w ∧ w ≤ 16 ∧ 1 ≤ h ∧ h ≤ 16 ∧ 1 ≤ p ∧ p ≤ 4 := by simp [shapeI]
def validI (w h p : Int) (d : List Int) : Bool := shapeI w h p && (decide ((d.length : Int) = w * h * p) && d.all byteI)
theorem validI_iff (w h p : Int) (d : List Int) : validI w h p d = true ↔ (1 ≤ w ∧ w ≤ 16 ∧ 1 ≤ h ∧ h ≤ 16 ∧ 1 ≤ p ∧ p ≤ 4) ∧ (d.length : Int) = w * h * p ∧ ∀ n ∈ d, 0 ≤ n ∧ n ≤ 255 := by
  simp [validI, shapeI_iff, byteI, and_assoc]
theorem shape_prod {w h p : Int} (hs : 1 ≤ w ∧ w ≤ 16 ∧ 1 ≤ h ∧ h ≤ 16 ∧ 1 ≤ p ∧ p ≤ 4) : 0 ≤ w * h ∧ w * h ≤ 256 ∧ 0 ≤ w * h * p ∧ w * h * p ≤ 1024 := by
  have h1 : 0 ≤ w * h := Int.mul_nonneg (by omega) (by omega)
  have h2 : w * h ≤ 16 * 16 := Int.mul_le_mul (by omega) (by omega) (by omega) (by omega)
  have h3 : 0 ≤ w * h * p := Int.mul_nonneg h1 (by omega)
  have h4 : w * h * p ≤ 256 * 4 := Int.mul_le_mul (by omega) (by omega) (by omega) (by omega)
  omega
theorem shape_wrap {w h p : Int} (hs : 1 ≤ w ∧ w ≤ 16 ∧ 1 ≤ h ∧ h ≤ 16 ∧ 1 ≤ p ∧ p ≤ 4) : wrap64 (wrap64 (w * h) * p) = w * h * p := by
  have := shape_prod hs
  rw [w64 (x := w * h) (by omega) (by omega), w64 (by omega) (by omega)]
theorem impl_isSide_eq (a : Int) : impl_isSide.f a = some (decide (1 ≤ a ∧ a ≤ 16)) := by
  unfold impl_isSide.f
  by_cases c : a ≥ 1
  · rw [if_pos c]; congr 1; rw [decide_eq_decide]; omega
  · rw [if_neg c, decide_eq_false (by omega)]
theorem impl_isShape_eq (w h p : Int) : impl_isShape.f w h p = some (shapeI w h p) := by
  unfold impl_isShape.f shapeI
  rw [impl_isSide_eq, impl_isSide_eq]
  simp only [Option.bind_some]
  by_cases c1 : 1 ≤ w ∧ w ≤ 16
  · rw [if_pos (by simpa using c1)]
    by_cases c2 : 1 ≤ h ∧ h ≤ 16
    · rw [if_pos (by simpa using c2)]
      by_cases c3 : p ≥ 1
      · rw [if_pos c3]; congr 1; rw [decide_eq_decide]; omega
      · rw [if_neg c3, decide_eq_false (by omega)]
    · rw [if_neg (by simpa using c2), decide_eq_false (by omega)]
  · rw [if_neg (by simpa using c1), decide_eq_false (by omega)]
theorem areBytesI_eq (l : List Int) : impl_areBytes.f l = some (l.all byteI) := by
  unfold impl_areBytes.f
  congr 1
  rw [List.not_any_eq_all_not]
  congr 1
  funext n
  unfold notByte byteI
  rw [Bool.eq_iff_iff]
  simp
theorem impl_isImage_eq (w h p : Int) (d : List Int) : impl_isImage.f w h p d = some (validI w h p d) := by
  unfold impl_isImage.f validI
  rw [impl_isShape_eq, areBytesI_eq]
  simp only [Option.bind_some]
  by_cases c : shapeI w h p = true
  · rw [if_pos c, shape_wrap ((shapeI_iff w h p).1 c), c]
    by_cases e : (d.length : Int) = w * h * p
    · rw [if_pos e, decide_eq_true e]; rfl
    · rw [if_neg e, decide_eq_false e]; rfl
  · rw [if_neg c, Bool.eq_false_iff.2 c]; rfl
theorem spec_inRangeI_eq (n a b : Int) : spec_inRange.f n a b = some (decide (a ≤ n) && decide (n ≤ b)) := by
  unfold spec_inRange.f
  by_cases c : a ≤ n
  · rw [if_pos c, decide_eq_true c, Bool.true_and]
  · rw [if_neg c, decide_eq_false c, Bool.false_and]
theorem spec_validShape_eq (w h p : Int) : spec_validShape.f w h p = some (shapeI w h p) := by
  unfold spec_validShape.f shapeI
  rw [spec_inRangeI_eq, spec_inRangeI_eq, spec_inRangeI_eq]
  simp only [Option.bind_some]
  by_cases c1 : 1 ≤ w ∧ w ≤ 16
  · rw [if_pos (by simpa using c1)]
    by_cases c2 : 1 ≤ h ∧ h ≤ 16
    · rw [if_pos (by simpa using c2)]; congr 1; rw [Bool.eq_iff_iff]; simp; omega
    · rw [if_neg (by simpa using c2), decide_eq_false (by omega)]
  · rw [if_neg (by simpa using c1), decide_eq_false (by omega)]
theorem spec_allInI_ev (l : List Int) (hl : l.length ≤ 1000000000000) : Ev (fun k => spec_allIn.f k l 0 255) (l.all byteI) := by
  have key := ev_up l.length (fun k i (_ : Unit) => spec_allIn.l0 k l 0 255 (i : Int)) (fun _ _ => True) (fun i _ => (l.drop i).all byteI)
    (by
      intro i s hi _
      have hd : (l.drop i).all byteI = (byteI l[i] && (l.drop (i + 1)).all byteI) := by rw [List.drop_eq_getElem_cons hi, List.all_cons]
      cases hb : byteI l[i] with
      | true =>
        right
        refine ⟨(), fun k => ?_, trivial, by rw [hd, hb, Bool.true_and]⟩
        simp only [spec_allIn.l0]
        rw [if_pos (by omega), if_pos (by omega), rd_nat l i hi, spec_inRangeI_eq]
        simp only [Option.bind_some]
        rw [if_pos (show (decide (0 ≤ l[i]) && decide (l[i] ≤ 255)) = true from hb), w64n i (by omega)]
      | false =>
        left
        rw [hd, hb, Bool.false_and]
        refine Ev.step (f := fun _ => some false) (fun k => ?_) (Ev.now false)
        simp only [spec_allIn.l0]
        rw [if_pos (by omega), if_pos (by omega), rd_nat l i hi, spec_inRangeI_eq]
        simp only [Option.bind_some]
        rw [if_neg (Bool.eq_false_iff.1 (show (decide (0 ≤ l[i]) && decide (l[i] ≤ 255)) = false from hb))])
    (by
      intro s _
      rw [List.drop_length]
      refine Ev.step (f := fun _ => some true) (fun k => ?_) (Ev.now true)
      simp only [spec_allIn.l0]
      rw [if_neg (by omega)])
    l.length 0 () (by omega) trivial
  unfold spec_allIn.f
  simpa using key
theorem spec_validImage_ev (w h p : Int) (d : List Int) (hl : d.length ≤ 1000000000000) : Ev (fun k => spec_validImage.f k w h p d) (validI w h p d) := by
  unfold spec_validImage.f validI
  refine ev_now (spec_validShape_eq w h p) ?_
  by_cases c : shapeI w h p = true
  · refine ev_pos c ?_
    rw [shape_wrap ((shapeI_iff w h p).1 c), c, Bool.true_and]
    by_cases e : (d.length : Int) = w * h * p
    · refine ev_pos e ?_
      rw [decide_eq_true e, Bool.true_and]
      exact ev_bind (spec_allInI_ev d hl) (Ev.now _)
    · refine ev_neg e ?_
      rw [decide_eq_false e]
      exact Ev.now _
  · refine ev_neg c ?_
    rw [Bool.eq_false_iff.2 c]
    exact Ev.now _
end Go.Proofs.Ytnofkbbcbpjhfaa.Pure

/- Two images of the same shape. -/
namespace Go.Proofs.Ytnofkbbcbpjhfaa.Pure
open Go.RowKit Go.Proofs.Ytnofkbbcbpjhfaa.Q Go.Proofs.YtnofkbbcbpjhfaaW.PrintWords Go.Proofs.YtnofkbbcbpjhfaaW.PrintLast Go.Proofs.YtnofkbbcbpjhfaaW.PrintMore
set_option linter.unusedVariables false
set_option linter.unusedSimpArgs false

def sameV (w h p : Int) (d : List Int) (w' h' p' : Int) (d' : List Int) : Bool := validI w h p d && (validI w' h' p' d' && decide (w = w' ∧ h = h' ∧ p = p'))
theorem sameV_iff (w h p : Int) (d : List Int) (w' h' p' : Int) (d' : List Int) : sameV w h p d w' h' p' d' = true ↔ validI w h p d = true ∧ validI w' h' p' d' = true ∧ w = w' ∧ h = h' ∧ p = p' := by
  simp [sameV]
theorem same_len {w h p : Int} {d : List Int} {w' h' p' : Int} {d' : List Int} (hs : sameV w h p d w' h' p' d' = true) : d.length = d'.length ∧ d.length ≤ 1024 := by
  obtain ⟨h1, h2, rfl, rfl, rfl⟩ := (sameV_iff _ _ _ _ _ _ _ _).1 hs
  have a := (validI_iff _ _ _ _).1 h1
  have b := (validI_iff _ _ _ _).1 h2
  have := shape_prod a.1
  omega
theorem alikeB (w h p w' h' p' : Int) : (if w = w' then (if h = h' then (some (p == p')) else (some false)) else (some false)) = some (decide (w = w' ∧ h = h' ∧ p = p')) := by
  by_cases c1 : w = w'
  · rw [if_pos c1]
    by_cases c2 : h = h'
    · rw [if_pos c2]
      by_cases c3 : p = p'
      · rw [decide_eq_true (show w = w' ∧ h = h' ∧ p = p' from ⟨c1, c2, c3⟩), beq_iff_eq.2 c3]
      · rw [decide_eq_false (by simp [c3]), beq_eq_false_iff_ne.2 c3]
    · rw [if_neg c2, decide_eq_false (by simp [c2])]
  · rw [if_neg c1, decide_eq_false (by simp [c1])]
theorem impl_alike_eq (w h p : Int) (d : List Int) (w' h' p' : Int) (d' : List Int) : impl_alikeImages.f w h p d w' h' p' d' = some (decide (w = w' ∧ h = h' ∧ p = p')) := by
  unfold impl_alikeImages.f
  exact alikeB w h p w' h' p'
theorem spec_sameShape_ev (w h p : Int) (d : List Int) (w' h' p' : Int) (d' : List Int) (hl : d.length ≤ 1000000000000) (hl' : d'.length ≤ 1000000000000) : Ev (fun k => spec_sameShape.f k w h p d w' h' p' d') (sameV w h p d w' h' p' d') := by
  unfold spec_sameShape.f sameV
  refine ev_bind (spec_validImage_ev w h p d hl) ?_
  by_cases c : validI w h p d = true
  · rw [c, Bool.true_and]
    refine ev_pos rfl (ev_bind (spec_validImage_ev w' h' p' d' hl') ?_)
    by_cases c' : validI w' h' p' d' = true
    · rw [c', Bool.true_and]
      exact ev_pos rfl (ev_const (alikeB w h p w' h' p'))
    · rw [Bool.eq_false_iff.2 c', Bool.false_and]
      exact ev_neg (by simp) (Ev.now _)
  · rw [Bool.eq_false_iff.2 c, Bool.false_and]
    exact ev_neg (by simp) (Ev.now _)
end Go.Proofs.Ytnofkbbcbpjhfaa.Pure

/- GapOf, as the program and the reference have it. -/
namespace Go.Proofs.Ytnofkbbcbpjhfaa.Pure
open Go.RowKit Go.Proofs.Ytnofkbbcbpjhfaa.Q Go.Proofs.YtnofkbbcbpjhfaaW.PrintWords Go.Proofs.YtnofkbbcbpjhfaaW.PrintLast Go.Proofs.YtnofkbbcbpjhfaaW.PrintMore
set_option linter.unusedVariables false
set_option linter.unusedSimpArgs false

def gapTo (a b : List Int) : Nat → Int
  | 0 => 0
  | i + 1 => wrap64 (gapTo a b i + wrap64 (wrap64 (rd a i - rd b i) * wrap64 (rd a i - rd b i)))
def gapV (w h p : Int) (d : List Int) (w' h' p' : Int) (d' : List Int) : Int := if sameV w h p d w' h' p' d' = true then gapTo d d' d.length else -1
theorem spec_GapOf_ev (w h p : Int) (d : List Int) (w' h' p' : Int) (d' : List Int) (hl : d.length ≤ 1000000000000) (hl' : d'.length ≤ 1000000000000) : Ev (fun k => spec_GapOf.f k w h p d w' h' p' d') (gapV w h p d w' h' p' d') := by
  unfold spec_GapOf.f gapV
  refine ev_bind (spec_sameShape_ev w h p d w' h' p' d' hl hl') ?_
  by_cases c : sameV w h p d w' h' p' d' = true
  · rw [if_pos c]
    refine ev_pos c (ev_bind ?_ (Ev.now _))
    have hn := same_len c
    have key := ev_up d.length (fun k i (s : Int) => spec_gap.l0 k d d' s (i : Int)) (fun i s => s = gapTo d d' i) (fun _ _ => gapTo d d' d.length)
      (by
        intro i s hi hs
        right
        refine ⟨gapTo d d' (i + 1), fun k => ?_, rfl, rfl⟩
        simp only [spec_gap.l0]
        rw [if_pos (by omega), if_pos (by omega), if_pos (by omega), w64n i (by omega), hs]
        rfl)
      (by
        intro s hs
        refine Ev.step (f := fun _ => some s) (fun k => ?_) (ev_const (by rw [hs]))
        simp only [spec_gap.l0]
        rw [if_neg (by omega)])
      d.length 0 0 (by omega) rfl
    unfold spec_gap.f
    exact key
  · rw [if_neg c]
    exact ev_neg c (Ev.now _)
theorem impl_GapOf_ev (w h p : Int) (d : List Int) (w' h' p' : Int) (d' : List Int) (hl : d.length ≤ 1000000000000) : Ev (fun k => impl_GapOf.f k w h p d w' h' p' d') (gapV w h p d w' h' p' d') := by
  have hj : Ev (fun k => impl_GapOf.j0 k (!(sameV w h p d w' h' p' d')) w h p d w' h' p' d') (gapV w h p d w' h' p' d') := by
    unfold gapV
    by_cases c : sameV w h p d w' h' p' d' = true
    · rw [if_pos c]
      have hn := same_len c
      have key := ev_up d.length (fun k i (s : Int) => impl_GapOf.l0 k s d (d.length : Int) (i : Int) w' h' p' d') (fun i s => s = gapTo d d' i) (fun _ _ => gapTo d d' d.length)
        (by
          intro i s hi hs
          right
          refine ⟨gapTo d d' (i + 1), fun k => ?_, rfl, rfl⟩
          simp only [impl_GapOf.l0]
          rw [if_pos (by omega), if_pos (by omega), if_pos (by omega), if_pos (by omega), w64n i (by omega), hs]
          rfl)
        (by
          intro s hs
          refine Ev.step (f := fun _ => some s) (fun k => ?_) (ev_const (by rw [hs]))
          simp only [impl_GapOf.l0]
          rw [if_neg (by omega)])
        d.length 0 0 (by omega) rfl
      refine Ev.step (fun k => ?_) key
      simp only [impl_GapOf.j0]
      rw [if_neg (by rw [c]; simp)]
      rfl
    · rw [if_neg c]
      refine Ev.step (f := fun _ => some (-1)) (fun k => ?_) (Ev.now _)
      simp only [impl_GapOf.j0]
      rw [if_pos (by rw [Bool.eq_false_iff.2 c]; rfl)]
  unfold impl_GapOf.f
  refine ev_now (impl_isImage_eq w h p d) ?_
  by_cases c : validI w h p d = true
  · refine ev_pos c (ev_now (impl_isImage_eq w' h' p' d') ?_)
    by_cases c' : validI w' h' p' d' = true
    · refine ev_pos c' (ev_now (impl_alike_eq w h p d w' h' p' d') ?_)
      have e : sameV w h p d w' h' p' d' = decide (w = w' ∧ h = h' ∧ p = p') := by unfold sameV; rw [c, c', Bool.true_and, Bool.true_and]
      rw [e] at hj
      exact hj
    · refine ev_neg c' ?_
      have e : sameV w h p d w' h' p' d' = false := by unfold sameV; rw [Bool.eq_false_iff.2 c', Bool.false_and, Bool.and_false]
      rw [e] at hj
      exact hj
  · refine ev_neg c ?_
    have e : sameV w h p d w' h' p' d' = false := by unfold sameV; rw [Bool.eq_false_iff.2 c, Bool.false_and]
    rw [e] at hj
    exact hj
end Go.Proofs.Ytnofkbbcbpjhfaa.Pure

/- Copies of an image: they are the image; marks on an image. -/
namespace Go.Proofs.Ytnofkbbcbpjhfaa.Pure
open Go.RowKit Go.Proofs.Ytnofkbbcbpjhfaa.Q Go.Proofs.YtnofkbbcbpjhfaaW.PrintWords Go.Proofs.YtnofkbbcbpjhfaaW.PrintLast Go.Proofs.YtnofkbbcbpjhfaaW.PrintMore
set_option linter.unusedVariables false
set_option linter.unusedSimpArgs false

theorem toIntS_ev (l : List Int) (hl : l.length ≤ 2000000) : Ev (fun k => laws_toIntS.f k l) l := by
  have key := ev_up l.length (fun k i s => laws_toIntS.l0 k l s (i : Int)) (fun i s => s.length = l.length ∧ s.take i = l.take i) (fun i s => l)
    (by
      intro i s hi hs
      refine .inr ⟨s.set i l[i], fun k => ?_, ⟨by simpa using hs.1, ?_⟩, rfl⟩
      · simp only [laws_toIntS.l0]
        rw [if_pos (by omega), if_pos (by omega), rd_nat l i hi, if_pos (by omega), w64n i (by omega), Int.toNat_natCast]
      · rw [take_set s i _ (by omega), hs.2, List.take_succ_eq_append_getElem hi])
    (by
      intro s hs
      refine Ev.step (f := fun _ => some s) (fun k => ?_) (ev_const ?_)
      · simp only [laws_toIntS.l0]
        rw [if_neg (by omega)]
      · rw [← List.take_length (l := s), hs.1, hs.2, List.take_length])
    l.length 0 (List.replicate l.length 0) (by omega) ⟨by simp, by simp⟩
  unfold laws_toIntS.f
  refine Ev.congr (fun k => ?_) key
  rw [if_pos (by omega), if_pos (by omega)]
  simp
theorem eqIntS_ev (l : List Int) (hl : l.length ≤ 1000000000000) : Ev (fun k => laws_eqIntS.f k l l) true := by
  have key := ev_up l.length (fun k i (_ : Unit) => laws_eqIntS.l0 k l l (i : Int)) (fun _ _ => True) (fun _ _ => true)
    (by
      intro i s hi _
      refine .inr ⟨(), fun k => ?_, trivial, rfl⟩
      simp only [laws_eqIntS.l0]
      rw [if_pos (by omega), if_pos (by omega), if_pos (by omega), if_pos trivial, w64n i (by omega)])
    (by
      intro s _
      refine Ev.step (f := fun _ => some true) (fun k => ?_) (Ev.now true)
      simp only [laws_eqIntS.l0]
      rw [if_neg (by omega)])
    l.length 0 () (by omega) trivial
  unfold laws_eqIntS.f
  exact ev_pos rfl (by simpa using key)
theorem szIntS_eq (l : List Int) (n : Int) (h0 : 0 ≤ n) (h1 : n ≤ 1048576) (hl : l.length ≤ 9223372036854775807) :
    (l.length ≤ 1048576 ∧ n - (l.length : Int) ≥ 0 ∧ laws_szIntS.f l n = some (n - (l.length : Int))) ∨ laws_szIntS.f l n = some (-1) := by
  unfold laws_szIntS.f
  by_cases c : (l.length : Int) ≤ n
  · left
    rw [w64 (by omega) (by omega), if_neg (by omega)]
    exact ⟨by omega, by omega, rfl⟩
  · right
    rw [w64 (by omega) (by omega), if_pos (by omega)]
theorem szImage_eq (w h p : Int) (d : List Int) (n : Int) (h0 : 0 ≤ n) (h1 : n ≤ 1048576) (hl : d.length ≤ 9223372036854775807) :
    (d.length ≤ 1048576 ∧ n - (d.length : Int) ≥ 0 ∧ laws_szImage.f w h p d n = some (n - (d.length : Int))) ∨ laws_szImage.f w h p d n = some (-1) := by
  unfold laws_szImage.f
  rcases szIntS_eq d n h0 h1 hl with ⟨a, b, c⟩ | c
  · left
    rw [c]
    simp only [Option.bind_some]
    rw [if_neg (by omega)]
    exact ⟨a, b, rfl⟩
  · right
    rw [c]
    simp only [Option.bind_some]
    rw [if_pos (by omega)]
theorem toImage_ev (w h p : Int) (d : List Int) (hl : d.length ≤ 2000000) : Ev (fun k => laws_toImage.f k w h p d) (w, h, p, d) := by
  unfold laws_toImage.f
  exact ev_bind (toIntS_ev d hl) (Ev.now _)
theorem eqImage_ev (w h p : Int) (d : List Int) (hl : d.length ≤ 1000000000000) : Ev (fun k => laws_eqImage.f k w h p d w h p d) true := by
  unfold laws_eqImage.f
  exact ev_pos rfl (ev_pos rfl (ev_pos rfl (ev_bind (eqIntS_ev d hl) (ev_pos rfl (Ev.now _)))))
end Go.Proofs.Ytnofkbbcbpjhfaa.Pure

/- The program's GapOf and the reference's return the same number, and leave their images alone: over lists of numbers alone. -/
namespace Go.Proofs.Ytnofkbbcbpjhfaa.Pure
open Go.RowKit Go.Proofs.Ytnofkbbcbpjhfaa.Q Go.Proofs.YtnofkbbcbpjhfaaW.PrintWords Go.Proofs.YtnofkbbcbpjhfaaW.PrintLast Go.Proofs.YtnofkbbcbpjhfaaW.PrintMore
set_option linter.unusedVariables false
set_option linter.unusedSimpArgs false

theorem FnExactGapOf : laws_FnExactGapOf.Pure := by
  intro w h p d w' h' p' d' _ _ _ _ hl _ _ _ _ hl'
  apply Ev.rounds
  unfold laws_FnExactGapOf.f
  rcases szImage_eq w h p d 1048576 (by omega) (by omega) (by first | exact hl | omega) with ⟨hn, h0, hs⟩ | hs
  · rcases szImage_eq w' h' p' d' (1048576 - (d.length : Int)) (by omega) (by omega) (by first | exact hl' | omega) with ⟨hn', h0', hs'⟩ | hs'
    · have hc := toImage_ev w h p d (by omega)
      have hc' := toImage_ev w' h' p' d' (by omega)
      have hS := spec_GapOf_ev w h p d w' h' p' d' (by omega) (by omega)
      have hI := impl_GapOf_ev w h p d w' h' p' d' (by omega)
      have he := eqImage_ev w h p d (by omega)
      have he' := eqImage_ev w' h' p' d' (by omega)
      exact ev_now hs (ev_neg (by omega) (ev_now hs' (ev_neg (by omega) (ev_bind hc (ev_bind hc' (ev_bind hS (ev_bind hc (ev_bind hc' (ev_bind hI (ev_pos rfl (ev_bind hc (ev_bind he (ev_pos rfl (ev_bind hc' (ev_bind he' (ev_pos rfl (Ev.now true)))))))))))))))))
    · exact ev_now hs (ev_neg (by omega) (ev_now hs' (ev_pos (by omega) (Ev.now true))))
  · exact ev_now hs (ev_pos (by omega) (Ev.now true))
end Go.Proofs.Ytnofkbbcbpjhfaa.Pure

/- The head of the translation reads as a plain cut. -/
namespace Go.Proofs.Ytnofkbbcbpjhfaa.Head
set_option maxRecDepth 100000
theorem wordsSigns_word (w r : List Char) (h : w.all (fun c => !(c == Char.ofNat 32)) = true) : wordsSigns (w ++ Char.ofNat 32 :: r) = w :: wordsSigns r := by
  induction w with
  | nil => rfl
  | cons c w ih =>
    simp only [List.all_cons, Bool.and_eq_true, Bool.not_eq_true', beq_eq_false_iff_ne, ne_eq] at h
    have h1 := ih (by simpa using h.2)
    rw [List.cons_append, wordsSigns.eq_3 c _ h.1, h1]
def w1 : List Char := [104, 97, 114, 110, 101, 115, 115].map Char.ofNat
def w2 : List Char := [98, 98, 56, 56, 48, 50, 51, 48, 99, 56, 98, 97, 54, 51, 51, 51, 48, 101, 54, 53, 56, 97, 98, 51, 97, 51, 99, 100, 54, 102, 98, 98, 55, 101, 51, 50, 99, 48, 56, 52, 55, 54, 49, 49, 100, 50, 51, 56, 55, 100, 54, 48, 49, 99, 100, 97, 51, 102, 50, 98, 48, 57, 53, 101].map Char.ofNat
def w3 : List Char := [99, 117, 116].map Char.ofNat
def w4 : List Char := [97, 116, 32, 108, 111, 111, 112, 46, 101, 120, 97, 109, 112, 108, 101, 47, 112, 105, 120, 101, 108, 119, 111, 114, 107, 115, 47, 108, 97, 119, 115, 46, 70, 110, 69, 120, 97, 99, 116, 71, 97, 112, 79, 102, 32, 108, 111, 111, 112, 46, 101, 120, 97, 109, 112, 108, 101, 47, 112, 105, 120, 101, 108, 119, 111, 114, 107, 115, 47, 108, 97, 119, 115, 46, 70, 110, 71, 97, 112, 79, 102, 32, 108, 111, 111, 112, 46, 101, 120, 97, 109, 112, 108, 101, 47, 112, 105, 120, 101, 108, 119, 111, 114, 107, 115, 47, 108, 97, 119, 115, 46, 70, 110, 69, 120, 97, 99, 116, 84, 105, 108, 101, 66, 111, 120, 101, 115, 32, 108, 111, 111, 112, 46, 101, 120, 97, 109, 112, 108, 101, 47, 112, 105, 120, 101, 108, 119, 111, 114, 107, 115, 47, 108, 97, 119, 115, 46, 70, 110, 84, 105, 108, 101, 66, 111, 120, 101, 115, 32, 108, 111, 111, 112, 46, 101, 120, 97, 109, 112, 108, 101, 47, 112, 105, 120, 101, 108, 119, 111, 114, 107, 115, 47, 108, 97, 119, 115, 46, 70, 110, 69, 120, 97, 99, 116, 68, 105, 114, 116, 121, 84, 105, 108, 101, 115, 32, 108, 111, 111, 112, 46, 101, 120, 97, 109, 112, 108, 101, 47, 112, 105, 120, 101, 108, 119, 111, 114, 107, 115, 47, 108, 97, 119, 115, 46, 70, 110, 68, 105, 114, 116, 121, 84, 105, 108, 101, 115, 32, 108, 111, 111, 112, 46, 101, 120, 97, 109, 112, 108, 101, 47, 112, 105, 120, 101, 108, 119, 111, 114, 107, 115, 47, 108, 97, 119, 115, 46, 70, 110, 69, 120, 97, 99, 116, 77, 101, 114, 103, 101, 80, 108, 97, 110, 101, 115, 32, 108, 111, 111, 112, 46, 101, 120, 97, 109, 112, 108, 101, 47, 112, 105, 120, 101, 108, 119, 111, 114, 107, 115, 47, 108, 97, 119, 115, 46, 70, 110, 69, 120, 97, 99, 116, 67, 111, 118, 101, 114, 73, 109, 97, 103, 101, 32, 108, 111, 111, 112, 46, 101, 120, 97, 109, 112, 108, 101, 47, 112, 105, 120, 101, 108, 119, 111, 114, 107, 115, 47, 108, 97, 119, 115, 46, 70, 110, 67, 111, 118, 101, 114, 73, 109, 97, 103, 101, 32, 108, 111, 111, 112, 46, 101, 120, 97, 109, 112, 108, 101, 47, 112, 105, 120, 101, 108, 119, 111, 114, 107, 115, 47, 108, 97, 119, 115, 46, 70, 110, 69, 120, 97, 99, 116, 70, 108, 97, 116, 116, 101, 110, 76, 97, 121, 101, 114, 115, 32, 108, 111, 111, 112, 46, 101, 120, 97, 109, 112, 108, 101, 47, 112, 105, 120, 101, 108, 119, 111, 114, 107, 115, 47, 108, 97, 119, 115, 46, 70, 110, 70, 108, 97, 116, 116, 101, 110, 76, 97, 121, 101, 114, 115, 32, 108, 111, 111, 112, 46, 101, 120, 97, 109, 112, 108, 101, 47, 112, 105, 120, 101, 108, 119, 111, 114, 107, 115, 47, 108, 97, 119, 115, 46, 70, 110, 70, 108, 97, 116, 116, 101, 110, 76, 97, 121, 101, 114, 115, 72, 105, 100, 100, 101, 110, 32, 108, 111, 111, 112, 46, 101, 120, 97, 109, 112, 108, 101, 47, 112, 105, 120, 101, 108, 119, 111, 114, 107, 115, 47, 108, 97, 119, 115, 46, 70, 110, 69, 120, 97, 99, 116, 80, 97, 116, 99, 104, 73, 109, 97, 103, 101, 32, 108, 111, 111, 112, 46, 101, 120, 97, 109, 112, 108, 101, 47, 112, 105, 120, 101, 108, 119, 111, 114, 107, 115, 47, 108, 97, 119, 115, 46, 70, 110, 80, 97, 116, 99, 104, 73, 109, 97, 103, 101, 84, 119, 105, 99, 101, 32, 108, 111, 111, 112, 46, 101, 120, 97, 109, 112, 108, 101, 47, 112, 105, 120, 101, 108, 119, 111, 114, 107, 115, 47, 108, 97, 119, 115, 46, 70, 110, 69, 120, 97, 99, 116, 82, 101, 100, 114, 97, 119, 84, 105, 108, 101, 115, 32, 108, 111, 111, 112, 46, 101, 120, 97, 109, 112, 108, 101, 47, 112, 105, 120, 101, 108, 119, 111, 114, 107, 115, 47, 108, 97, 119, 115, 46, 70, 110, 82, 101, 100, 114, 97, 119, 68, 105, 114, 116, 121, 32, 108, 111, 111, 112, 46, 101, 120, 97, 109, 112, 108, 101, 47, 112, 105, 120, 101, 108, 119, 111, 114, 107, 115, 47, 108, 97, 119, 115, 46, 70, 110, 82, 101, 100, 114, 97, 119, 84, 105, 108, 101, 115].map Char.ofNat
theorem signs0 : Try.prog.initOrder = String.ofList (w1 ++ Char.ofNat 32 :: (w2 ++ Char.ofNat 32 :: (w3 ++ Char.ofNat 32 :: w4))) := by kernel_rfl
theorem behind : behindMainWord (wordsSigns Try.prog.initOrder.toList) = w3 :: wordsSigns w4 := by
  rw [signs0, String.toList_ofList, wordsSigns_word w1 _ (by kernel_rfl), wordsSigns_word w2 _ (by kernel_rfl), wordsSigns_word w3 _ (by kernel_rfl)]
  unfold behindMainWord
  dsimp only
  rw [if_pos (by kernel_rfl)]
theorem strip_cut (R : List (List Char)) : stripLifts liftWords (w3 :: R) = ([], w3 :: R) := by kernel_rfl
theorem mayEnter_of (P : Program) (R : List (List Char)) (h : behindMainWord (wordsSigns P.initOrder.toList) = w3 :: R) (h1 : P.laysLater = false) (h2 : P.bearsReflect = false) (h3 : P.doorFits [] = true) : P.mayEnter = true := by
  unfold Program.mayEnter
  rw [h]
  dsimp only
  rw [strip_cut, h1, h2, h3]
  kernel_rfl
theorem liftsFinal_of (P : Program) (R : List (List Char)) (h : behindMainWord (wordsSigns P.initOrder.toList) = w3 :: R) : P.liftsFinal = false := by
  unfold Program.liftsFinal Program.headLifts
  rw [h]
  dsimp only
  rw [strip_cut]
  kernel_rfl
theorem make_of (P : Program) (R : List (List Char)) (h : behindMainWord (wordsSigns P.initOrder.toList) = w3 :: R) : P.make = some .cut := by
  unfold Program.make
  rw [h]
  kernel_rfl
theorem mayEnter : Try.prog.mayEnter = true := mayEnter_of _ _ behind (by kernel_rfl) (by kernel_rfl) (by kernel_rfl)
theorem liftsFinal : Try.prog.liftsFinal = false := liftsFinal_of _ _ behind
theorem make : Try.prog.make = some .cut := make_of _ _ behind
end Go.Proofs.Ytnofkbbcbpjhfaa.Head

-- the row of the law FnExactGapOf
namespace Go.Proofs.Ytnofkbbcbpjhfaa.fnExactGapOf
open Go.ChangeShapes Go.WideShapes Go.ChangeAt Go.RowKit Go.Proofs.Ytnofkbbcbpjhfaa.Q Go.Proofs.YtnofkbbcbpjhfaaW.PrintWords
open Go.ChangeMaps (open_string shut_string)
set_option linter.unusedVariables false
theorem own : ownKnob Try.prog.godebug = none := by kernel_rfl
theorem laidOut : laidOutB Try.prog = true := by kernel_rfl
set_option maxRecDepth 100000 in
theorem lifted (os : Os) (started : os.Started) (H : Type) (enc : TypeId × Value → H) :
    ReturnsInHanded {} Try.checked os 3 .any (Rows.fnExactGapOfSpec.pre6 enc Try.prog Try.f3 Rows.fnExactGapOfRow.domain false) (Rows.fnExactGapOfSpec.post enc Try.prog Try.f3 false true false false) := by
  refine returnsInHanded_of_change_sized (C := Try.checked) own started (by kernel_rfl) Try.func3
    (ChangeSpec.witness6 (enc := enc) (C := Try.checked) false ⟨#[], #[.agg #[.int .i64 0, .int .i64 0, .int .i64 0, .slice none 0 0], .agg #[.int .i64 0, .int .i64 0, .int .i64 0, .slice none 0 0]], []⟩ 8 (by kernel_rfl) (by kernel_rfl) (by kernel_rfl) (by kernel_rfl)) ?_
  intro W base args ds gs before hval0 hW hcnd hsz0 _
  have hval : ∀ (j : Nat) t v, Try.f3.params[j]? = some t → args[j]? = some v → Value.okWide Try.prog W .any base t v := hval0
  have hW' := hW
  obtain ⟨p, q, hA0, hV, rfl, hfz, hnd⟩ := hW
  have hA : DataW.TrodAll enc Try.prog W 0 (fun _ => true) true Try.f3.params.toList args.toList ds p := hA0
  rw [Try.params3] at hA hval
  obtain ⟨v0, vs0, d0, ds0, p0, q0, hargs, rfl, rfl, h0, r0⟩ := trodAll_cons hA
  obtain ⟨v1, vs1, d1, ds1, p1, q1, rfl, rfl, rfl, h1, r1⟩ := trodAll_cons r0
  obtain ⟨rfl, rfl, rfl⟩ := trodAll_nil r1
  obtain rfl : args = #[v0, v1] := by cases args; simp_all
  obtain ⟨rfl, rfl⟩ := trodVars_none hV
  have k0 := h0
  have lt0 : ∀ x ∈ p0, x.block < W.heap.size := by obtain ⟨m, hm⟩ := k0; exact DataW.trod_lt m _ _ _ hm
  obtain ⟨fuel0, hf0⟩ := h0
  obtain ⟨cs0, rfl, hsz0⟩ := okWide_struct Try.underlying24 (hval 0 24 v0 rfl rfl)
  obtain ⟨y0, hK0, hq0⟩ := o24 _ _ _ _ _ _ hf0
  obtain ⟨A0_3, c0_3, hcs0, hc0_3, hr0_3⟩ := k24_open hK0
  obtain rfl : cs0 = #[.int .i64 y0.f0, .int .i64 y0.f1, .int .i64 y0.f2, .slice A0_3 y0.f3.length c0_3] := by cases cs0; simpa [Value.cells] using hcs0
  have k1 := h1
  have lt1 : ∀ x ∈ p1, x.block < W.heap.size := by obtain ⟨m, hm⟩ := k1; exact DataW.trod_lt m _ _ _ hm
  obtain ⟨fuel1, hf1⟩ := h1
  obtain ⟨cs1, rfl, hsz1⟩ := okWide_struct Try.underlying24 (hval 1 24 v1 rfl rfl)
  obtain ⟨y1, hK1, hq1⟩ := o24 _ _ _ _ _ _ hf1
  obtain ⟨A1_3, c1_3, hcs1, hc1_3, hr1_3⟩ := k24_open hK1
  obtain rfl : cs1 = #[.int .i64 y1.f0, .int .i64 y1.f1, .int .i64 y1.f2, .slice A1_3 y1.f3.length c1_3] := by cases cs1; simpa [Value.cells] using hcs1
  clear hA0 hval0 hsz0
  obtain ⟨k, hh⟩ := Pure.FnExactGapOf y0.f0 y0.f1 y0.f2 y0.f3 y1.f0 y1.f1 y1.f2 y1.f3 hq0.1 hq0.2.1 hq0.2.2.1 hq0.2.2.2 hr0_3.2.1 hq1.1 hq1.2.1 hq1.2.2.1 hq1.2.2.2 hr1_3.2.1
  refine (Q.laws_FnExactGapOf.calls k y0.f0 y0.f1 y0.f2 _ _ y0.f3 y1.f0 y1.f1 y1.f2 _ _ y1.f3 true W hr0_3 hc0_3 hr1_3 hc1_3 hh rfl).mono fun e W' hpost => ?_
  obtain ⟨he, bel0⟩ := hpost
  have bel : Below W.heap.size W W' := bel0
  subst he
  exact ⟨_, rfl, _, _, _, [], _, [], hW', trodAll_mk1 (shut_bool Try.underlying4 _), (trodAll_cons_mk (Below.trod laidOut (by kernel_rfl) (of_decide_eq_true (by kernel_rfl)) k0 bel lt0) (trodAll_cons_mk (Below.trod laidOut (by kernel_rfl) (of_decide_eq_true (by kernel_rfl)) k1 bel lt1) trodAll_mk0)), rfl, bel.frame _, fun h => by cases h⟩
theorem closed : joinedFacts Try.prog 3 Try.f3 Rows.fnExactGapOfSpec Rows.fnExactGapOfRow = true := by
  unfold joinedFacts
  rw [Head.mayEnter, Head.liftsFinal, Head.make]
  simp only [Bool.and_eq_true]
  repeat' apply And.intro
  all_goals first | exact True.intro | (as_aux_lemma => kernel_rfl)
theorem over : Rows.fnExactGapOfRow.holds Try.pinned (OpenSpec.ofChange Rows.fnExactGapOfSpec) :=
  OpenClaim.holds_of_wide 3 Try.f3 rfl rfl rfl rfl rfl rfl rfl ⟨rfl, rfl, rfl, rfl, rfl⟩ rfl rfl rfl rfl rfl (by kernel_rfl) Try.func3 closed
    (of_decide_eq_true (by kernel_rfl)) (by unfold Func.isWrapper; first | (rw [if_pos (by decide +kernel)]; kernel_rfl) | (rw [if_neg (by decide +kernel)]; exact ⟨rfl, rfl⟩))
    (fun os started H enc _ => lifted os started H enc)
theorem proved : Rows.FnExactGapOfSaid := over
#print axioms proved
end Go.Proofs.Ytnofkbbcbpjhfaa.fnExactGapOf
namespace Go.Proofs.Ytnofkbbcbpjhfaa
/-- The row, under a short name, for the claim. -/
theorem fnExactGapOf_holds : Rows.FnExactGapOfSaid := fnExactGapOf.proved
end Go.Proofs.Ytnofkbbcbpjhfaa
