/- A part of the proof that the statement FnExactChangedBoxesSaid holds, under no condition of its own: The program's ChangedBoxes and the reference's return the same, and what is returned is held by nobody else: over lists of numbers alone. -/
import Derived.Test.YtbgohbinonkhfaaCFnExactChangedBoxes1
import Derived.Test.YtbgohbinonkhfaaCFnExactChangedBoxes3
import Derived.Test.YtbgohbinonkhfaaCFnExactChangedBoxes2
namespace Go.Proofs.Ytbgohbinonkhfaa.Q
open Go.RowKit Go.Proofs.YtbgohbinonkhfaaW.PrintWords Go.Proofs.YtbgohbinonkhfaaW.PrintLast Go.Proofs.YtbgohbinonkhfaaW.PrintMore
attribute [local go_sem] max2_int min2_int max_two min_two max_three min_three max_four min_four
set_option linter.unusedVariables false
set_option linter.unusedSimpArgs false
/-! ### impl_bounds: function 78 -/
def impl_bounds.l0 : Nat → List (S47) → Int → Int → List (S47) → Int → Int → Option (Int × Int × Int × Int)
  | 0, _, _, _, _, _, _ => none
  | k + 1, x0, x3, x4, x9, x10, x11 => if x11 < x10 then (if 0 ≤ x11 then (if x11 < (x9.length : Int) then (impl_bounds.l0 k x0 (mn x3 ((rd_T47 x9 x11).f1)) (mx x4 ((rd_T47 x9 x11).f2)) x9 x10 (wrap64 (x11 + 1))) else (none)) else (none)) else (if 0 < (x0.length : Int) then (if 0 ≤ (wrap64 ((x0.length : Int) - 1)) then (if (wrap64 ((x0.length : Int) - 1)) < (x0.length : Int) then (some (x3, (rd_T47 x0 0).f0, wrap64 (x4 - x3), wrap64 ((wrap64 (((rd_T47 x0 (wrap64 ((x0.length : Int) - 1))).f0) - ((rd_T47 x0 0).f0))) + 1))) else (none)) else (none)) else (none))
def impl_bounds.f (k : Nat) (l0 : List (S47)) : Option (Int × Int × Int × Int) := impl_bounds.l0 k l0 16 0 l0 (l0.length : Int) 0
theorem impl_bounds.mono_l : ∀ k, (∀ y0 y1 y2 y3 y4 y5, LeO (impl_bounds.l0 k y0 y1 y2 y3 y4 y5) (impl_bounds.l0 (k + 1) y0 y1 y2 y3 y4 y5))
  | 0 => fun _ _ _ _ _ _ r h => by simp [impl_bounds.l0] at h
  | k + 1 => by
    have ih0 := impl_bounds.mono_l k
    · intro y0 y1 y2 y3 y4 y5
      unfold impl_bounds.l0
      repeat' first
      | (with_reducible exact ih0 _ _ _ _ _ _)
      | (with_reducible exact LeO.refl _)
      | (with_reducible exact LeO.none _)
      | (with_reducible refine LeO.ite ?_ ?_)
      | (with_reducible refine LeO.bind ?_ (fun _ => ?_))
      | exact ih0 _ _ _ _ _ _
      | exact LeO.none _
      | refine LeO.ite ?_ ?_
      | refine LeO.bind ?_ (fun _ => ?_)
theorem impl_bounds.mono : ∀ a0 k, LeO (impl_bounds.f k a0) (impl_bounds.f (k + 1) a0) := by
  intro a0 k
  have ih0 := impl_bounds.mono_l k
  unfold impl_bounds.f
  repeat' first
      | (with_reducible exact ih0 _ _ _ _ _ _)
      | (with_reducible exact LeO.refl _)
      | (with_reducible exact LeO.none _)
      | (with_reducible refine LeO.ite ?_ ?_)
      | (with_reducible refine LeO.bind ?_ (fun _ => ?_))
      | exact ih0 _ _ _ _ _ _
      | exact LeO.none _
      | refine LeO.ite ?_ ?_
      | refine LeO.bind ?_ (fun _ => ?_)
set_option maxHeartbeats 8000000 in
set_option maxRecDepth 100000 in
theorem impl_bounds.calls (k : Nat) (A0 : Option Addr) (c0 : Nat) (l0 : List (S47)) (r1 : Int) (r2 : Int) (r3 : Int) (r4 : Int) (w : World) (hr0 : Kd.C k47 w A0 l0.length l0) (hc0 : l0.length ≤ c0) (h : impl_bounds.f k l0 = some (r1, r2, r3, r4)) :
    Calls Try.prog 78 #[.slice A0 l0.length c0] w fun e w' => e = .returned (.agg #[.int .i64 r1, .int .i64 r2, .int .i64 r3, .int .i64 r4]) ∧ Below w.heap.size w w' := by
  have hu60 := Try.underlying60
  have hu47 := Try.underlying47
  have HR0 := Aside0.mk hr0
  have HC0 := Aside0.mk hc0
  clear hr0 hc0
  have HB := Aside0.mk (Below.refl w.heap.size w)
  have H : (impl_bounds.l0 k l0 16 0 l0 (l0.length : Int) 0) = some (r1, r2, r3, r4) := h
  clear h
  have H' := Aside0.mk H
  clear H
  go_enter Try.func78, Try.ntmps78
  go_wp2_with (first | ((with_reducible refine gate_dst (N := 2) rfl ?_); refine box_event ?hg (N := 2) ?hd (cs := #[.int .i64 0, .int .i64 0, .int .i64 0, .int .i64 0]) (t := 60) ?hr ?_; (case hd => rfl); (case hg => rfl); (case hr => first | (go_simp; done) | (go_simp; rfl)); intro gb79001 hg w2 hbox hb; have n0_ := Aside0.mk (below_step (by repeat (first | (with_reducible first | exact HB.out | apply below_alloc | apply pw_below_drewN | apply below_drew1) | exact HB.out)) hb); have n1_ := Aside0.mk (hbox); have n2_ := Aside0.mk ((by rw [hg]; exact (below_size (by repeat (first | (with_reducible first | exact HB.out | apply below_alloc | apply pw_below_drewN | apply below_drew1) | exact HB.out))) : w.heap.size ≤ gb79001)); have n3_ := Aside0.mk ((by rw [hg]; exact (below_size (by repeat (first | (with_reducible first | exact HB.out | apply below_alloc | apply pw_below_drewN | apply below_drew1) | exact HB.out))) : w.heap.size ≤ gb79001)); clear HB; have HB := n0_; have BK79001 := n1_; have GW79001 := n2_; have GE79001 := n3_; clear n0_ n1_ n2_ n3_; clear hb hbox hg))
  repeat (go_quiet (first | ((with_reducible refine gate_dst (N := 2) rfl ?_); refine box_event ?hg (N := 2) ?hd (cs := #[.int .i64 0, .int .i64 0, .int .i64 0, .int .i64 0]) (t := 60) ?hr ?_; (case hd => rfl); (case hg => rfl); (case hr => first | (go_simp; done) | (go_simp; rfl)); intro gb79001 hg w2 hbox hb; have n0_ := Aside0.mk (below_step (by repeat (first | (with_reducible first | exact HB.out | apply below_alloc | apply pw_below_drewN | apply below_drew1) | exact HB.out)) hb); have n1_ := Aside0.mk (hbox); have n2_ := Aside0.mk ((by rw [hg]; exact (below_size (by repeat (first | (with_reducible first | exact HB.out | apply below_alloc | apply pw_below_drewN | apply below_drew1) | exact HB.out))) : w.heap.size ≤ gb79001)); have n3_ := Aside0.mk ((by rw [hg]; exact (below_size (by repeat (first | (with_reducible first | exact HB.out | apply below_alloc | apply pw_below_drewN | apply below_drew1) | exact HB.out))) : w.heap.size ≤ gb79001)); clear HB; have HB := n0_; have BK79001 := n1_; have GW79001 := n2_; have GE79001 := n3_; clear n0_ n1_ n2_ n3_; clear hb hbox hg)); try go_wp2_with (first | ((with_reducible refine gate_dst (N := 2) rfl ?_); refine box_event ?hg (N := 2) ?hd (cs := #[.int .i64 0, .int .i64 0, .int .i64 0, .int .i64 0]) (t := 60) ?hr ?_; (case hd => rfl); (case hg => rfl); (case hr => first | (go_simp; done) | (go_simp; rfl)); intro gb79001 hg w2 hbox hb; have n0_ := Aside0.mk (below_step (by repeat (first | (with_reducible first | exact HB.out | apply below_alloc | apply pw_below_drewN | apply below_drew1) | exact HB.out)) hb); have n1_ := Aside0.mk (hbox); have n2_ := Aside0.mk ((by rw [hg]; exact (below_size (by repeat (first | (with_reducible first | exact HB.out | apply below_alloc | apply pw_below_drewN | apply below_drew1) | exact HB.out))) : w.heap.size ≤ gb79001)); have n3_ := Aside0.mk ((by rw [hg]; exact (below_size (by repeat (first | (with_reducible first | exact HB.out | apply below_alloc | apply pw_below_drewN | apply below_drew1) | exact HB.out))) : w.heap.size ≤ gb79001)); clear HB; have HB := n0_; have BK79001 := n1_; have GW79001 := n2_; have GE79001 := n3_; clear n0_ n1_ n2_ n3_; clear hb hbox hg)))
  go_loopg [3, 4, 11] k (fun kq v3 v4 v11 w' => ∃ (x3_1 : Int) (x4_1 : Int) (x11_1 : Int), v3 = .int .i64 x3_1 ∧ v4 = .int .i64 x4_1 ∧ v11 = .int .i64 x11_1 ∧ Aside0 (impl_bounds.l0 kq l0 x3_1 x4_1 l0 (l0.length : Int) x11_1 = some (r1, r2, r3, r4)) ∧ Aside0 (kq ≤ k) ∧ Aside0 (w'.heap[gb79001]? = some (.cells #[.int .i64 0, .int .i64 0, .int .i64 0, .int .i64 0] 60 (0, 0))) ∧ Aside0 (Below w.heap.size w w'))
  case atStart => exact ⟨(16), (0), (0), (by first | rfl | (simp; done) | (simp [*]; done)), (by first | rfl | (simp; done) | (simp [*]; done)), (by first | rfl | (simp; done) | (simp [*]; done)), H', ⟨Nat.le_refl _⟩, ⟨by (with_reducible repeat (first | refine blk_drewN ?_ _ | refine blk_drew ?_ | refine blk_alloc ?_ _)); exact BK79001.out⟩, ⟨by repeat (first | (with_reducible first | exact HB.out | apply below_alloc | apply pw_below_drewN | apply below_drew1 | refine below_set ?_ GE79001.out) | exact HB.out)⟩⟩
  case round =>
    clear H'
    try clear p2
    obtain ⟨x3_1, x4_1, x11_1, rfl, rfl, rfl, HA, HK1, BK79001, HB⟩ := hrel
    cases gk with
    | zero => exact absurd HA.out (by simp [impl_bounds.l0])
    | succ k1 =>
      have H := HA.out
      clear HA
      simp only [impl_bounds.l0] at H
      by_cases c3 : x11_1 < (l0.length : Int)
      · rw [if_pos c3] at H
        have c3b0 : decide (x11_1 < (l0.length : Int)) = true := decide_eq_true c3
        clear c3
        by_cases c4 : 0 ≤ x11_1
        · rw [if_pos c4] at H
          have c4b0 : decide (0 ≤ x11_1) = true := decide_eq_true c4
          clear c4
          by_cases c5 : x11_1 < (l0.length : Int)
          · rw [if_pos c5] at H
            have c5b0 : decide (x11_1 < (l0.length : Int)) = true := decide_eq_true c5
            clear c5
            obtain ⟨ji6, hji6⟩ : ∃ j_ : Int, (mn x3_1 ((rd_T47 l0 x11_1).f1)) = j_ := ⟨_, rfl⟩
            replace H : (impl_bounds.l0 k1 l0 ji6 (mx x4_1 ((rd_T47 l0 x11_1).f2)) l0 (l0.length : Int) (wrap64 (x11_1 + 1))) = some (r1, r2, r3, r4) := by first | (rw [hji6] at H; exact H) | (simp only [hji6] at H ⊢; exact H)
            have hji6_ : (if ((rd_T47 l0 x11_1).f1) < x3_1 then ((rd_T47 l0 x11_1).f1) else x3_1) = ji6 := hji6
            obtain ⟨ji7, hji7⟩ : ∃ j_ : Int, (mx x4_1 ((rd_T47 l0 x11_1).f2)) = j_ := ⟨_, rfl⟩
            replace H : (impl_bounds.l0 k1 l0 ji6 ji7 l0 (l0.length : Int) (wrap64 (x11_1 + 1))) = some (r1, r2, r3, r4) := by first | (rw [hji7] at H; exact H) | (simp only [hji7] at H ⊢; exact H)
            have hji7_ : (if x4_1 < ((rd_T47 l0 x11_1).f2) then ((rd_T47 l0 x11_1).f2) else x4_1) = ji7 := hji7
            have H' := Aside0.mk H
            clear H
            have p79002 : 0 ≤ (x11_1 : Int) := of_decide_eq_true (by first | (with_reducible assumption) | assumption)
            have q79002 : x11_1 < (l0.length : Int) := of_decide_eq_true (by first | (with_reducible assumption) | assumption)
            obtain ⟨ad79002, e79002, hx79002_0, hx79002_1, hx79002_2⟩ := at_T47 HR0.out x11_1 p79002 q79002
            cases e79002
            replace hx79002_0 := (HB.out.cell (World.block_lt_of_cell? w _ hx79002_0)).trans hx79002_0
            replace hx79002_1 := (HB.out.cell (World.block_lt_of_cell? w _ hx79002_1)).trans hx79002_1
            replace hx79002_2 := (HB.out.cell (World.block_lt_of_cell? w _ hx79002_2)).trans hx79002_2
            replace p79002 := eq_true p79002
            replace q79002 := eq_true q79002
            go_wp2_with (first | ((with_reducible refine gate_dst (N := 6) rfl ?_); refine box_event ?hg (N := 6) ?hd (cs := #[.int .i64 0, .int .i64 0, .int .i64 0]) (t := 47) ?hr ?_; (case hd => rfl); (case hg => rfl); (case hr => first | (go_simp; done) | (go_simp; rfl)); intro gb79003 hg w8 hbox hb; have n0_ := Aside0.mk (blk_below (g := gb79001) (o := .cells #[.int .i64 0, .int .i64 0, .int .i64 0, .int .i64 0] 60 (0, 0)) (by (with_reducible repeat (first | refine blk_drewN ?_ _ | refine blk_drew ?_ | refine blk_alloc ?_ _)); exact BK79001.out) hb); have n1_ := Aside0.mk (below_step (by repeat (first | (with_reducible first | exact HB.out | apply below_alloc | apply pw_below_drewN | apply below_drew1 | refine below_set ?_ GE79001.out) | exact HB.out)) hb); have n2_ := Aside0.mk (hbox); have n3_ := Aside0.mk ((by rw [hg]; exact (below_size (by repeat (first | (with_reducible first | exact HB.out | apply below_alloc | apply pw_below_drewN | apply below_drew1 | refine below_set ?_ GE79001.out) | exact HB.out))) : w.heap.size ≤ gb79003)); have n4_ := Aside0.mk ((by rw [hg]; exact (below_size (by repeat (first | (with_reducible first | exact HB.out | apply below_alloc | apply pw_below_drewN | apply below_drew1 | refine below_set ?_ GE79001.out) | exact HB.out))) : w.heap.size ≤ gb79003)); have n5_ := Aside0.mk ((by rw [hg]; exact Nat.ne_of_lt (blk_lt (g := gb79001) (o := .cells #[.int .i64 0, .int .i64 0, .int .i64 0, .int .i64 0] 60 (0, 0)) (by (with_reducible repeat (first | refine blk_drewN ?_ _ | refine blk_drew ?_ | refine blk_alloc ?_ _)); exact BK79001.out)) : gb79001 ≠ gb79003)); have n6_ := Aside0.mk ((by rw [hg]; exact Nat.ne_of_gt (blk_lt (g := gb79001) (o := .cells #[.int .i64 0, .int .i64 0, .int .i64 0, .int .i64 0] 60 (0, 0)) (by (with_reducible repeat (first | refine blk_drewN ?_ _ | refine blk_drew ?_ | refine blk_alloc ?_ _)); exact BK79001.out)) : gb79003 ≠ gb79001)); clear BK79001; clear HB; have BK79001 := n0_; have HB := n1_; have BK79003 := n2_; have GW79003 := n3_; have GE79003 := n4_; have NB79001_79003 := n5_; have NB79003_79001 := n6_; clear n0_ n1_ n2_ n3_ n4_ n5_ n6_; clear hb hbox hg; have hnb9 := NB79003_79001.out; have hnc9 := NB79001_79003.out; have hcz10_0 : w8.cell? ⟨gb79003, 0, none⟩ = some (.int .i64 0) := (blk_cell BK79003.out 0).trans rfl; have hcz10_1 : w8.cell? ⟨gb79003, 1, none⟩ = some (.int .i64 0) := (blk_cell BK79003.out 1).trans rfl; have hcz10_2 : w8.cell? ⟨gb79003, 2, none⟩ = some (.int .i64 0) := (blk_cell BK79003.out 2).trans rfl; have hfz10_0 := blk_frozen BK79003.out 0; have hfz10_1 := blk_frozen BK79003.out 1; have hfz10_2 := blk_frozen BK79003.out 2))
            repeat (go_quiet (first | ((with_reducible refine gate_dst (N := 6) rfl ?_); refine box_event ?hg (N := 6) ?hd (cs := #[.int .i64 0, .int .i64 0, .int .i64 0]) (t := 47) ?hr ?_; (case hd => rfl); (case hg => rfl); (case hr => first | (go_simp; done) | (go_simp; rfl)); intro gb79003 hg w8 hbox hb; have n0_ := Aside0.mk (blk_below (g := gb79001) (o := .cells #[.int .i64 0, .int .i64 0, .int .i64 0, .int .i64 0] 60 (0, 0)) (by (with_reducible repeat (first | refine blk_drewN ?_ _ | refine blk_drew ?_ | refine blk_alloc ?_ _)); exact BK79001.out) hb); have n1_ := Aside0.mk (below_step (by repeat (first | (with_reducible first | exact HB.out | apply below_alloc | apply pw_below_drewN | apply below_drew1 | refine below_set ?_ GE79001.out) | exact HB.out)) hb); have n2_ := Aside0.mk (hbox); have n3_ := Aside0.mk ((by rw [hg]; exact (below_size (by repeat (first | (with_reducible first | exact HB.out | apply below_alloc | apply pw_below_drewN | apply below_drew1 | refine below_set ?_ GE79001.out) | exact HB.out))) : w.heap.size ≤ gb79003)); have n4_ := Aside0.mk ((by rw [hg]; exact (below_size (by repeat (first | (with_reducible first | exact HB.out | apply below_alloc | apply pw_below_drewN | apply below_drew1 | refine below_set ?_ GE79001.out) | exact HB.out))) : w.heap.size ≤ gb79003)); have n5_ := Aside0.mk ((by rw [hg]; exact Nat.ne_of_lt (blk_lt (g := gb79001) (o := .cells #[.int .i64 0, .int .i64 0, .int .i64 0, .int .i64 0] 60 (0, 0)) (by (with_reducible repeat (first | refine blk_drewN ?_ _ | refine blk_drew ?_ | refine blk_alloc ?_ _)); exact BK79001.out)) : gb79001 ≠ gb79003)); have n6_ := Aside0.mk ((by rw [hg]; exact Nat.ne_of_gt (blk_lt (g := gb79001) (o := .cells #[.int .i64 0, .int .i64 0, .int .i64 0, .int .i64 0] 60 (0, 0)) (by (with_reducible repeat (first | refine blk_drewN ?_ _ | refine blk_drew ?_ | refine blk_alloc ?_ _)); exact BK79001.out)) : gb79003 ≠ gb79001)); clear BK79001; clear HB; have BK79001 := n0_; have HB := n1_; have BK79003 := n2_; have GW79003 := n3_; have GE79003 := n4_; have NB79001_79003 := n5_; have NB79003_79001 := n6_; clear n0_ n1_ n2_ n3_ n4_ n5_ n6_; clear hb hbox hg; have hnb9 := NB79003_79001.out; have hnc9 := NB79001_79003.out; have hcz10_0 : w8.cell? ⟨gb79003, 0, none⟩ = some (.int .i64 0) := (blk_cell BK79003.out 0).trans rfl; have hcz10_1 : w8.cell? ⟨gb79003, 1, none⟩ = some (.int .i64 0) := (blk_cell BK79003.out 1).trans rfl; have hcz10_2 : w8.cell? ⟨gb79003, 2, none⟩ = some (.int .i64 0) := (blk_cell BK79003.out 2).trans rfl; have hfz10_0 := blk_frozen BK79003.out 0; have hfz10_1 := blk_frozen BK79003.out 1; have hfz10_2 := blk_frozen BK79003.out 2)); try go_wp2_with (first | ((with_reducible refine gate_dst (N := 6) rfl ?_); refine box_event ?hg (N := 6) ?hd (cs := #[.int .i64 0, .int .i64 0, .int .i64 0]) (t := 47) ?hr ?_; (case hd => rfl); (case hg => rfl); (case hr => first | (go_simp; done) | (go_simp; rfl)); intro gb79003 hg w8 hbox hb; have n0_ := Aside0.mk (blk_below (g := gb79001) (o := .cells #[.int .i64 0, .int .i64 0, .int .i64 0, .int .i64 0] 60 (0, 0)) (by (with_reducible repeat (first | refine blk_drewN ?_ _ | refine blk_drew ?_ | refine blk_alloc ?_ _)); exact BK79001.out) hb); have n1_ := Aside0.mk (below_step (by repeat (first | (with_reducible first | exact HB.out | apply below_alloc | apply pw_below_drewN | apply below_drew1 | refine below_set ?_ GE79001.out) | exact HB.out)) hb); have n2_ := Aside0.mk (hbox); have n3_ := Aside0.mk ((by rw [hg]; exact (below_size (by repeat (first | (with_reducible first | exact HB.out | apply below_alloc | apply pw_below_drewN | apply below_drew1 | refine below_set ?_ GE79001.out) | exact HB.out))) : w.heap.size ≤ gb79003)); have n4_ := Aside0.mk ((by rw [hg]; exact (below_size (by repeat (first | (with_reducible first | exact HB.out | apply below_alloc | apply pw_below_drewN | apply below_drew1 | refine below_set ?_ GE79001.out) | exact HB.out))) : w.heap.size ≤ gb79003)); have n5_ := Aside0.mk ((by rw [hg]; exact Nat.ne_of_lt (blk_lt (g := gb79001) (o := .cells #[.int .i64 0, .int .i64 0, .int .i64 0, .int .i64 0] 60 (0, 0)) (by (with_reducible repeat (first | refine blk_drewN ?_ _ | refine blk_drew ?_ | refine blk_alloc ?_ _)); exact BK79001.out)) : gb79001 ≠ gb79003)); have n6_ := Aside0.mk ((by rw [hg]; exact Nat.ne_of_gt (blk_lt (g := gb79001) (o := .cells #[.int .i64 0, .int .i64 0, .int .i64 0, .int .i64 0] 60 (0, 0)) (by (with_reducible repeat (first | refine blk_drewN ?_ _ | refine blk_drew ?_ | refine blk_alloc ?_ _)); exact BK79001.out)) : gb79003 ≠ gb79001)); clear BK79001; clear HB; have BK79001 := n0_; have HB := n1_; have BK79003 := n2_; have GW79003 := n3_; have GE79003 := n4_; have NB79001_79003 := n5_; have NB79003_79001 := n6_; clear n0_ n1_ n2_ n3_ n4_ n5_ n6_; clear hb hbox hg; have hnb9 := NB79003_79001.out; have hnc9 := NB79001_79003.out; have hcz10_0 : w8.cell? ⟨gb79003, 0, none⟩ = some (.int .i64 0) := (blk_cell BK79003.out 0).trans rfl; have hcz10_1 : w8.cell? ⟨gb79003, 1, none⟩ = some (.int .i64 0) := (blk_cell BK79003.out 1).trans rfl; have hcz10_2 : w8.cell? ⟨gb79003, 2, none⟩ = some (.int .i64 0) := (blk_cell BK79003.out 2).trans rfl; have hfz10_0 := blk_frozen BK79003.out 0; have hfz10_1 := blk_frozen BK79003.out 1; have hfz10_2 := blk_frozen BK79003.out 2)))
            go_roundg k1
            case measure => have := HK1.out; omega
            case rel => exact ⟨(ji6), (ji7), (wrap64 (x11_1 + 1)), (by first | rfl | (simp; done) | (simp only [← hji6] <;> (first | rfl | simp)) | (simp [*]; done)), (by first | rfl | (simp; done) | (simp only [← hji7] <;> (first | rfl | simp)) | (simp [*]; done)), (by first | rfl | (simp; done) | (simp [*]; done)), H', ⟨by have := HK1.out; omega⟩, ⟨by (with_reducible repeat (first | refine blk_drewN ?_ _ | refine blk_drew ?_ | refine blk_alloc ?_ _)); refine blk_far ?_ NB79001_79003.out _; (with_reducible repeat (first | refine blk_drewN ?_ _ | refine blk_drew ?_ | refine blk_alloc ?_ _)); refine blk_far ?_ NB79001_79003.out _; (with_reducible repeat (first | refine blk_drewN ?_ _ | refine blk_drew ?_ | refine blk_alloc ?_ _)); refine blk_far ?_ NB79001_79003.out _; (with_reducible repeat (first | refine blk_drewN ?_ _ | refine blk_drew ?_ | refine blk_alloc ?_ _)); exact BK79001.out⟩, ⟨by repeat (first | (with_reducible first | exact HB.out | apply below_alloc | apply pw_below_drewN | apply below_drew1 | refine below_set ?_ GE79001.out | refine below_set ?_ GE79003.out) | exact HB.out)⟩⟩
          · rw [if_neg c5] at H
            exact absurd H (by simp)
        · rw [if_neg c4] at H
          exact absurd H (by simp)
      · rw [if_neg c3] at H
        have c3b0 : decide (x11_1 < (l0.length : Int)) = false := decide_eq_false c3
        clear c3
        by_cases c11 : 0 < (l0.length : Int)
        · rw [if_pos c11] at H
          have c11b0 : decide (0 < (l0.length : Int)) = true := decide_eq_true c11
          have c11b1 : decide (0 < l0.length) = true := decide_eq_true (by omega)
          clear c11
          obtain ⟨ji12, hji12⟩ : ∃ j_ : Int, (wrap64 ((l0.length : Int) - 1)) = j_ := ⟨_, rfl⟩
          replace H : (if 0 ≤ (ji12) then (if (ji12) < (l0.length : Int) then (some (x3_1, (rd_T47 l0 0).f0, wrap64 (x4_1 - x3_1), wrap64 ((wrap64 (((rd_T47 l0 (ji12)).f0) - ((rd_T47 l0 0).f0))) + 1))) else (none)) else (none)) = some (r1, r2, r3, r4) := by first | (rw [hji12] at H; exact H) | (simp only [hji12] at H ⊢; exact H)
          have hji12w : (IntKind.i64.wrap ((l0.length : Int) - 1)) = ji12 := (i64_w _).trans hji12
          by_cases c13 : 0 ≤ (ji12)
          · rw [if_pos c13] at H
            have c13b0 : decide (0 ≤ (ji12)) = true := decide_eq_true c13
            clear c13
            by_cases c14 : (ji12) < (l0.length : Int)
            · rw [if_pos c14] at H
              have c14b0 : decide ((ji12) < (l0.length : Int)) = true := decide_eq_true c14
              clear c14
              simp only [Option.some.injEq, Prod.mk.injEq] at H
              obtain ⟨rfl, rfl, rfl, rfl⟩ := H
              have p79004 : 0 ≤ (0 : Int) := (by omega)
              have q79004 : 0 < (l0.length : Int) := of_decide_eq_true (by first | (with_reducible assumption) | assumption)
              obtain ⟨ad79004, e79004, hx79004_0, hx79004_1, hx79004_2⟩ := at_T47 HR0.out 0 p79004 q79004
              cases e79004
              have qi79004 : (0 < l0.length) = True := eq_true (by omega)
              (try rw [show ((0 : Int)).toNat = 0 from rfl] at hx79004_0)
              (try rw [show 0 * 3 = 0 from rfl] at hx79004_0)
              (try rw [Addr.add_zero'] at hx79004_0)
              (try rw [show ((0 : Int)).toNat = 0 from rfl] at hx79004_1)
              (try rw [show 0 * 3 = 0 from rfl] at hx79004_1)
              (try rw [Addr.add_zero'] at hx79004_1)
              (try rw [show ((0 : Int)).toNat = 0 from rfl] at hx79004_2)
              (try rw [show 0 * 3 = 0 from rfl] at hx79004_2)
              (try rw [Addr.add_zero'] at hx79004_2)
              replace hx79004_0 := (HB.out.cell (World.block_lt_of_cell? w _ hx79004_0)).trans hx79004_0
              replace hx79004_1 := (HB.out.cell (World.block_lt_of_cell? w _ hx79004_1)).trans hx79004_1
              replace hx79004_2 := (HB.out.cell (World.block_lt_of_cell? w _ hx79004_2)).trans hx79004_2
              replace p79004 := eq_true p79004
              replace q79004 := eq_true q79004
              have p79005 : 0 ≤ ((ji12) : Int) := of_decide_eq_true (by first | (with_reducible assumption) | assumption)
              have q79005 : (ji12) < (l0.length : Int) := of_decide_eq_true (by first | (with_reducible assumption) | assumption)
              obtain ⟨ad79005, e79005, hx79005_0, hx79005_1, hx79005_2⟩ := at_T47 HR0.out (ji12) p79005 q79005
              obtain rfl : ad79004 = ad79005 := (by injection e79005)
              replace hx79005_0 := (HB.out.cell (World.block_lt_of_cell? w _ hx79005_0)).trans hx79005_0
              replace hx79005_1 := (HB.out.cell (World.block_lt_of_cell? w _ hx79005_1)).trans hx79005_1
              replace hx79005_2 := (HB.out.cell (World.block_lt_of_cell? w _ hx79005_2)).trans hx79005_2
              replace p79005 := eq_true p79005
              replace q79005 := eq_true q79005
              have hcz15_0 : wr.cell? ⟨gb79001, 0, none⟩ = some (.int .i64 0) := (blk_cell BK79001.out 0).trans rfl
              have hcz15_1 : wr.cell? ⟨gb79001, 1, none⟩ = some (.int .i64 0) := (blk_cell BK79001.out 1).trans rfl
              have hcz15_2 : wr.cell? ⟨gb79001, 2, none⟩ = some (.int .i64 0) := (blk_cell BK79001.out 2).trans rfl
              have hcz15_3 : wr.cell? ⟨gb79001, 3, none⟩ = some (.int .i64 0) := (blk_cell BK79001.out 3).trans rfl
              have hfz15_0 := blk_frozen BK79001.out 0
              have hfz15_1 := blk_frozen BK79001.out 1
              have hfz15_2 := blk_frozen BK79001.out 2
              have hfz15_3 := blk_frozen BK79001.out 3
              go_wp2
              repeat (go_quiet (fail); try go_wp2)
              refine bodyPost_ret (results_cell_row rfl _ _ gb79001 60 #[.int .i64 x3_1, .int .i64 ((rd_T47 l0 0).f0), .int .i64 (wrap64 (x4_1 - x3_1)), .int .i64 (wrap64 ((wrap64 (((rd_T47 l0 (ji12)).f0) - ((rd_T47 l0 0).f0))) + 1))] (0, 0) _ rfl (by (with_reducible repeat (first | refine blk_drewN ?_ _ | refine blk_drew ?_ | refine blk_alloc ?_ _)); refine blk_put (cs := #[.int .i64 x3_1, .int .i64 ((rd_T47 l0 0).f0), .int .i64 (wrap64 (x4_1 - x3_1)), .int .i64 0]) ?_ 3 _ rfl; (with_reducible repeat (first | refine blk_drewN ?_ _ | refine blk_drew ?_ | refine blk_alloc ?_ _)); refine blk_put (cs := #[.int .i64 x3_1, .int .i64 ((rd_T47 l0 0).f0), .int .i64 0, .int .i64 0]) ?_ 2 _ rfl; (with_reducible repeat (first | refine blk_drewN ?_ _ | refine blk_drew ?_ | refine blk_alloc ?_ _)); refine blk_put (cs := #[.int .i64 x3_1, .int .i64 0, .int .i64 0, .int .i64 0]) ?_ 1 _ rfl; (with_reducible repeat (first | refine blk_drewN ?_ _ | refine blk_drew ?_ | refine blk_alloc ?_ _)); refine blk_put (cs := #[.int .i64 0, .int .i64 0, .int .i64 0, .int .i64 0]) ?_ 0 _ rfl; (with_reducible repeat (first | refine blk_drewN ?_ _ | refine blk_drew ?_ | refine blk_alloc ?_ _)); exact BK79001.out) Try.underlying60 rfl (by kernel_rfl)) rfl ?_
              exact ⟨by first | rfl | (simp [errW_none, errW_some] <;> rfl) | (simp only [← hji12]; first | rfl | (simp [errW_none, errW_some] <;> rfl)) | (simp [*, errW_none, errW_some] <;> rfl), by repeat (first | (with_reducible first | exact HB.out | apply below_alloc | apply pw_below_drewN | apply below_drew1 | refine below_set ?_ GE79001.out) | exact HB.out)⟩
            · rw [if_neg c14] at H
              exact absurd H (by simp)
          · rw [if_neg c13] at H
            exact absurd H (by simp)
        · rw [if_neg c11] at H
          exact absurd H (by simp)

end Go.Proofs.Ytbgohbinonkhfaa.Q

/- Two images of the same shape. -/
namespace Go.Proofs.Ytbgohbinonkhfaa.Pure
open Go.RowKit Go.Proofs.Ytbgohbinonkhfaa.Q Go.Proofs.YtbgohbinonkhfaaW.PrintWords Go.Proofs.YtbgohbinonkhfaaW.PrintLast Go.Proofs.YtbgohbinonkhfaaW.PrintMore
set_option linter.unusedVariables false
set_option linter.unusedSimpArgs false

def sameV (w h p : Int) (d : List Int) (w' h' p' : Int) (d' : List Int) : Bool := validI w h p d && (validI w' h' p' d' && decide (w = w' ∧ h = h' ∧ p = p'))
theorem sameV_iff (w h p : Int) (d : List Int) (w' h' p' : Int) (d' : List Int) : sameV w h p d w' h' p' d' = true ↔ validI w h p d = true ∧ validI w' h' p' d' = true ∧ w = w' ∧ h = h' ∧ p = p' := by
  simp [sameV]
theorem alikeB (w h p w' h' p' : Int) : (if w = w' then (if h = h' then (some (p == p')) else (some false)) else (some false)) = some (decide (w = w' ∧ h = h' ∧ p = p')) := by
  by_cases c1 : w = w'
  · rw [if_pos c1]
    by_cases c2 : h = h'
    · rw [if_pos c2]
      by_cases c3 : p = p'
      · rw [decide_eq_true (show w = w' ∧ h = h' ∧ p = p' from ⟨c1, c2, c3⟩), beq_iff_eq.2 c3]
      · rw [decide_eq_false (by simp [c3]), beq_eq_false_iff_ne.2 c3]
    · rw [if_neg c2, decide_eq_false (by simp [c2])]
  · rw [if_neg c1, decide_eq_false (by simp [c1])]
theorem impl_alike_eq (w h p : Int) (d : List Int) (w' h' p' : Int) (d' : List Int) : impl_alikeImages.f w h p d w' h' p' d' = some (decide (w = w' ∧ h = h' ∧ p = p')) := by
  unfold impl_alikeImages.f
  exact alikeB w h p w' h' p'
theorem spec_sameShape_ev (w h p : Int) (d : List Int) (w' h' p' : Int) (d' : List Int) (hl : d.length ≤ 1000000000000) (hl' : d'.length ≤ 1000000000000) : Ev (fun k => spec_sameShape.f k w h p d w' h' p' d') (sameV w h p d w' h' p' d') := by
  unfold spec_sameShape.f sameV
  refine ev_bind (spec_validImage_ev w h p d hl) ?_
  by_cases c : validI w h p d = true
  · rw [c, Bool.true_and]
    refine ev_pos rfl (ev_bind (spec_validImage_ev w' h' p' d' hl') ?_)
    by_cases c' : validI w' h' p' d' = true
    · rw [c', Bool.true_and]
      exact ev_pos rfl (ev_const (alikeB w h p w' h' p'))
    · rw [Bool.eq_false_iff.2 c', Bool.false_and]
      exact ev_neg (by simp) (Ev.now _)
  · rw [Bool.eq_false_iff.2 c, Bool.false_and]
    exact ev_neg (by simp) (Ev.now _)
end Go.Proofs.Ytbgohbinonkhfaa.Pure

/- Areas and bounds of regions, as the program and the reference have them. -/
namespace Go.Proofs.Ytbgohbinonkhfaa.Pure
open Go.RowKit Go.Proofs.Ytbgohbinonkhfaa.Q Go.Proofs.YtbgohbinonkhfaaW.PrintWords Go.Proofs.YtbgohbinonkhfaaW.PrintLast Go.Proofs.YtbgohbinonkhfaaW.PrintMore
set_option linter.unusedVariables false
set_option linter.unusedSimpArgs false

def leftR (l : List Run) (s : Int) : Int := l.foldl (fun a r => min a r.f1) s
def rightR (l : List Run) (s : Int) : Int := l.foldl (fun a r => max a r.f2) s
theorem left_range (l : List Run) (h : ∀ r ∈ l, runOK r = true) : ∀ s, 0 ≤ s → s ≤ 16 → 0 ≤ leftR l s ∧ leftR l s ≤ 16 := by
  induction l with
  | nil => intro s h0 h1; exact ⟨h0, h1⟩
  | cons x xs ih =>
    intro s h0 h1
    have h2 := (runOK_iff x).1 (h x (by simp))
    exact ih (fun r hr => h r (by simp [hr])) (min s x.f1) (by omega) (by omega)
theorem right_range (l : List Run) (h : ∀ r ∈ l, runOK r = true) : ∀ s, 0 ≤ s → s ≤ 16 → 0 ≤ rightR l s ∧ rightR l s ≤ 16 := by
  induction l with
  | nil => intro s h0 h1; exact ⟨h0, h1⟩
  | cons x xs ih =>
    intro s h0 h1
    have h2 := (runOK_iff x).1 (h x (by simp))
    exact ih (fun r hr => h r (by simp [hr])) (max s x.f2) (by omega) (by omega)
/-- The bounds of runs, at least one. -/
def boundsR (l : List Run) : Int × Int × Int × Int :=
  (leftR l 16, (l.headD z47).f0, rightR l 0 - leftR l 16, (l.getLastD z47).f0 - (l.headD z47).f0 + 1)
theorem last_wrap (l : List Run) (hn : l ≠ []) (hl : l.length ≤ 1000000000) (h : ∀ r ∈ l, runOK r = true) :
    (if 0 < (l.length : Int) then (if 0 ≤ (wrap64 ((l.length : Int) - 1)) then (if (wrap64 ((l.length : Int) - 1)) < (l.length : Int) then (some (leftR l 16, (rd_T47 l 0).f0, wrap64 (rightR l 0 - leftR l 16), wrap64 ((wrap64 (((rd_T47 l (wrap64 ((l.length : Int) - 1))).f0) - ((rd_T47 l 0).f0))) + 1))) else (none)) else (none)) else (none)) = some (boundsR l) := by
  have hp : 0 < l.length := List.length_pos_iff.2 hn
  have h1 := left_range l h 16 (by omega) (by omega)
  have h2 := right_range l h 0 (by omega) (by omega)
  have e0 : rd_T47 l 0 = l[0] := by simpa using rdRun l 0 hp
  have e1 : wrap64 ((l.length : Int) - 1) = ((l.length - 1 : Nat) : Int) := by rw [w64 (by omega) (by omega)]; omega
  have ha := (runOK_iff _).1 (h l[0] (List.getElem_mem hp))
  have hb := (runOK_iff _).1 (h (l[l.length - 1]'(by omega)) (List.getElem_mem (by omega)))
  rw [if_pos (by omega), e1, if_pos (by omega), if_pos (by omega), rdRun l (l.length - 1) (by omega), e0, w64 (x := rightR l 0 - leftR l 16) (by omega) (by omega), w64 (x := (l[l.length - 1]'(by omega)).f0 - l[0].f0) (by omega) (by omega), w64 (by omega) (by omega)]
  unfold boundsR
  have f1 : l.headD z47 = l[0] := by cases l with
    | nil => exact absurd rfl hn
    | cons x xs => rfl
  have f2 : l.getLastD z47 = l[l.length - 1]'(by omega) := by
    rw [← List.getLast_eq_getElem hn, List.getLastD_eq_getLast?, List.getLast?_eq_some_getLast hn]; rfl
  rw [f1, f2]
theorem foldl_drop {α β : Type} (f : β → α → β) (l : List α) (i : Nat) (h : i < l.length) (s : β) : (l.drop i).foldl f s = (l.drop (i + 1)).foldl f (f s l[i]) := by
  rw [List.drop_eq_getElem_cons h]; rfl
theorem impl_bounds_eq (l : List Run) (hn : l ≠ []) (hl : l.length ≤ 1000000000) (h : ∀ r ∈ l, runOK r = true) (k : Nat) (hk : l.length < k) : impl_bounds.f k l = some (boundsR l) := by
  unfold impl_bounds.f
  have hh := loop_up 0 l.length (fun k i (s : Int × Int) => impl_bounds.l0 k l s.1 s.2 l (l.length : Int) (i : Int)) (fun i s => leftR (l.drop i) s.1 = leftR l 16 ∧ rightR (l.drop i) s.2 = rightR l 0) (fun _ _ => boundsR l)
    (by
      intro i s k hi hs _
      refine .inr ⟨(mn s.1 l[i].f1, mx s.2 l[i].f2), ?_, ?_, rfl⟩
      · simp only [impl_bounds.l0]
        rw [if_pos (by omega), if_pos (by omega), if_pos (by omega), rdRun l i hi, w64n i (by omega)]
      · obtain ⟨q1, q2⟩ := hs
        unfold leftR at q1 ⊢
        unfold rightR at q2 ⊢
        rw [foldl_drop _ l i hi] at q1 q2
        rw [mn_def, mx_def]
        exact ⟨q1, q2⟩)
    (by
      intro s k hs _
      rw [List.drop_length] at hs
      simp only [impl_bounds.l0]
      rw [if_neg (by omega)]
      have q1 : s.1 = leftR l 16 := hs.1
      have q2 : s.2 = rightR l 0 := hs.2
      rw [q1, q2]
      exact last_wrap l hn hl h)
    l.length 0 (16, 0) k (by omega) ⟨rfl, rfl⟩ (by omega)
  exact hh
theorem spec_boundsOf_eq (l : List Run) (hn : l ≠ []) (hl : l.length ≤ 1000000000) (h : ∀ r ∈ l, runOK r = true) (k : Nat) (hk : l.length < k) : spec_boundsOf.f k l = some (boundsR l) := by
  have hp : 0 < l.length := List.length_pos_iff.2 hn
  have e0 : rd_T47 l 0 = l[0] := by simpa using rdRun l 0 hp
  have ha := (runOK_iff _).1 (h l[0] (List.getElem_mem hp))
  unfold spec_boundsOf.f
  rw [if_pos (by omega), e0]
  have s1 : leftR l l[0].f1 = leftR l 16 := by
    cases l with
    | nil => exact absurd rfl hn
    | cons x xs =>
      simp only [List.getElem_cons_zero] at ha ⊢
      show leftR xs (min x.f1 x.f1) = leftR xs (min 16 x.f1)
      congr 1; omega
  have s2 : rightR l l[0].f2 = rightR l 0 := by
    cases l with
    | nil => exact absurd rfl hn
    | cons x xs =>
      simp only [List.getElem_cons_zero] at ha ⊢
      show rightR xs (max x.f2 x.f2) = rightR xs (max 0 x.f2)
      congr 1; omega
  have hh := loop_up 0 l.length (fun k i (s : Int × Int) => spec_boundsOf.l0 k l s.1 s.2 (i : Int)) (fun i s => leftR (l.drop i) s.1 = leftR l 16 ∧ rightR (l.drop i) s.2 = rightR l 0) (fun _ _ => boundsR l)
    (by
      intro i s k hi hs _
      refine .inr ⟨(mn s.1 l[i].f1, mx s.2 l[i].f2), ?_, ?_, rfl⟩
      · simp only [spec_boundsOf.l0]
        rw [if_pos (by omega), if_pos (by omega), rdRun l i hi, w64n i (by omega)]
      · obtain ⟨q1, q2⟩ := hs
        unfold leftR at q1 ⊢
        unfold rightR at q2 ⊢
        rw [foldl_drop _ l i hi] at q1 q2
        rw [mn_def, mx_def]
        exact ⟨q1, q2⟩)
    (by
      intro s k hs _
      rw [List.drop_length] at hs
      simp only [spec_boundsOf.l0]
      rw [if_neg (by omega)]
      have q1 : s.1 = leftR l 16 := hs.1
      have q2 : s.2 = rightR l 0 := hs.2
      rw [q1, q2]
      exact last_wrap l hn hl h)
    l.length 0 (l[0].f1, l[0].f2) k (by omega) ⟨s1, s2⟩ (by omega)
  exact hh
end Go.Proofs.Ytbgohbinonkhfaa.Pure

/- The region of a box, as the program and the reference have it. -/
namespace Go.Proofs.Ytbgohbinonkhfaa.Pure
open Go.RowKit Go.Proofs.Ytbgohbinonkhfaa.Q Go.Proofs.YtbgohbinonkhfaaW.PrintWords Go.Proofs.YtbgohbinonkhfaaW.PrintLast Go.Proofs.YtbgohbinonkhfaaW.PrintMore
set_option linter.unusedVariables false
set_option linter.unusedSimpArgs false

theorem scanRow_len (g : Nat → Bool) (y : Nat) : ∀ d x, 17 ≤ x + d → (scanRow g y x).length ≤ 17 - x := by
  intro d
  induction d with
  | zero => intro x hx; rw [scan_end g y x (by omega)]; simp
  | succ d ih =>
    intro x hx
    by_cases h16 : x < 16
    · cases hv : g (y * 16 + x) with
      | true =>
        have := endAt_ge g y (16 - x) x
        rw [scan_true g y x h16 hv, List.length_cons]
        have := ih (endAt g y (16 - x) x + 1) (by omega)
        omega
      | false =>
        rw [scan_false g y x h16 hv]
        have := ih (x + 1) (by omega)
        omega
    · rw [scan_end g y x (by omega)]; simp
theorem runsTo_len (g : Nat → Bool) (n : Nat) : (runsTo g n).length ≤ 17 * n := by
  induction n with
  | zero => simp [runsTo]
  | succ n ih =>
    rw [runsTo_succ, List.length_append]
    have := scanRow_len g n 17 0 (by omega)
    omega
theorem runsL_len (g : Nat → Bool) : (runsL g).length ≤ 272 := runsTo_len g 16
end Go.Proofs.Ytbgohbinonkhfaa.Pure

/- The runs of a grid are a region: their grid is the grid, and their area is the number of its pixels. -/
namespace Go.Proofs.Ytbgohbinonkhfaa.Pure
open Go.RowKit Go.Proofs.Ytbgohbinonkhfaa.Q Go.Proofs.YtbgohbinonkhfaaW.PrintWords Go.Proofs.YtbgohbinonkhfaaW.PrintLast Go.Proofs.YtbgohbinonkhfaaW.PrintMore
set_option linter.unusedVariables false
set_option linter.unusedSimpArgs false

theorem endAt_le (g : Nat → Bool) (y : Nat) : ∀ n x, x ≤ 16 → endAt g y n x ≤ 16 := by
  intro n
  induction n with
  | zero => intro x h; exact h
  | succ n ih =>
    intro x h
    unfold endAt
    split
    · rename_i c; exact ih (x + 1) (by omega)
    · exact h
theorem endAt_in (g : Nat → Bool) (y : Nat) : ∀ n x q, x ≤ q → q < endAt g y n x → g (y * 16 + q) = true := by
  intro n
  induction n with
  | zero => intro x q h1 h2; exact absurd h2 (by simp only [endAt]; omega)
  | succ n ih =>
    intro x q h1 h2
    unfold endAt at h2
    split at h2
    · rename_i c
      by_cases e : q = x
      · subst e; exact c.2
      · exact ih (x + 1) q (by omega) h2
    · omega
theorem endAt_end (g : Nat → Bool) (y : Nat) : ∀ n x, 16 ≤ n + x → x ≤ 16 → endAt g y n x = 16 ∨ g (y * 16 + endAt g y n x) = false := by
  intro n
  induction n with
  | zero => intro x h1 h2; left; simp only [endAt]; omega
  | succ n ih =>
    intro x h1 h2
    unfold endAt
    split
    · rename_i c; exact ih (x + 1) (by omega) (by omega)
    · rename_i c
      by_cases hx : x < 16
      · right
        cases hv : g (y * 16 + x) with
        | true => exact absurd ⟨hx, hv⟩ c
        | false => rfl
      · left; omega
theorem runIn_row (y p : Nat) (a b : Nat) : runIn ⟨(y : Int), (a : Int), (b : Int)⟩ p = (decide (p / 16 = y) && (decide (a ≤ p % 16) && decide (p % 16 < b))) := by
  unfold runIn
  rw [Bool.and_assoc]
  congr 1
  · rw [decide_eq_decide]; simp only; omega
  · congr 1
    · rw [decide_eq_decide]; simp only; omega
    · rw [decide_eq_decide]; simp only; omega
theorem gridF_nil (p : Nat) : gridF [] p = false := rfl
theorem gridF_cons (r : Run) (l : List Run) (p : Nat) : gridF (r :: l) p = (runIn r p || gridF l p) := rfl
theorem gridF_append (l m : List Run) (p : Nat) : gridF (l ++ m) p = (gridF l p || gridF m p) := by unfold gridF; rw [List.any_append]
theorem grid_scan (g : Nat → Bool) (y p : Nat) (hp : p < 256) : ∀ d x, 17 ≤ x + d → gridF (scanRow g y x) p = (decide (p / 16 = y) && (decide (x ≤ p % 16) && g p)) := by
  intro d
  induction d with
  | zero =>
    intro x hx
    rw [scan_end g y x (by omega), gridF_nil, decide_eq_false (show ¬ x ≤ p % 16 by omega), Bool.false_and, Bool.and_false]
  | succ d ih =>
    intro x hx
    by_cases h16 : x < 16
    · by_cases hy : p / 16 = y
      · have hpe : p = y * 16 + p % 16 := by omega
        cases hv : g (y * 16 + x) with
        | true =>
          have he := endAt_ge g y (16 - x) x
          have he2 := endAt_le g y (16 - x) x (by omega)
          have hin := endAt_in g y (16 - x) x
          have hend := endAt_end g y (16 - x) x (by omega) (by omega)
          have hst := endAt_step g y x h16 hv
          have he3 := endAt_ge g y (16 - (x + 1)) (x + 1)
          rw [← hst] at he3
          rw [scan_true g y x h16 hv, gridF_cons, runIn_row, ih _ (by omega)]
          generalize endAt g y (16 - x) x = e at *
          rw [decide_eq_true hy, Bool.true_and, Bool.true_and, Bool.true_and]
          by_cases c1 : x ≤ p % 16
          · rw [decide_eq_true c1, Bool.true_and, Bool.true_and]
            by_cases c2 : p % 16 < e
            · rw [decide_eq_true c2, Bool.true_or, hpe, hin (p % 16) c1 c2]
            · rw [decide_eq_false c2, Bool.false_or]
              by_cases c3 : e + 1 ≤ p % 16
              · rw [decide_eq_true c3, Bool.true_and]
              · rw [decide_eq_false c3, Bool.false_and]
                rcases hend with h | h
                · omega
                · rw [show p % 16 = e by omega] at hpe
                  rw [hpe, h]
          · rw [decide_eq_false c1, Bool.false_and, Bool.false_and, Bool.false_or, decide_eq_false (show ¬ e + 1 ≤ p % 16 by omega), Bool.false_and]
        | false =>
          rw [scan_false g y x h16 hv, ih _ (by omega), decide_eq_true hy, Bool.true_and, Bool.true_and]
          by_cases c : x = p % 16
          · rw [decide_eq_false (show ¬ x + 1 ≤ p % 16 by omega), Bool.false_and, decide_eq_true (show x ≤ p % 16 by omega), Bool.true_and, hpe, ← c, hv]
          · congr 1
            rw [decide_eq_decide]; omega
      · have hall : ∀ d x, 17 ≤ x + d → gridF (scanRow g y x) p = false := by
          intro d
          induction d with
          | zero => intro x hx; rw [scan_end g y x (by omega)]; rfl
          | succ d ih =>
            intro x hx
            by_cases h16 : x < 16
            · cases hv : g (y * 16 + x) with
              | true =>
                have := endAt_ge g y (16 - x) x
                rw [scan_true g y x h16 hv, gridF_cons, runIn_row, decide_eq_false hy, Bool.false_and, Bool.false_or]
                exact ih _ (by omega)
              | false => rw [scan_false g y x h16 hv]; exact ih _ (by omega)
            · rw [scan_end g y x (by omega)]; rfl
        rw [hall 17 x (by omega), decide_eq_false hy, Bool.false_and]
    · rw [scan_end g y x (by omega), gridF_nil, decide_eq_false (show ¬ x ≤ p % 16 by omega), Bool.false_and, Bool.and_false]
theorem grid_runsTo (g : Nat → Bool) (p : Nat) (hp : p < 256) (n : Nat) : gridF (runsTo g n) p = (decide (p / 16 < n) && g p) := by
  induction n with
  | zero => simp [runsTo, gridF]
  | succ n ih =>
    rw [runsTo_succ, gridF_append, ih, grid_scan g n p hp 17 0 (by omega), decide_eq_true (Nat.zero_le _), Bool.true_and]
    by_cases c : p / 16 = n
    · rw [decide_eq_true c, decide_eq_false (show ¬ p / 16 < n by omega), decide_eq_true (show p / 16 < n + 1 by omega), Bool.false_and, Bool.false_or]
    · rw [decide_eq_false c, Bool.false_and, Bool.or_false]
      congr 1
      rw [decide_eq_decide]; omega
/-- The grid of a grid's runs is the grid. -/
theorem grid_runs (g : Nat → Bool) (p : Nat) (hp : p < 256) : gridF (runsL g) p = g p := by
  unfold runsL
  rw [grid_runsTo g p hp, decide_eq_true (show p / 16 < 16 by omega), Bool.true_and]
/-! the runs are valid -/
def rowsFrom (g : Nat → Bool) (y n : Nat) : List Run := (List.range' y n).flatMap fun y => scanRow g y 0
theorem rowsFrom_succ (g : Nat → Bool) (y n : Nat) : rowsFrom g y (n + 1) = scanRow g y 0 ++ rowsFrom g (y + 1) n := by
  simp [rowsFrom, List.range'_succ]
theorem runsL_rows (g : Nat → Bool) : runsL g = rowsFrom g 0 16 := by
  unfold runsL runsTo rowsFrom
  rw [List.range_eq_range']
/-- the run before, if there is one, lies ahead of column x of row y -/
def ahead (y x : Nat) (p : Option Run) : Prop := ∀ r, p = some r → r.f0 < (y : Int) ∨ (r.f0 = (y : Int) ∧ r.f2 < (x : Int))
theorem scan_valid (g : Nat → Bool) (y : Nat) (hy : y < 16) (rest : List Run) (hrest : ∀ p, (∀ r, p = some r → r.f0 ≤ (y : Int)) → validFrom p rest = true) :
    ∀ d x p, 17 ≤ x + d → (ahead y x p ∨ (x = 0 ∧ ∀ r, p = some r → r.f0 < (y : Int))) → validFrom p (scanRow g y x ++ rest) = true := by
  intro d
  induction d with
  | zero =>
    intro x p hx hp
    rw [scan_end g y x (by omega), List.nil_append]
    refine hrest p (fun r hr => ?_)
    rcases hp with hp | hp
    · have := hp r hr; omega
    · have := hp.2 r hr; omega
  | succ d ih =>
    intro x p hx hp
    by_cases h16 : x < 16
    · cases hv : g (y * 16 + x) with
      | true =>
        have he2 := endAt_le g y (16 - x) x (by omega)
        have hst := endAt_step g y x h16 hv
        have he3 := endAt_ge g y (16 - (x + 1)) (x + 1)
        rw [← hst] at he3
        rw [scan_true g y x h16 hv, List.cons_append]
        generalize endAt g y (16 - x) x = e at *
        have hok : runOK ⟨(y : Int), (x : Int), (e : Int)⟩ = true := by rw [runOK_iff]; simp only; omega
        have hnext : validFrom (some ⟨(y : Int), (x : Int), (e : Int)⟩) (scanRow g y (e + 1) ++ rest) = true := by
          refine ih (e + 1) _ (by omega) (.inl (fun r hr => ?_))
          injection hr with hr
          subst hr
          right
          simp only
          exact ⟨trivial, by omega⟩
        cases p with
        | none => simp only [validFrom, hok, hnext, Bool.and_true]
        | some q =>
          have haft : runAfter q ⟨(y : Int), (x : Int), (e : Int)⟩ = true := by
            rw [runAfter_iff]
            simp only
            rcases hp with hp | hp
            · have := hp q rfl; omega
            · have := hp.2 q rfl; omega
          simp only [validFrom, hok, haft, hnext, Bool.and_true]
      | false =>
        rw [scan_false g y x h16 hv]
        refine ih (x + 1) p (by omega) (.inl (fun r hr => ?_))
        rcases hp with hp | hp
        · have := hp r hr; omega
        · have := hp.2 r hr; omega
    · rw [scan_end g y x (by omega), List.nil_append]
      refine hrest p (fun r hr => ?_)
      rcases hp with hp | hp
      · have := hp r hr; omega
      · have := hp.2 r hr; omega
theorem rows_valid (g : Nat → Bool) : ∀ n y : Nat, y + n ≤ 16 → ∀ p : Option Run, (∀ r, p = some r → r.f0 < (y : Int)) → validFrom p (rowsFrom g y n) = true := by
  intro n
  induction n with
  | zero =>
    intro y _ p _
    cases p <;> rfl
  | succ n ih =>
    intro y hy p hp
    rw [rowsFrom_succ]
    exact scan_valid g y (by omega) _ (fun p' hp' => ih (y + 1) (by omega) p' (fun r hr => by have := hp' r hr; omega)) 17 0 p (by omega) (.inr ⟨rfl, hp⟩)
/-- The runs of a grid are a region. -/
theorem runs_valid (g : Nat → Bool) : validR (runsL g) = true := by
  rw [runsL_rows]
  exact rows_valid g 16 0 (by omega) none (fun r hr => by cases hr)
/-! their area -/
end Go.Proofs.Ytbgohbinonkhfaa.Pure

/- The connected parts of a grid: the program's search through runs and the reference's search through pixels find the same. -/
namespace Go.Proofs.Ytbgohbinonkhfaa.Pure
open Go.RowKit Go.Proofs.Ytbgohbinonkhfaa.Q Go.Proofs.YtbgohbinonkhfaaW.PrintWords Go.Proofs.YtbgohbinonkhfaaW.PrintLast Go.Proofs.YtbgohbinonkhfaaW.PrintMore
set_option linter.unusedVariables false
set_option linter.unusedSimpArgs false

theorem adj_symm {q r : Nat} (h : Adj q r) : Adj r q := by unfold Adj at *; omega
theorem reach_congr {g g' : Nat → Bool} (h : ∀ p, p < 256 → g p = g' p) {s q : Nat} (hr : Q.Reach g s q) : Q.Reach g' s q := by
  induction hr with
  | here => exact .here
  | step q r _ ha h2 hg ih => exact .step q r ih ha h2 (by rw [← h r h2]; exact hg)
theorem comp_congr {g g' : Nat → Bool} (h : ∀ p, p < 256 → g p = g' p) (s q : Nat) : comp g s q = comp g' s q := by
  rw [Bool.eq_iff_iff, comp_iff, comp_iff]
  exact ⟨reach_congr h, reach_congr (fun p hp => (h p hp).symm)⟩
/-- what has been seen is a sum of parts -/
def Whole (g seen : Nat → Bool) : Prop := ∀ q r, q < 256 → r < 256 → Adj q r → g q = true → g r = true → seen q = true → seen r = true
theorem comp_rest {g seen g2 : Nat → Bool} (hw : Whole g seen) (h2 : ∀ q, q < 256 → g2 q = (g q && !(seen q))) (p : Nat) (hp : p < 256) (hg : g p = true) (hs : seen p = false) (q : Nat) : comp g2 p q = comp g p q := by
  rw [Bool.eq_iff_iff, comp_iff, comp_iff]
  constructor
  · intro h
    induction h with
    | here => exact .here
    | step q r _ ha hr hgr ih =>
      rw [h2 r hr] at hgr
      exact .step q r ih ha hr (by cases h : g r <;> simp [h] at hgr ⊢)
  · intro h
    have key : ∀ q, Q.Reach g p q → q < 256 ∧ g q = true ∧ seen q = false ∧ Q.Reach g2 p q := by
      intro q h
      induction h with
      | here => exact ⟨hp, hg, hs, .here⟩
      | step q r _ ha hr hgr ih =>
        have hsr : seen r = false := by
          rw [Bool.eq_false_iff]
          intro c
          have := hw r q hr ih.1 (adj_symm ha) hgr ih.2.1 c
          rw [ih.2.2.1] at this
          cases this
        exact ⟨hr, hgr, hsr, .step q r ih.2.2.2 ha hr (by rw [h2 r hr, hgr, hsr]; rfl)⟩
    exact (key q h).2.2.2
theorem whole_add {g seen : Nat → Bool} (hw : Whole g seen) (p : Nat) : Whole g (fun q => seen q || comp g p q) := by
  intro q r hq hr ha hgq hgr h
  have h' : (seen q || comp g p q) = true := h
  show (seen r || comp g p r) = true
  rw [Bool.or_eq_true] at h' ⊢
  rcases h' with h' | h'
  · exact .inl (hw q r hq hr ha hgq hgr h')
  · exact .inr ((comp_iff g p r).2 (.step q r ((comp_iff g p q).1 h') ha hr hgr))
theorem whole_congr {g seen seen' : Nat → Bool} (h : ∀ q, q < 256 → seen q = seen' q) (hw : Whole g seen) : Whole g seen' := by
  intro q r hq hr ha hgq hgr hs
  rw [← h r hr]
  exact hw q r hq hr ha hgq hgr (by rw [h q hq]; exact hs)
/-- the parts that begin at pixel a and later, n pixels, of what is left of a grid -/
noncomputable def partsS : Nat → Nat → (Nat → Bool) → List (List Run)
  | 0, _, _ => []
  | n + 1, a, g => if g a = true then runsL (comp g a) :: partsS n (a + 1) (fun q => g q && !(comp g a q)) else partsS n (a + 1) g
theorem parts_same (g : Nat → Bool) : ∀ (n a : Nat) (seen g2 : Nat → Bool), a + n = 256 → Whole g seen → (∀ q, q < 256 → g2 q = (g q && !(seen q))) →
    partsFrom g ((List.range' a n).filter g) seen = partsS n a g2 := by
  intro n
  induction n with
  | zero => intro a seen g2 _ _ _; rfl
  | succ n ih =>
    intro a seen g2 ha hw h2
    rw [List.range'_succ]
    have ha256 : a < 256 := by omega
    cases hg : g a with
    | false =>
      rw [List.filter_cons_of_neg (by simp [hg])]
      unfold partsS
      rw [h2 a ha256, hg, if_neg (by simp)]
      exact ih (a + 1) seen g2 (by omega) hw h2
    | true =>
      rw [List.filter_cons_of_pos hg]
      unfold partsFrom partsS
      rw [h2 a ha256, hg]
      cases hs : seen a with
      | true =>
        rw [if_pos rfl, if_neg (by simp)]
        exact ih (a + 1) seen g2 (by omega) hw h2
      | false =>
        rw [if_neg (by simp), if_pos (by simp)]
        have hc : ∀ q, comp g2 a q = comp g a q := comp_rest hw h2 a ha256 hg hs
        congr 1
        · exact (runsL_congr (fun p _ => hc p)).symm
        · refine ih (a + 1) _ _ (by omega) (whole_congr (fun q hq => ?_) (whole_add hw a)) (fun q hq => ?_)
          · rw [gso_at _ _ hq, show q / 16 * 16 + q % 16 = q by omega]
          · rw [gso_at _ _ hq, show q / 16 * 16 + q % 16 = q by omega, h2 q hq, hc q]
            cases g q <;> cases seen q <;> cases comp g a q <;> rfl
theorem partsS_congr : ∀ (n a : Nat) (g g' : Nat → Bool), a + n = 256 → (∀ q, q < 256 → g q = g' q) → partsS n a g = partsS n a g' := by
  intro n
  induction n with
  | zero => intro a g g' _ _; rfl
  | succ n ih =>
    intro a g g' ha h
    unfold partsS
    rw [h a (by omega)]
    have hc := comp_congr h a
    split
    · congr 1
      · exact runsL_congr (fun p _ => hc p)
      · exact ih _ _ _ (by omega) (fun q hq => by rw [h q hq, hc q])
    · exact ih _ _ _ (by omega) h
theorem sorted_filter (g : Nat → Bool) : ∀ (n a : Nat) (xs : List Nat), xs.Pairwise (· < ·) → (∀ q ∈ xs, a ≤ q ∧ q < a + n) → (∀ q, a ≤ q → q < a + n → (g q = true ↔ q ∈ xs)) → xs = (List.range' a n).filter g := by
  intro n
  induction n with
  | zero =>
    intro a xs _ h _
    cases xs with
    | nil => rfl
    | cons b t => have := h b (by simp); omega
  | succ n ih =>
    intro a xs hs hb hm
    rw [List.range'_succ]
    cases xs with
    | nil =>
      have hg : ¬ g a = true := fun c => by have := (hm a (by omega) (by omega)).1 c; cases this
      rw [List.filter_cons_of_neg hg]
      exact ih (a + 1) [] hs (fun q hq => by cases hq) (fun q h1 h2 => hm q (by omega) (by omega))
    | cons b t =>
      have hbt := (List.pairwise_cons.1 hs).1
      by_cases e : b = a
      · subst e
        rw [List.filter_cons_of_pos ((hm b (by omega) (by omega)).2 (by simp))]
        congr 1
        refine ih (b + 1) t (List.pairwise_cons.1 hs).2 (fun q hq => ?_) (fun q h1 h2 => ?_)
        · have h1 := hbt q hq
          have h2 := hb q (by simp [hq])
          omega
        · rw [hm q (by omega) (by omega), List.mem_cons]
          constructor
          · rintro (c | c)
            · omega
            · exact c
          · exact .inr
      · have hab : a < b := by have := hb b (by simp); omega
        have hg : ¬ g a = true := fun c => by
          have := (hm a (by omega) (by omega)).1 c
          rcases List.mem_cons.1 this with c | c
          · omega
          · have := hbt a c; omega
        rw [List.filter_cons_of_neg hg]
        refine ih (a + 1) (b :: t) hs (fun q hq => ?_) (fun q h1 h2 => hm q (by omega) (by omega))
        have h2 := hb q hq
        rcases List.mem_cons.1 hq with c | c
        · omega
        · have := hbt q c; omega
theorem pixRun_mem (r : Run) (h : runOK r = true) (q : Nat) : q ∈ pixRun r r.f1.toNat ↔ runIn r q = true := by
  have hr := (runOK_iff r).1 h
  unfold pixRun
  rw [List.mem_map]
  have hi : runIn r q = true ↔ r.f0 = ((q / 16 : Nat) : Int) ∧ r.f1 ≤ ((q % 16 : Nat) : Int) ∧ ((q % 16 : Nat) : Int) < r.f2 := by simp [runIn, and_assoc]
  rw [hi]
  constructor
  · rintro ⟨x, hx, rfl⟩
    rw [List.mem_range'_1] at hx
    omega
  · rintro ⟨h1, h2, h3⟩
    refine ⟨q % 16, ?_, by omega⟩
    rw [List.mem_range'_1]
    omega
theorem pixels_mem (l : List Run) (h : ∀ r ∈ l, runOK r = true) (q : Nat) : q ∈ pixels l ↔ gridF l q = true := by
  unfold pixels gridF
  rw [List.mem_flatMap, List.any_eq_true]
  constructor
  · rintro ⟨r, hr, hq⟩; exact ⟨r, hr, (pixRun_mem r (h r hr) q).1 hq⟩
  · rintro ⟨r, hr, hq⟩; exact ⟨r, hr, (pixRun_mem r (h r hr) q).2 hq⟩
theorem pixRun_sorted (r : Run) (x : Nat) : (pixRun r x).Pairwise (· < ·) := by
  unfold pixRun
  rw [List.pairwise_map]
  exact List.Pairwise.imp (fun h => by omega) (List.pairwise_lt_range' (s := x) (n := r.f2.toNat - x))
theorem pixels_sorted : ∀ (l : List Run) (p : Option Run), validFrom p l = true → (∀ r, p = some r → runOK r = true) → (pixels l).Pairwise (· < ·) ∧ ∀ q ∈ pixels l, ∀ r, p = some r → r.f0.toNat * 16 + r.f2.toNat ≤ q := by
  intro l
  induction l with
  | nil => intro p _ _; exact ⟨List.Pairwise.nil, fun q hq => by cases hq⟩
  | cons r l ih =>
    intro p hv hp
    have hok := validFrom_ok (r :: l) p hv
    have hr := hok r (by simp)
    have hv' : validFrom (some r) l = true := by
      cases p <;> simp [validFrom] at hv <;> exact hv.2
    have h := ih (some r) hv' (fun r' e => by cases e; exact hr)
    have hri := (runOK_iff r).1 hr
    have hcons : pixels (r :: l) = pixRun r r.f1.toNat ++ pixels l := rfl
    rw [hcons]
    have hin : ∀ q ∈ pixRun r r.f1.toNat, r.f0.toNat * 16 + r.f1.toNat ≤ q ∧ q < r.f0.toNat * 16 + r.f2.toNat := by
      intro q hq
      unfold pixRun at hq
      rw [List.mem_map] at hq
      obtain ⟨x, hx, rfl⟩ := hq
      rw [List.mem_range'_1] at hx
      omega
    refine ⟨List.pairwise_append.2 ⟨pixRun_sorted r _, h.1, fun a ha b hb => ?_⟩, fun q hq r' e => ?_⟩
    · have h1 := hin a ha
      have h2 := h.2 b hb r rfl
      omega
    · subst e
      have hr' := (runOK_iff r').1 (hp r' rfl)
      have haf : runAfter r' r = true := by simp [validFrom] at hv; exact hv.1.2
      rw [runAfter_iff] at haf
      rcases List.mem_append.1 hq with c | c
      · have := hin q c; omega
      · have := h.2 q c r rfl; omega
theorem pixels_filter {l : List Run} (h : validR l = true) : pixels l = (List.range' 0 256).filter (gridF l) := by
  have hok := valid_ok h
  refine sorted_filter _ 256 0 _ (pixels_sorted l none h (fun r e => by cases e)).1 (fun q hq => ?_) (fun q _ _ => ?_)
  · have := (pixels_mem l hok q).1 hq
    unfold gridF at this
    rw [List.any_eq_true] at this
    obtain ⟨r, hr, hi⟩ := this
    have h1 := (runOK_iff r).1 (hok r hr)
    have h2 : r.f0 = ((q / 16 : Nat) : Int) := by simp [runIn] at hi; omega
    omega
  · exact (pixels_mem l hok q).symm
theorem parts_valid {l : List Run} (h : validR l = true) : partsFrom (gridF l) (pixels l) (fun _ => false) = partsS 256 0 (gridF l) := by
  rw [pixels_filter h]
  exact parts_same _ 256 0 _ _ (by omega) (fun q r _ _ _ _ _ c => by cases c) (fun q _ => by simp)
theorem partsS_len : ∀ (n a : Nat) (g : Nat → Bool), (partsS n a g).length ≤ n := by
  intro n
  induction n with
  | zero => intro a g; exact Nat.le_refl _
  | succ n ih =>
    intro a g
    unfold partsS
    split
    · rw [List.length_cons]; have := ih (a + 1) (fun q => g q && !(comp g a q)); omega
    · have := ih (a + 1) g; omega
theorem partsS_each : ∀ (n a : Nat) (g : Nat → Bool), ∀ r ∈ partsS n a g, ∃ f, r = runsL f := by
  intro n
  induction n with
  | zero => intro a g r hr; cases hr
  | succ n ih =>
    intro a g r hr
    unfold partsS at hr
    split at hr
    · rcases List.mem_cons.1 hr with c | c
      · exact ⟨_, c⟩
      · exact ih _ _ r c
    · exact ih _ _ r hr
theorem runsL_ne (g : Nat → Bool) (p : Nat) (hp : p < 256) (h : g p = true) : runsL g ≠ [] := by
  intro e
  have := grid_runs g p hp
  rw [e, h] at this
  cases this
theorem partsS_ne : ∀ (n a : Nat) (g : Nat → Bool), a + n ≤ 256 → ∀ r ∈ partsS n a g, r ≠ [] := by
  intro n
  induction n with
  | zero => intro a g _ r hr; cases hr
  | succ n ih =>
    intro a g ha r hr
    unfold partsS at hr
    split at hr
    · rcases List.mem_cons.1 hr with c | c
      · rw [c]
        exact runsL_ne _ a (by omega) ((comp_iff g a a).2 .here)
      · exact ih _ _ (by omega) r c
    · exact ih _ _ (by omega) r hr
theorem parts_runs (g : Nat → Bool) : partsFrom (gridF (runsL g)) (pixels (runsL g)) (fun _ => false) = partsS 256 0 g := by
  rw [parts_valid (runs_valid g)]
  exact partsS_congr 256 0 _ _ (by omega) (fun q hq => grid_runs g q hq)
end Go.Proofs.Ytbgohbinonkhfaa.Pure

/- impl.ChangedBoxes: the bounds of the parts of the region in which two images differ. -/
namespace Go.Proofs.Ytbgohbinonkhfaa.Q
open Go.RowKit Go.Proofs.YtbgohbinonkhfaaW.PrintWords Go.Proofs.YtbgohbinonkhfaaW.PrintLast Go.Proofs.YtbgohbinonkhfaaW.PrintMore
attribute [local go_sem] max2_int min2_int max_two min_two max_three min_three max_four min_four
set_option linter.unusedVariables false
set_option linter.unusedSimpArgs false
open Go.Proofs.Ytbgohbinonkhfaa.Pure

def boxB (l : List S47) : S60 := ⟨(boundsR l).1, (boundsR l).2.1, (boundsR l).2.2.1, (boundsR l).2.2.2⟩
noncomputable def impl_ChangedBoxes.f (a b p : Int) (d1 : List Int) (a' b' p' : Int) (d2 : List Int) : Option (List S60) := some (if sameV a b p d1 a' b' p' d2 = true then (partsS 256 0 (gso (chg a b p d1 d2) 256)).map boxB else [])

set_option maxHeartbeats 2000000 in
set_option maxRecDepth 100000 in
theorem impl_ChangedBoxes.calls (a b p : Int) (A1 : Option Addr) (c1 : Nat) (d1 : List Int) (a' b' p' : Int) (A2 : Option Addr) (c2 : Nat) (d2 : List Int) (r : List S60) (w : World) (hr0_3 : Kd.C (Kd.int .i64) w A1 d1.length d1) (hc0_3 : d1.length ≤ c1) (hr1_3 : Kd.C (Kd.int .i64) w A2 d2.length d2) (hc1_3 : d2.length ≤ c2) (h : impl_ChangedBoxes.f a b p d1 a' b' p' d2 = some r) :
    Calls Try.prog 33 #[.agg #[.int .i64 a, .int .i64 b, .int .i64 p, .slice A1 d1.length c1], .agg #[.int .i64 a', .int .i64 b', .int .i64 p', .slice A2 d2.length c2]] w fun e w' => ∃ v0_ : Value, e = .returned (v0_) ∧ Kd.R k60 60 w' w.heap.size (fun _ => True) v0_ r ∧ Below w.heap.size w w' := by
  obtain rfl := Option.some.inj h
  clear h
  have HC1 := Aside0.mk hc0_3
  have HC2 := Aside0.mk hc1_3
  have HR1 := Aside0.mk hr0_3
  have HR2 := Aside0.mk hr1_3
  have HB0 := Aside0.mk (Below.refl w.heap.size w)
  have E1 := Aside0.mk (impl_isImage_eq a b p d1)
  have E2 := Aside0.mk (impl_isImage_eq a' b' p' d2)
  have E3 := Aside0.mk (impl_alike_eq a b p d1 a' b' p' d2)
  clear hr0_3 hc0_3 hr1_3 hc1_3
  have hu := Try.underlying28
  cases hv1 : validI a b p d1 with
  | false =>
    rw [show sameV a b p d1 a' b' p' d2 = false from by unfold sameV; rw [hv1, Bool.false_and], if_neg (by simp)]
    rw [hv1] at E1
    clear hv1
    go_enter Try.func33, Try.ntmps33
    go_wp2_with (first
      | ((with_reducible refine gate_dst (N := 2) rfl ?_); refine box_event ?hg (N := 2) ?hd (cs := #[.int .i64 a, .int .i64 b, .int .i64 p, .slice A1 d1.length c1]) (t := 28) ?hr ?_; (case hd => rfl); (case hg => rfl); (case hr => first | (go_simp; done) | (go_simp; rfl)); intro g1 hg_ w1 hbox hb; have HB1 := Aside0.mk (below_then HB0.out HB0.out.size hb); have K1 := Aside0.mk hbox; have Gg1 := Aside0.mk (show w.heap.size ≤ g1 from by rw [hg_]; exact HB0.out.size); clear hbox hb hg_)
      | ((with_reducible refine gate_dst (N := 3) rfl ?_); refine box_event ?hg (N := 3) ?hd (cs := #[.int .i64 a', .int .i64 b', .int .i64 p', .slice A2 d2.length c2]) (t := 28) ?hr ?_; (case hd => rfl); (case hg => rfl); (case hr => first | (go_simp; done) | (go_simp; rfl)); intro g2 hg_ w2 hbox hb; have HB2 := Aside0.mk (below_then HB1.out HB1.out.size hb); have K2 := Aside0.mk hbox; have K1b := Aside0.mk (blk_below K1.out hb); have Gg2 := Aside0.mk (show w.heap.size ≤ g2 from by rw [hg_]; exact HB1.out.size); have M1 := K1b; have M2 := K2; have f0 : w2.cell? ⟨g1, 0, none⟩ = some (.int .i64 a) := (blk_cell K1b.out 0).trans rfl; have f1 : w2.cell? ⟨g1, 1, none⟩ = some (.int .i64 b) := (blk_cell K1b.out 1).trans rfl; have f2 : w2.cell? ⟨g1, 2, none⟩ = some (.int .i64 p) := (blk_cell K1b.out 2).trans rfl; have f3 : w2.cell? ⟨g1, 3, none⟩ = some (.slice A1 d1.length c1) := (blk_cell K1b.out 3).trans rfl; have e0 : w2.cell? ⟨g2, 0, none⟩ = some (.int .i64 a') := (blk_cell K2.out 0).trans rfl; have e1 : w2.cell? ⟨g2, 1, none⟩ = some (.int .i64 b') := (blk_cell K2.out 1).trans rfl; have e2 : w2.cell? ⟨g2, 2, none⟩ = some (.int .i64 p') := (blk_cell K2.out 2).trans rfl; have e3 : w2.cell? ⟨g2, 3, none⟩ = some (.slice A2 d2.length c2) := (blk_cell K2.out 3).trans rfl; clear hbox hb hg_)
      | (go_at_call 48; (with_reducible refine (impl_isImage.calls a b p A1 c1 d1 _ w2 (Kd.C_below HR1.out HB2.out) HC1.out E1.out).mono ?_); rintro e w3 ⟨rfl, hb_⟩; have HB3 := Aside0.mk (below_then HB2.out HB2.out.size hb_); have N1 := Aside0.mk (blk_below M1.out hb_); have N2 := Aside0.mk (blk_below M2.out hb_); have fw30 : w3.cell? ⟨g1, 0, none⟩ = some (.int .i64 a) := (blk_cell N1.out 0).trans rfl; have fw31 : w3.cell? ⟨g1, 1, none⟩ = some (.int .i64 b) := (blk_cell N1.out 1).trans rfl; have fw32 : w3.cell? ⟨g1, 2, none⟩ = some (.int .i64 p) := (blk_cell N1.out 2).trans rfl; have fw33 : w3.cell? ⟨g1, 3, none⟩ = some (.slice A1 d1.length c1) := (blk_cell N1.out 3).trans rfl; have ew30 : w3.cell? ⟨g2, 0, none⟩ = some (.int .i64 a') := (blk_cell N2.out 0).trans rfl; have ew31 : w3.cell? ⟨g2, 1, none⟩ = some (.int .i64 b') := (blk_cell N2.out 1).trans rfl; have ew32 : w3.cell? ⟨g2, 2, none⟩ = some (.int .i64 p') := (blk_cell N2.out 2).trans rfl; have ew33 : w3.cell? ⟨g2, 3, none⟩ = some (.slice A2 d2.length c2) := (blk_cell N2.out 3).trans rfl; clear hb_))
    go_ret
    exact ⟨_, rfl, Kd.R_nil _ _ _ _ _, HB3.out⟩
  | true =>
    rw [hv1] at E1
    cases hv2 : validI a' b' p' d2 with
    | false =>
      rw [show sameV a b p d1 a' b' p' d2 = false from by unfold sameV; rw [hv2, Bool.false_and, Bool.and_false], if_neg (by simp)]
      rw [hv2] at E2
      clear hv1 hv2
      go_enter Try.func33, Try.ntmps33
      go_wp2_with (first
        | ((with_reducible refine gate_dst (N := 2) rfl ?_); refine box_event ?hg (N := 2) ?hd (cs := #[.int .i64 a, .int .i64 b, .int .i64 p, .slice A1 d1.length c1]) (t := 28) ?hr ?_; (case hd => rfl); (case hg => rfl); (case hr => first | (go_simp; done) | (go_simp; rfl)); intro g1 hg_ w1 hbox hb; have HB1 := Aside0.mk (below_then HB0.out HB0.out.size hb); have K1 := Aside0.mk hbox; have Gg1 := Aside0.mk (show w.heap.size ≤ g1 from by rw [hg_]; exact HB0.out.size); clear hbox hb hg_)
        | ((with_reducible refine gate_dst (N := 3) rfl ?_); refine box_event ?hg (N := 3) ?hd (cs := #[.int .i64 a', .int .i64 b', .int .i64 p', .slice A2 d2.length c2]) (t := 28) ?hr ?_; (case hd => rfl); (case hg => rfl); (case hr => first | (go_simp; done) | (go_simp; rfl)); intro g2 hg_ w2 hbox hb; have HB2 := Aside0.mk (below_then HB1.out HB1.out.size hb); have K2 := Aside0.mk hbox; have K1b := Aside0.mk (blk_below K1.out hb); have Gg2 := Aside0.mk (show w.heap.size ≤ g2 from by rw [hg_]; exact HB1.out.size); have M1 := K1b; have M2 := K2; have f0 : w2.cell? ⟨g1, 0, none⟩ = some (.int .i64 a) := (blk_cell K1b.out 0).trans rfl; have f1 : w2.cell? ⟨g1, 1, none⟩ = some (.int .i64 b) := (blk_cell K1b.out 1).trans rfl; have f2 : w2.cell? ⟨g1, 2, none⟩ = some (.int .i64 p) := (blk_cell K1b.out 2).trans rfl; have f3 : w2.cell? ⟨g1, 3, none⟩ = some (.slice A1 d1.length c1) := (blk_cell K1b.out 3).trans rfl; have e0 : w2.cell? ⟨g2, 0, none⟩ = some (.int .i64 a') := (blk_cell K2.out 0).trans rfl; have e1 : w2.cell? ⟨g2, 1, none⟩ = some (.int .i64 b') := (blk_cell K2.out 1).trans rfl; have e2 : w2.cell? ⟨g2, 2, none⟩ = some (.int .i64 p') := (blk_cell K2.out 2).trans rfl; have e3 : w2.cell? ⟨g2, 3, none⟩ = some (.slice A2 d2.length c2) := (blk_cell K2.out 3).trans rfl; clear hbox hb hg_)
        | (go_at_call 48; (with_reducible refine (impl_isImage.calls a b p A1 c1 d1 _ w2 (Kd.C_below HR1.out HB2.out) HC1.out E1.out).mono ?_); rintro e w3 ⟨rfl, hb_⟩; have HB3 := Aside0.mk (below_then HB2.out HB2.out.size hb_); have N1 := Aside0.mk (blk_below M1.out hb_); have N2 := Aside0.mk (blk_below M2.out hb_); have fw30 : w3.cell? ⟨g1, 0, none⟩ = some (.int .i64 a) := (blk_cell N1.out 0).trans rfl; have fw31 : w3.cell? ⟨g1, 1, none⟩ = some (.int .i64 b) := (blk_cell N1.out 1).trans rfl; have fw32 : w3.cell? ⟨g1, 2, none⟩ = some (.int .i64 p) := (blk_cell N1.out 2).trans rfl; have fw33 : w3.cell? ⟨g1, 3, none⟩ = some (.slice A1 d1.length c1) := (blk_cell N1.out 3).trans rfl; have ew30 : w3.cell? ⟨g2, 0, none⟩ = some (.int .i64 a') := (blk_cell N2.out 0).trans rfl; have ew31 : w3.cell? ⟨g2, 1, none⟩ = some (.int .i64 b') := (blk_cell N2.out 1).trans rfl; have ew32 : w3.cell? ⟨g2, 2, none⟩ = some (.int .i64 p') := (blk_cell N2.out 2).trans rfl; have ew33 : w3.cell? ⟨g2, 3, none⟩ = some (.slice A2 d2.length c2) := (blk_cell N2.out 3).trans rfl; clear hb_)
        | (go_at_call 48; (with_reducible refine (impl_isImage.calls a' b' p' A2 c2 d2 _ w3 (Kd.C_below HR2.out HB3.out) HC2.out E2.out).mono ?_); rintro e w4 ⟨rfl, hb_⟩; have HB4 := Aside0.mk (below_then HB3.out HB3.out.size hb_); have O1 := Aside0.mk (blk_below N1.out hb_); have O2 := Aside0.mk (blk_below N2.out hb_); have fw40 : w4.cell? ⟨g1, 0, none⟩ = some (.int .i64 a) := (blk_cell O1.out 0).trans rfl; have fw41 : w4.cell? ⟨g1, 1, none⟩ = some (.int .i64 b) := (blk_cell O1.out 1).trans rfl; have fw42 : w4.cell? ⟨g1, 2, none⟩ = some (.int .i64 p) := (blk_cell O1.out 2).trans rfl; have fw43 : w4.cell? ⟨g1, 3, none⟩ = some (.slice A1 d1.length c1) := (blk_cell O1.out 3).trans rfl; have ew40 : w4.cell? ⟨g2, 0, none⟩ = some (.int .i64 a') := (blk_cell O2.out 0).trans rfl; have ew41 : w4.cell? ⟨g2, 1, none⟩ = some (.int .i64 b') := (blk_cell O2.out 1).trans rfl; have ew42 : w4.cell? ⟨g2, 2, none⟩ = some (.int .i64 p') := (blk_cell O2.out 2).trans rfl; have ew43 : w4.cell? ⟨g2, 3, none⟩ = some (.slice A2 d2.length c2) := (blk_cell O2.out 3).trans rfl; clear hb_))
      go_ret
      exact ⟨_, rfl, Kd.R_nil _ _ _ _ _, HB4.out⟩
    | true =>
      rw [hv2] at E2
      have es : sameV a b p d1 a' b' p' d2 = decide (a = a' ∧ b = b' ∧ p = p') := by unfold sameV; rw [hv1, hv2, Bool.true_and, Bool.true_and]
      by_cases hs : a = a' ∧ b = b' ∧ p = p'
      · rw [es, decide_eq_true hs, if_pos rfl]
        rw [decide_eq_true hs] at E3
        obtain ⟨rfl, rfl, rfl⟩ := hs
        have HV1 := Aside0.mk hv1
        have HV2 := Aside0.mk hv2
        clear hv1 hv2 es
        have HOK := Aside0.mk (valid_ranges (runs_valid (gso (chg a b p d1 d2) 256)))
        have HPR := Aside0.mk (parts_runs (gso (chg a b p d1 d2) 256))
        have HLL := Aside0.mk (partsS_len 256 0 (gso (chg a b p d1 d2) 256))
        have HBN := Aside0.mk (fun (r : List S47) (hr : r ∈ partsS 256 0 (gso (chg a b p d1 d2) 256)) => show impl_bounds.f (272 + 1) r = some ((boundsR r).1, (boundsR r).2.1, (boundsR r).2.2.1, (boundsR r).2.2.2) from by
          obtain ⟨f, hf⟩ := partsS_each 256 0 _ r hr
          have hl : r.length ≤ 272 := by rw [hf]; exact runsL_len f
          exact impl_bounds_eq r (partsS_ne 256 0 _ (by omega) r hr) (by omega) (by rw [hf]; exact valid_ok (runs_valid f)) _ (by omega))
        generalize partsS 256 0 (gso (chg a b p d1 d2) 256) = L at HPR HLL HBN ⊢
        have hL := HLL.out
        go_enter Try.func33, Try.ntmps33
        go_wp2_with (first
          | ((with_reducible refine gate_dst (N := 2) rfl ?_); refine box_event ?hg (N := 2) ?hd (cs := #[.int .i64 a, .int .i64 b, .int .i64 p, .slice A1 d1.length c1]) (t := 28) ?hr ?_; (case hd => rfl); (case hg => rfl); (case hr => first | (go_simp; done) | (go_simp; rfl)); intro g1 hg_ w1 hbox hb; have HB1 := Aside0.mk (below_then HB0.out HB0.out.size hb); have K1 := Aside0.mk hbox; have Gg1 := Aside0.mk (show w.heap.size ≤ g1 from by rw [hg_]; exact HB0.out.size); clear hbox hb hg_)
          | ((with_reducible refine gate_dst (N := 3) rfl ?_); refine box_event ?hg (N := 3) ?hd (cs := #[.int .i64 a, .int .i64 b, .int .i64 p, .slice A2 d2.length c2]) (t := 28) ?hr ?_; (case hd => rfl); (case hg => rfl); (case hr => first | (go_simp; done) | (go_simp; rfl)); intro g2 hg_ w2 hbox hb; have HB2 := Aside0.mk (below_then HB1.out HB1.out.size hb); have K2 := Aside0.mk hbox; have K1b := Aside0.mk (blk_below K1.out hb); have Gg2 := Aside0.mk (show w.heap.size ≤ g2 from by rw [hg_]; exact HB1.out.size); have M1 := K1b; have M2 := K2; have f0 : w2.cell? ⟨g1, 0, none⟩ = some (.int .i64 a) := (blk_cell K1b.out 0).trans rfl; have f1 : w2.cell? ⟨g1, 1, none⟩ = some (.int .i64 b) := (blk_cell K1b.out 1).trans rfl; have f2 : w2.cell? ⟨g1, 2, none⟩ = some (.int .i64 p) := (blk_cell K1b.out 2).trans rfl; have f3 : w2.cell? ⟨g1, 3, none⟩ = some (.slice A1 d1.length c1) := (blk_cell K1b.out 3).trans rfl; have e0 : w2.cell? ⟨g2, 0, none⟩ = some (.int .i64 a) := (blk_cell K2.out 0).trans rfl; have e1 : w2.cell? ⟨g2, 1, none⟩ = some (.int .i64 b) := (blk_cell K2.out 1).trans rfl; have e2 : w2.cell? ⟨g2, 2, none⟩ = some (.int .i64 p) := (blk_cell K2.out 2).trans rfl; have e3 : w2.cell? ⟨g2, 3, none⟩ = some (.slice A2 d2.length c2) := (blk_cell K2.out 3).trans rfl; clear hbox hb hg_)
          | (go_at_call 48; (with_reducible refine (impl_isImage.calls a b p A1 c1 d1 _ w2 (Kd.C_below HR1.out HB2.out) HC1.out E1.out).mono ?_); rintro e w3 ⟨rfl, hb_⟩; have HB3 := Aside0.mk (below_then HB2.out HB2.out.size hb_); have N1 := Aside0.mk (blk_below M1.out hb_); have N2 := Aside0.mk (blk_below M2.out hb_); have fw30 : w3.cell? ⟨g1, 0, none⟩ = some (.int .i64 a) := (blk_cell N1.out 0).trans rfl; have fw31 : w3.cell? ⟨g1, 1, none⟩ = some (.int .i64 b) := (blk_cell N1.out 1).trans rfl; have fw32 : w3.cell? ⟨g1, 2, none⟩ = some (.int .i64 p) := (blk_cell N1.out 2).trans rfl; have fw33 : w3.cell? ⟨g1, 3, none⟩ = some (.slice A1 d1.length c1) := (blk_cell N1.out 3).trans rfl; have ew30 : w3.cell? ⟨g2, 0, none⟩ = some (.int .i64 a) := (blk_cell N2.out 0).trans rfl; have ew31 : w3.cell? ⟨g2, 1, none⟩ = some (.int .i64 b) := (blk_cell N2.out 1).trans rfl; have ew32 : w3.cell? ⟨g2, 2, none⟩ = some (.int .i64 p) := (blk_cell N2.out 2).trans rfl; have ew33 : w3.cell? ⟨g2, 3, none⟩ = some (.slice A2 d2.length c2) := (blk_cell N2.out 3).trans rfl; clear hb_)
          | (go_at_call 48; (with_reducible refine (impl_isImage.calls a b p A2 c2 d2 _ w3 (Kd.C_below HR2.out HB3.out) HC2.out E2.out).mono ?_); rintro e w4 ⟨rfl, hb_⟩; have HB4 := Aside0.mk (below_then HB3.out HB3.out.size hb_); have O1 := Aside0.mk (blk_below N1.out hb_); have O2 := Aside0.mk (blk_below N2.out hb_); have fw40 : w4.cell? ⟨g1, 0, none⟩ = some (.int .i64 a) := (blk_cell O1.out 0).trans rfl; have fw41 : w4.cell? ⟨g1, 1, none⟩ = some (.int .i64 b) := (blk_cell O1.out 1).trans rfl; have fw42 : w4.cell? ⟨g1, 2, none⟩ = some (.int .i64 p) := (blk_cell O1.out 2).trans rfl; have fw43 : w4.cell? ⟨g1, 3, none⟩ = some (.slice A1 d1.length c1) := (blk_cell O1.out 3).trans rfl; have ew40 : w4.cell? ⟨g2, 0, none⟩ = some (.int .i64 a) := (blk_cell O2.out 0).trans rfl; have ew41 : w4.cell? ⟨g2, 1, none⟩ = some (.int .i64 b) := (blk_cell O2.out 1).trans rfl; have ew42 : w4.cell? ⟨g2, 2, none⟩ = some (.int .i64 p) := (blk_cell O2.out 2).trans rfl; have ew43 : w4.cell? ⟨g2, 3, none⟩ = some (.slice A2 d2.length c2) := (blk_cell O2.out 3).trans rfl; clear hb_)
          | (go_at_call 49; (with_reducible refine (impl_alikeImages.calls a b p A1 c1 d1 a b p A2 c2 d2 _ w4 (Kd.C_below HR1.out HB4.out) HC1.out (Kd.C_below HR2.out HB4.out) HC2.out E3.out).mono ?_); rintro e w5 ⟨rfl, hb_⟩; have HB5 := Aside0.mk (below_then HB4.out HB4.out.size hb_); have P1 := Aside0.mk (blk_below O1.out hb_); have P2 := Aside0.mk (blk_below O2.out hb_); have fw50 : w5.cell? ⟨g1, 0, none⟩ = some (.int .i64 a) := (blk_cell P1.out 0).trans rfl; have fw51 : w5.cell? ⟨g1, 1, none⟩ = some (.int .i64 b) := (blk_cell P1.out 1).trans rfl; have fw52 : w5.cell? ⟨g1, 2, none⟩ = some (.int .i64 p) := (blk_cell P1.out 2).trans rfl; have fw53 : w5.cell? ⟨g1, 3, none⟩ = some (.slice A1 d1.length c1) := (blk_cell P1.out 3).trans rfl; have ew50 : w5.cell? ⟨g2, 0, none⟩ = some (.int .i64 a) := (blk_cell P2.out 0).trans rfl; have ew51 : w5.cell? ⟨g2, 1, none⟩ = some (.int .i64 b) := (blk_cell P2.out 1).trans rfl; have ew52 : w5.cell? ⟨g2, 2, none⟩ = some (.int .i64 p) := (blk_cell P2.out 2).trans rfl; have ew53 : w5.cell? ⟨g2, 3, none⟩ = some (.slice A2 d2.length c2) := (blk_cell P2.out 3).trans rfl; clear hb_)
          | ((with_reducible refine gate_dst (N := 22) rfl ?_); refine Kd.R_lit k60 w.heap.size 60 ?hg (N := 22) ?hd (xs := ([] : List S60)) (inner := []) (ok := fun _ => True) (okp := fun _ => True) ?hr ?hp (fun _ hk => hk) trivial HB5.out HB5.out.size (by simp) ?_; (case hd => rfl); (case hg => rfl); (case hr => first | (go_simp; done) | (go_simp; rfl)); (case hp => exact (Reps.none _ _)); intro v22 w6 ho hb hg_ hnew_; have HV6 := Aside0.mk ho; have HB6 := Aside0.mk hb; have Q1 := Aside0.mk (blk_grown P1.out hg_ (by simp)); have Q2 := Aside0.mk (blk_grown P2.out hg_ (by simp)); have fq0 : w6.cell? ⟨g1, 0, none⟩ = some (.int .i64 a) := (blk_cell Q1.out 0).trans rfl; have fq1 : w6.cell? ⟨g1, 1, none⟩ = some (.int .i64 b) := (blk_cell Q1.out 1).trans rfl; have fq2 : w6.cell? ⟨g1, 2, none⟩ = some (.int .i64 p) := (blk_cell Q1.out 2).trans rfl; have fq3 : w6.cell? ⟨g1, 3, none⟩ = some (.slice A1 d1.length c1) := (blk_cell Q1.out 3).trans rfl; have eq0 : w6.cell? ⟨g2, 0, none⟩ = some (.int .i64 a) := (blk_cell Q2.out 0).trans rfl; have eq1 : w6.cell? ⟨g2, 1, none⟩ = some (.int .i64 b) := (blk_cell Q2.out 1).trans rfl; have eq2 : w6.cell? ⟨g2, 2, none⟩ = some (.int .i64 p) := (blk_cell Q2.out 2).trans rfl; have eq3 : w6.cell? ⟨g2, 3, none⟩ = some (.slice A2 d2.length c2) := (blk_cell Q2.out 3).trans rfl; clear ho hb hg_ hnew_)
          | (go_at_call 50; (with_reducible refine (changed_calls a b p A1 A2 c1 c2 d1 d2 HV1.out HV2.out HC1.out HC2.out w6 (Kd.C_below HR1.out HB6.out) (Kd.C_below HR2.out HB6.out)).mono ?_); rintro e w7 ⟨v7, rfl, hr7, hb7⟩; have HB7 := Aside0.mk (below_then HB6.out HB6.out.size hb7); have HV7 := Aside0.mk (Kd.R_below HV6.out hb7); obtain ⟨A7, c7, rfl, hl7, hC7⟩ := Kd.R_reads hr7; have HR7 := Aside0.mk hC7; clear hb7 hr7 hC7 hl7)
          | (go_at_call 75; (with_reducible refine (partsOf_calls _ _ _ w7 HR7.out HOK.out).mono ?_); rintro e w8 ⟨v8, rfl, hr8, hb8⟩; rw [HPR.out] at hr8; have HB8 := Aside0.mk (below_then HB7.out HB7.out.size hb8); have HV8 := Aside0.mk (Kd.R_below HV7.out hb8); have HS8 := Aside0.mk (Kd.S_lower hr8 HB7.out.size); obtain ⟨A8, c8, rfl⟩ := Kd.S_slice hr8; clear hb8 hr8))
        go_loopw [5, 28] (fun v5 v28 W => ∃ i : Nat, v28 = .int .i64 i ∧ i ≤ L.length ∧ Aside0 (Kd.R k60 60 W w.heap.size (fun _ => True) v5 ((L.take i).map boxB) ∧ Kd.S (Kd.slice 47 k47) 26 W w.heap.size (fun _ => True) (.slice A8 L.length c8) L ∧ Below w.heap.size w W)) (fun _ v28 _ => L.length - (intOf v28).toNat)
        case atStart => exact ⟨0, rfl, by omega, ⟨HV8.out, HS8.out, HB8.out⟩⟩
        case round =>
          obtain ⟨i, rfl, hi, HV⟩ := hrel
          obtain ⟨wo, rfl⟩ : ∃ wo : World, wo = wr := ⟨_, rfl⟩
          by_cases hlt : i < L.length
          · have q1 : decide ((i : Int) < (L.length : Int)) = true := decide_eq_true (by omega)
            obtain ⟨g8, cap8, h8, _⟩ := Kd.S_form HV.out.2.1 (by omega)
            injection h8 with h8a h8b h8c
            subst h8a h8c
            clear h8b
            obtain ⟨cs, _, hM, hcell⟩ := Kd.S_get HV.out.2.1 ([] : List S47) (i : Int) (by omega) (by omega)
            rw [Int.toNat_natCast] at hM
            have hmem : L.getD i [] ∈ L := by rw [List.getD_eq_getElem?_getD, List.getElem?_eq_getElem hlt]; exact List.getElem_mem hlt
            have htk : (L.take (i + 1)).map boxB = (L.take i).map boxB ++ [boxB (L.getD i [])] := by
              rw [List.take_succ_eq_append_getElem hlt, List.map_append, List.getD_eq_getElem?_getD, List.getElem?_eq_getElem hlt]; rfl
            have HBD := Aside0.mk (HBN.out _ hmem)
            have HTK := Aside0.mk htk
            clear hmem htk
            generalize L.getD i [] = xi at hM HBD HTK
            obtain ⟨vi, rfl, hRi⟩ := hM
            obtain ⟨Ai, ci, rfl, hli, hCi⟩ := Kd.R_reads hRi
            have hce : wo.cell? ((⟨g8, 0, none⟩ : Addr).add (i * 1 + 0)) = some (.slice Ai xi.length ci) := hcell 0 _ rfl
            rw [Nat.mul_one, Nat.add_zero] at hce
            have hce' : wo.cell? ⟨g8, i, none⟩ = some (.slice Ai xi.length ci) := by
              have e : (⟨g8, 0, none⟩ : Addr).add i = ⟨g8, i, none⟩ := by unfold Addr.add; split <;> simp_all
              rw [e] at hce
              exact hce
            have HLI := Aside0.mk hli
            have HCI := Aside0.mk hCi
            clear hcell hce hRi hli hCi hi
            go_wp2_with (first
              | (go_at_call 78; (with_reducible refine (impl_bounds.calls _ Ai ci xi _ _ _ _ wo HCI.out HLI.out HBD.out).mono ?_); rintro e w9 ⟨rfl, hb9⟩; have HB9 := Aside0.mk (below_then HV.out.2.2 HV.out.2.2.size hb9); have HO9 := Aside0.mk (Kd.R_below HV.out.1 hb9); have HS9 := Aside0.mk (Kd.S_below HV.out.2.1 hb9); clear hb9)
              | ((with_reducible refine gate_builtin (b := .append) (xs := #[.tmp 32, .tmp 35]) rfl ?_); at_builtin; refine Kd.R_append k60 (w0 := w) w.heap.size rfl (.tmp 32) (.tmp 35) 53 60 (.agg #[(.int .i64 0), (.int .i64 0), (.int .i64 0), (.int .i64 0)]) 32 rfl Try.underlying53 info60 rfl (by decide) (by omega) u5 ((L.take i).map boxB) (boxB xi) [.int .i64 (boundsR xi).1, .int .i64 (boundsR xi).2.1, .int .i64 (boundsR xi).2.2.1, .int .i64 (boundsR xi).2.2.2] (fun _ => True) (fun _ => False) rfl ?aX ?aP (fun _ hk => hk.elim) (fun _ _ => trivial) HO9.out HB9.out HB9.out.size ?aL ?_; (case aX => first | rfl | (go_simp; done) | (simp; done)); (case aP => exact k60_mkM _ _ _ (boxB xi)); (case aL => (have hl_ := HLL.out; rw [List.length_map, List.length_take]; omega)); intro v10 w10 ho hb hg hat; have HO10 := Aside0.mk ho; have HB10 := Aside0.mk hb; have HS10 := Aside0.mk (Kd.S_over' HS9.out (Kd.R_typed HO9.out) (by decide) hg); clear ho hb hg hat))
            go_roundw
            case rel => exact ⟨i + 1, by go_num, by omega, ⟨by rw [HTK.out]; exact HO10.out, HS10.out, HB10.out⟩⟩
            case measure => simp [intOf]; omega
          · have q1 : decide ((i : Int) < (L.length : Int)) = false := decide_eq_false (by omega)
            go_wp2
            go_ret
            exact ⟨_, rfl, by have h := HV.out.1; rw [List.take_of_length_le (by omega)] at h; exact h, HV.out.2.2⟩
      · rw [es, decide_eq_false hs, if_neg (by simp)]
        rw [decide_eq_false hs] at E3
        clear hv1 hv2 es hs
        go_enter Try.func33, Try.ntmps33
        go_wp2_with (first
          | ((with_reducible refine gate_dst (N := 2) rfl ?_); refine box_event ?hg (N := 2) ?hd (cs := #[.int .i64 a, .int .i64 b, .int .i64 p, .slice A1 d1.length c1]) (t := 28) ?hr ?_; (case hd => rfl); (case hg => rfl); (case hr => first | (go_simp; done) | (go_simp; rfl)); intro g1 hg_ w1 hbox hb; have HB1 := Aside0.mk (below_then HB0.out HB0.out.size hb); have K1 := Aside0.mk hbox; have Gg1 := Aside0.mk (show w.heap.size ≤ g1 from by rw [hg_]; exact HB0.out.size); clear hbox hb hg_)
          | ((with_reducible refine gate_dst (N := 3) rfl ?_); refine box_event ?hg (N := 3) ?hd (cs := #[.int .i64 a', .int .i64 b', .int .i64 p', .slice A2 d2.length c2]) (t := 28) ?hr ?_; (case hd => rfl); (case hg => rfl); (case hr => first | (go_simp; done) | (go_simp; rfl)); intro g2 hg_ w2 hbox hb; have HB2 := Aside0.mk (below_then HB1.out HB1.out.size hb); have K2 := Aside0.mk hbox; have K1b := Aside0.mk (blk_below K1.out hb); have Gg2 := Aside0.mk (show w.heap.size ≤ g2 from by rw [hg_]; exact HB1.out.size); have M1 := K1b; have M2 := K2; have f0 : w2.cell? ⟨g1, 0, none⟩ = some (.int .i64 a) := (blk_cell K1b.out 0).trans rfl; have f1 : w2.cell? ⟨g1, 1, none⟩ = some (.int .i64 b) := (blk_cell K1b.out 1).trans rfl; have f2 : w2.cell? ⟨g1, 2, none⟩ = some (.int .i64 p) := (blk_cell K1b.out 2).trans rfl; have f3 : w2.cell? ⟨g1, 3, none⟩ = some (.slice A1 d1.length c1) := (blk_cell K1b.out 3).trans rfl; have e0 : w2.cell? ⟨g2, 0, none⟩ = some (.int .i64 a') := (blk_cell K2.out 0).trans rfl; have e1 : w2.cell? ⟨g2, 1, none⟩ = some (.int .i64 b') := (blk_cell K2.out 1).trans rfl; have e2 : w2.cell? ⟨g2, 2, none⟩ = some (.int .i64 p') := (blk_cell K2.out 2).trans rfl; have e3 : w2.cell? ⟨g2, 3, none⟩ = some (.slice A2 d2.length c2) := (blk_cell K2.out 3).trans rfl; clear hbox hb hg_)
          | (go_at_call 48; (with_reducible refine (impl_isImage.calls a b p A1 c1 d1 _ w2 (Kd.C_below HR1.out HB2.out) HC1.out E1.out).mono ?_); rintro e w3 ⟨rfl, hb_⟩; have HB3 := Aside0.mk (below_then HB2.out HB2.out.size hb_); have N1 := Aside0.mk (blk_below M1.out hb_); have N2 := Aside0.mk (blk_below M2.out hb_); have fw30 : w3.cell? ⟨g1, 0, none⟩ = some (.int .i64 a) := (blk_cell N1.out 0).trans rfl; have fw31 : w3.cell? ⟨g1, 1, none⟩ = some (.int .i64 b) := (blk_cell N1.out 1).trans rfl; have fw32 : w3.cell? ⟨g1, 2, none⟩ = some (.int .i64 p) := (blk_cell N1.out 2).trans rfl; have fw33 : w3.cell? ⟨g1, 3, none⟩ = some (.slice A1 d1.length c1) := (blk_cell N1.out 3).trans rfl; have ew30 : w3.cell? ⟨g2, 0, none⟩ = some (.int .i64 a') := (blk_cell N2.out 0).trans rfl; have ew31 : w3.cell? ⟨g2, 1, none⟩ = some (.int .i64 b') := (blk_cell N2.out 1).trans rfl; have ew32 : w3.cell? ⟨g2, 2, none⟩ = some (.int .i64 p') := (blk_cell N2.out 2).trans rfl; have ew33 : w3.cell? ⟨g2, 3, none⟩ = some (.slice A2 d2.length c2) := (blk_cell N2.out 3).trans rfl; clear hb_)
          | (go_at_call 48; (with_reducible refine (impl_isImage.calls a' b' p' A2 c2 d2 _ w3 (Kd.C_below HR2.out HB3.out) HC2.out E2.out).mono ?_); rintro e w4 ⟨rfl, hb_⟩; have HB4 := Aside0.mk (below_then HB3.out HB3.out.size hb_); have O1 := Aside0.mk (blk_below N1.out hb_); have O2 := Aside0.mk (blk_below N2.out hb_); have fw40 : w4.cell? ⟨g1, 0, none⟩ = some (.int .i64 a) := (blk_cell O1.out 0).trans rfl; have fw41 : w4.cell? ⟨g1, 1, none⟩ = some (.int .i64 b) := (blk_cell O1.out 1).trans rfl; have fw42 : w4.cell? ⟨g1, 2, none⟩ = some (.int .i64 p) := (blk_cell O1.out 2).trans rfl; have fw43 : w4.cell? ⟨g1, 3, none⟩ = some (.slice A1 d1.length c1) := (blk_cell O1.out 3).trans rfl; have ew40 : w4.cell? ⟨g2, 0, none⟩ = some (.int .i64 a') := (blk_cell O2.out 0).trans rfl; have ew41 : w4.cell? ⟨g2, 1, none⟩ = some (.int .i64 b') := (blk_cell O2.out 1).trans rfl; have ew42 : w4.cell? ⟨g2, 2, none⟩ = some (.int .i64 p') := (blk_cell O2.out 2).trans rfl; have ew43 : w4.cell? ⟨g2, 3, none⟩ = some (.slice A2 d2.length c2) := (blk_cell O2.out 3).trans rfl; clear hb_)
          | (go_at_call 49; (with_reducible refine (impl_alikeImages.calls a b p A1 c1 d1 a' b' p' A2 c2 d2 _ w4 (Kd.C_below HR1.out HB4.out) HC1.out (Kd.C_below HR2.out HB4.out) HC2.out E3.out).mono ?_); rintro e w5 ⟨rfl, hb_⟩; have HB5 := Aside0.mk (below_then HB4.out HB4.out.size hb_); have P1 := Aside0.mk (blk_below O1.out hb_); have P2 := Aside0.mk (blk_below O2.out hb_); have fw50 : w5.cell? ⟨g1, 0, none⟩ = some (.int .i64 a) := (blk_cell P1.out 0).trans rfl; have fw51 : w5.cell? ⟨g1, 1, none⟩ = some (.int .i64 b) := (blk_cell P1.out 1).trans rfl; have fw52 : w5.cell? ⟨g1, 2, none⟩ = some (.int .i64 p) := (blk_cell P1.out 2).trans rfl; have fw53 : w5.cell? ⟨g1, 3, none⟩ = some (.slice A1 d1.length c1) := (blk_cell P1.out 3).trans rfl; have ew50 : w5.cell? ⟨g2, 0, none⟩ = some (.int .i64 a') := (blk_cell P2.out 0).trans rfl; have ew51 : w5.cell? ⟨g2, 1, none⟩ = some (.int .i64 b') := (blk_cell P2.out 1).trans rfl; have ew52 : w5.cell? ⟨g2, 2, none⟩ = some (.int .i64 p') := (blk_cell P2.out 2).trans rfl; have ew53 : w5.cell? ⟨g2, 3, none⟩ = some (.slice A2 d2.length c2) := (blk_cell P2.out 3).trans rfl; clear hb_))
        go_ret
        exact ⟨_, rfl, Kd.R_nil _ _ _ _ _, HB5.out⟩
end Go.Proofs.Ytbgohbinonkhfaa.Q

namespace Go.Proofs.Ytbgohbinonkhfaa.Q
open Go.RowKit Go.Proofs.YtbgohbinonkhfaaW.PrintWords Go.Proofs.YtbgohbinonkhfaaW.PrintLast Go.Proofs.YtbgohbinonkhfaaW.PrintMore
attribute [local go_sem] max2_int min2_int max_two min_two max_three min_three max_four min_four
set_option linter.unusedVariables false
set_option linter.unusedSimpArgs false
/-! ### laws_eqBox: function 79 -/
def laws_eqBox.f (a0_0 : Int) (a0_1 : Int) (a0_2 : Int) (a0_3 : Int) (a1_0 : Int) (a1_1 : Int) (a1_2 : Int) (a1_3 : Int) : Option (Bool) := if a0_0 = a1_0 then (if a0_1 = a1_1 then (if a0_2 = a1_2 then (if a0_3 = a1_3 then (some true) else (some false)) else (some false)) else (some false)) else (some false)
set_option maxHeartbeats 8000000 in
set_option maxRecDepth 100000 in
theorem laws_eqBox.calls (a0_0 : Int) (a0_1 : Int) (a0_2 : Int) (a0_3 : Int) (a1_0 : Int) (a1_1 : Int) (a1_2 : Int) (a1_3 : Int) (r : Bool) (w : World) (h : laws_eqBox.f a0_0 a0_1 a0_2 a0_3 a1_0 a1_1 a1_2 a1_3 = some r) :
    Calls Try.prog 79 #[.agg #[.int .i64 a0_0, .int .i64 a0_1, .int .i64 a0_2, .int .i64 a0_3], .agg #[.int .i64 a1_0, .int .i64 a1_1, .int .i64 a1_2, .int .i64 a1_3]] w fun e w' => e = .returned (.bool r) ∧ Below w.heap.size w w' := by
  have hu60 := Try.underlying60
  have HB := Aside0.mk (Below.refl w.heap.size w)
  have H : (if a0_0 = a1_0 then (if a0_1 = a1_1 then (if a0_2 = a1_2 then (if a0_3 = a1_3 then (some true) else (some false)) else (some false)) else (some false)) else (some false)) = some r := h
  clear h
  by_cases c3 : a0_0 = a1_0
  · rw [if_pos c3] at H
    have c3b0 : (a0_0 == a1_0) = true := beq_iff_eq.mpr c3
    have c3b1 : (a0_0 != a1_0) = false := bne_eq_false_iff_eq.mpr c3
    clear c3
    by_cases c4 : a0_1 = a1_1
    · rw [if_pos c4] at H
      have c4b0 : (a0_1 == a1_1) = true := beq_iff_eq.mpr c4
      have c4b1 : (a0_1 != a1_1) = false := bne_eq_false_iff_eq.mpr c4
      clear c4
      by_cases c5 : a0_2 = a1_2
      · rw [if_pos c5] at H
        have c5b0 : (a0_2 == a1_2) = true := beq_iff_eq.mpr c5
        have c5b1 : (a0_2 != a1_2) = false := bne_eq_false_iff_eq.mpr c5
        clear c5
        by_cases c6 : a0_3 = a1_3
        · rw [if_pos c6] at H
          have c6b0 : (a0_3 == a1_3) = true := beq_iff_eq.mpr c6
          have c6b1 : (a0_3 != a1_3) = false := bne_eq_false_iff_eq.mpr c6
          clear c6
          obtain rfl := Option.some.inj H
          go_enter Try.func79, Try.ntmps79
          go_wp2_with (first | ((with_reducible refine gate_dst (N := 2) rfl ?_); refine box_event ?hg (N := 2) ?hd (cs := #[.int .i64 a0_0, .int .i64 a0_1, .int .i64 a0_2, .int .i64 a0_3]) (t := 60) ?hr ?_; (case hd => rfl); (case hg => rfl); (case hr => first | (go_simp; done) | (go_simp; rfl)); intro gb80001 hg w7 hbox hb; have n0_ := Aside0.mk (below_step (by repeat (first | (with_reducible first | exact HB.out | apply below_alloc | apply pw_below_drewN | apply below_drew1) | exact HB.out)) hb); have n1_ := Aside0.mk (hbox); have n2_ := Aside0.mk ((by rw [hg]; exact (below_size (by repeat (first | (with_reducible first | exact HB.out | apply below_alloc | apply pw_below_drewN | apply below_drew1) | exact HB.out))) : w.heap.size ≤ gb80001)); have n3_ := Aside0.mk ((by rw [hg]; exact (below_size (by repeat (first | (with_reducible first | exact HB.out | apply below_alloc | apply pw_below_drewN | apply below_drew1) | exact HB.out))) : w.heap.size ≤ gb80001)); clear HB; have HB := n0_; have BK80001 := n1_; have GW80001 := n2_; have GE80001 := n3_; clear n0_ n1_ n2_ n3_; clear hb hbox hg) | ((with_reducible refine gate_dst (N := 3) rfl ?_); refine box_event ?hg (N := 3) ?hd (cs := #[.int .i64 a1_0, .int .i64 a1_1, .int .i64 a1_2, .int .i64 a1_3]) (t := 60) ?hr ?_; (case hd => rfl); (case hg => rfl); (case hr => first | (go_simp; done) | (go_simp; rfl)); intro gb80002 hg w8 hbox hb; have n0_ := Aside0.mk (blk_below (g := gb80001) (o := .cells #[.int .i64 a0_0, .int .i64 a0_1, .int .i64 a0_2, .int .i64 a0_3] 60 (0, 0)) (by (with_reducible repeat (first | refine blk_drewN ?_ _ | refine blk_drew ?_ | refine blk_alloc ?_ _)); exact BK80001.out) hb); have n1_ := Aside0.mk (below_step (by repeat (first | (with_reducible first | exact HB.out | apply below_alloc | apply pw_below_drewN | apply below_drew1 | refine below_set ?_ GE80001.out) | exact HB.out)) hb); have n2_ := Aside0.mk (hbox); have n3_ := Aside0.mk ((by rw [hg]; exact (below_size (by repeat (first | (with_reducible first | exact HB.out | apply below_alloc | apply pw_below_drewN | apply below_drew1 | refine below_set ?_ GE80001.out) | exact HB.out))) : w.heap.size ≤ gb80002)); have n4_ := Aside0.mk ((by rw [hg]; exact (below_size (by repeat (first | (with_reducible first | exact HB.out | apply below_alloc | apply pw_below_drewN | apply below_drew1 | refine below_set ?_ GE80001.out) | exact HB.out))) : w.heap.size ≤ gb80002)); have n5_ := Aside0.mk ((by rw [hg]; exact Nat.ne_of_lt (blk_lt (g := gb80001) (o := .cells #[.int .i64 a0_0, .int .i64 a0_1, .int .i64 a0_2, .int .i64 a0_3] 60 (0, 0)) (by (with_reducible repeat (first | refine blk_drewN ?_ _ | refine blk_drew ?_ | refine blk_alloc ?_ _)); exact BK80001.out)) : gb80001 ≠ gb80002)); have n6_ := Aside0.mk ((by rw [hg]; exact Nat.ne_of_gt (blk_lt (g := gb80001) (o := .cells #[.int .i64 a0_0, .int .i64 a0_1, .int .i64 a0_2, .int .i64 a0_3] 60 (0, 0)) (by (with_reducible repeat (first | refine blk_drewN ?_ _ | refine blk_drew ?_ | refine blk_alloc ?_ _)); exact BK80001.out)) : gb80002 ≠ gb80001)); clear BK80001; clear HB; have BK80001 := n0_; have HB := n1_; have BK80002 := n2_; have GW80002 := n3_; have GE80002 := n4_; have NB80001_80002 := n5_; have NB80002_80001 := n6_; clear n0_ n1_ n2_ n3_ n4_ n5_ n6_; clear hb hbox hg; have hnb9 := NB80001_80002.out; have hnc9 := NB80002_80001.out; have hcz10_0 : w8.cell? ⟨gb80001, 0, none⟩ = some (.int .i64 a0_0) := (blk_cell BK80001.out 0).trans rfl; have hcz10_1 : w8.cell? ⟨gb80001, 1, none⟩ = some (.int .i64 a0_1) := (blk_cell BK80001.out 1).trans rfl; have hcz10_2 : w8.cell? ⟨gb80001, 2, none⟩ = some (.int .i64 a0_2) := (blk_cell BK80001.out 2).trans rfl; have hcz10_3 : w8.cell? ⟨gb80001, 3, none⟩ = some (.int .i64 a0_3) := (blk_cell BK80001.out 3).trans rfl; have hfz10_0 := blk_frozen BK80001.out 0; have hfz10_1 := blk_frozen BK80001.out 1; have hfz10_2 := blk_frozen BK80001.out 2; have hfz10_3 := blk_frozen BK80001.out 3; have hcz11_0 : w8.cell? ⟨gb80002, 0, none⟩ = some (.int .i64 a1_0) := (blk_cell BK80002.out 0).trans rfl; have hcz11_1 : w8.cell? ⟨gb80002, 1, none⟩ = some (.int .i64 a1_1) := (blk_cell BK80002.out 1).trans rfl; have hcz11_2 : w8.cell? ⟨gb80002, 2, none⟩ = some (.int .i64 a1_2) := (blk_cell BK80002.out 2).trans rfl; have hcz11_3 : w8.cell? ⟨gb80002, 3, none⟩ = some (.int .i64 a1_3) := (blk_cell BK80002.out 3).trans rfl; have hfz11_0 := blk_frozen BK80002.out 0; have hfz11_1 := blk_frozen BK80002.out 1; have hfz11_2 := blk_frozen BK80002.out 2; have hfz11_3 := blk_frozen BK80002.out 3))
          go_ret
          exact ⟨by first | rfl | (simp [errW_none, errW_some] <;> rfl) | (simp [*, errW_none, errW_some] <;> rfl), by repeat (first | (with_reducible first | exact HB.out | apply below_alloc | apply pw_below_drewN | apply below_drew1 | refine below_set ?_ GE80001.out | refine below_set ?_ GE80002.out) | exact HB.out)⟩
        · rw [if_neg c6] at H
          have c6b0 : (a0_3 == a1_3) = false := beq_eq_false_iff_ne.mpr c6
          have c6b1 : (a0_3 != a1_3) = true := bne_iff_ne.mpr c6
          obtain rfl := Option.some.inj H
          go_enter Try.func79, Try.ntmps79
          go_wp2_with (first | ((with_reducible refine gate_dst (N := 2) rfl ?_); refine box_event ?hg (N := 2) ?hd (cs := #[.int .i64 a0_0, .int .i64 a0_1, .int .i64 a0_2, .int .i64 a0_3]) (t := 60) ?hr ?_; (case hd => rfl); (case hg => rfl); (case hr => first | (go_simp; done) | (go_simp; rfl)); intro gb80001 hg w12 hbox hb; have n0_ := Aside0.mk (below_step (by repeat (first | (with_reducible first | exact HB.out | apply below_alloc | apply pw_below_drewN | apply below_drew1) | exact HB.out)) hb); have n1_ := Aside0.mk (hbox); have n2_ := Aside0.mk ((by rw [hg]; exact (below_size (by repeat (first | (with_reducible first | exact HB.out | apply below_alloc | apply pw_below_drewN | apply below_drew1) | exact HB.out))) : w.heap.size ≤ gb80001)); have n3_ := Aside0.mk ((by rw [hg]; exact (below_size (by repeat (first | (with_reducible first | exact HB.out | apply below_alloc | apply pw_below_drewN | apply below_drew1) | exact HB.out))) : w.heap.size ≤ gb80001)); clear HB; have HB := n0_; have BK80001 := n1_; have GW80001 := n2_; have GE80001 := n3_; clear n0_ n1_ n2_ n3_; clear hb hbox hg) | ((with_reducible refine gate_dst (N := 3) rfl ?_); refine box_event ?hg (N := 3) ?hd (cs := #[.int .i64 a1_0, .int .i64 a1_1, .int .i64 a1_2, .int .i64 a1_3]) (t := 60) ?hr ?_; (case hd => rfl); (case hg => rfl); (case hr => first | (go_simp; done) | (go_simp; rfl)); intro gb80002 hg w13 hbox hb; have n0_ := Aside0.mk (blk_below (g := gb80001) (o := .cells #[.int .i64 a0_0, .int .i64 a0_1, .int .i64 a0_2, .int .i64 a0_3] 60 (0, 0)) (by (with_reducible repeat (first | refine blk_drewN ?_ _ | refine blk_drew ?_ | refine blk_alloc ?_ _)); exact BK80001.out) hb); have n1_ := Aside0.mk (below_step (by repeat (first | (with_reducible first | exact HB.out | apply below_alloc | apply pw_below_drewN | apply below_drew1 | refine below_set ?_ GE80001.out) | exact HB.out)) hb); have n2_ := Aside0.mk (hbox); have n3_ := Aside0.mk ((by rw [hg]; exact (below_size (by repeat (first | (with_reducible first | exact HB.out | apply below_alloc | apply pw_below_drewN | apply below_drew1 | refine below_set ?_ GE80001.out) | exact HB.out))) : w.heap.size ≤ gb80002)); have n4_ := Aside0.mk ((by rw [hg]; exact (below_size (by repeat (first | (with_reducible first | exact HB.out | apply below_alloc | apply pw_below_drewN | apply below_drew1 | refine below_set ?_ GE80001.out) | exact HB.out))) : w.heap.size ≤ gb80002)); have n5_ := Aside0.mk ((by rw [hg]; exact Nat.ne_of_lt (blk_lt (g := gb80001) (o := .cells #[.int .i64 a0_0, .int .i64 a0_1, .int .i64 a0_2, .int .i64 a0_3] 60 (0, 0)) (by (with_reducible repeat (first | refine blk_drewN ?_ _ | refine blk_drew ?_ | refine blk_alloc ?_ _)); exact BK80001.out)) : gb80001 ≠ gb80002)); have n6_ := Aside0.mk ((by rw [hg]; exact Nat.ne_of_gt (blk_lt (g := gb80001) (o := .cells #[.int .i64 a0_0, .int .i64 a0_1, .int .i64 a0_2, .int .i64 a0_3] 60 (0, 0)) (by (with_reducible repeat (first | refine blk_drewN ?_ _ | refine blk_drew ?_ | refine blk_alloc ?_ _)); exact BK80001.out)) : gb80002 ≠ gb80001)); clear BK80001; clear HB; have BK80001 := n0_; have HB := n1_; have BK80002 := n2_; have GW80002 := n3_; have GE80002 := n4_; have NB80001_80002 := n5_; have NB80002_80001 := n6_; clear n0_ n1_ n2_ n3_ n4_ n5_ n6_; clear hb hbox hg; have hnb14 := NB80001_80002.out; have hnc14 := NB80002_80001.out; have hcz15_0 : w13.cell? ⟨gb80001, 0, none⟩ = some (.int .i64 a0_0) := (blk_cell BK80001.out 0).trans rfl; have hcz15_1 : w13.cell? ⟨gb80001, 1, none⟩ = some (.int .i64 a0_1) := (blk_cell BK80001.out 1).trans rfl; have hcz15_2 : w13.cell? ⟨gb80001, 2, none⟩ = some (.int .i64 a0_2) := (blk_cell BK80001.out 2).trans rfl; have hcz15_3 : w13.cell? ⟨gb80001, 3, none⟩ = some (.int .i64 a0_3) := (blk_cell BK80001.out 3).trans rfl; have hfz15_0 := blk_frozen BK80001.out 0; have hfz15_1 := blk_frozen BK80001.out 1; have hfz15_2 := blk_frozen BK80001.out 2; have hfz15_3 := blk_frozen BK80001.out 3; have hcz16_0 : w13.cell? ⟨gb80002, 0, none⟩ = some (.int .i64 a1_0) := (blk_cell BK80002.out 0).trans rfl; have hcz16_1 : w13.cell? ⟨gb80002, 1, none⟩ = some (.int .i64 a1_1) := (blk_cell BK80002.out 1).trans rfl; have hcz16_2 : w13.cell? ⟨gb80002, 2, none⟩ = some (.int .i64 a1_2) := (blk_cell BK80002.out 2).trans rfl; have hcz16_3 : w13.cell? ⟨gb80002, 3, none⟩ = some (.int .i64 a1_3) := (blk_cell BK80002.out 3).trans rfl; have hfz16_0 := blk_frozen BK80002.out 0; have hfz16_1 := blk_frozen BK80002.out 1; have hfz16_2 := blk_frozen BK80002.out 2; have hfz16_3 := blk_frozen BK80002.out 3))
          go_ret
          exact ⟨by first | rfl | (simp [errW_none, errW_some] <;> rfl) | (simp [*, errW_none, errW_some] <;> rfl), by repeat (first | (with_reducible first | exact HB.out | apply below_alloc | apply pw_below_drewN | apply below_drew1 | refine below_set ?_ GE80001.out | refine below_set ?_ GE80002.out) | exact HB.out)⟩
      · rw [if_neg c5] at H
        have c5b0 : (a0_2 == a1_2) = false := beq_eq_false_iff_ne.mpr c5
        have c5b1 : (a0_2 != a1_2) = true := bne_iff_ne.mpr c5
        obtain rfl := Option.some.inj H
        go_enter Try.func79, Try.ntmps79
        go_wp2_with (first | ((with_reducible refine gate_dst (N := 2) rfl ?_); refine box_event ?hg (N := 2) ?hd (cs := #[.int .i64 a0_0, .int .i64 a0_1, .int .i64 a0_2, .int .i64 a0_3]) (t := 60) ?hr ?_; (case hd => rfl); (case hg => rfl); (case hr => first | (go_simp; done) | (go_simp; rfl)); intro gb80001 hg w17 hbox hb; have n0_ := Aside0.mk (below_step (by repeat (first | (with_reducible first | exact HB.out | apply below_alloc | apply pw_below_drewN | apply below_drew1) | exact HB.out)) hb); have n1_ := Aside0.mk (hbox); have n2_ := Aside0.mk ((by rw [hg]; exact (below_size (by repeat (first | (with_reducible first | exact HB.out | apply below_alloc | apply pw_below_drewN | apply below_drew1) | exact HB.out))) : w.heap.size ≤ gb80001)); have n3_ := Aside0.mk ((by rw [hg]; exact (below_size (by repeat (first | (with_reducible first | exact HB.out | apply below_alloc | apply pw_below_drewN | apply below_drew1) | exact HB.out))) : w.heap.size ≤ gb80001)); clear HB; have HB := n0_; have BK80001 := n1_; have GW80001 := n2_; have GE80001 := n3_; clear n0_ n1_ n2_ n3_; clear hb hbox hg) | ((with_reducible refine gate_dst (N := 3) rfl ?_); refine box_event ?hg (N := 3) ?hd (cs := #[.int .i64 a1_0, .int .i64 a1_1, .int .i64 a1_2, .int .i64 a1_3]) (t := 60) ?hr ?_; (case hd => rfl); (case hg => rfl); (case hr => first | (go_simp; done) | (go_simp; rfl)); intro gb80002 hg w18 hbox hb; have n0_ := Aside0.mk (blk_below (g := gb80001) (o := .cells #[.int .i64 a0_0, .int .i64 a0_1, .int .i64 a0_2, .int .i64 a0_3] 60 (0, 0)) (by (with_reducible repeat (first | refine blk_drewN ?_ _ | refine blk_drew ?_ | refine blk_alloc ?_ _)); exact BK80001.out) hb); have n1_ := Aside0.mk (below_step (by repeat (first | (with_reducible first | exact HB.out | apply below_alloc | apply pw_below_drewN | apply below_drew1 | refine below_set ?_ GE80001.out) | exact HB.out)) hb); have n2_ := Aside0.mk (hbox); have n3_ := Aside0.mk ((by rw [hg]; exact (below_size (by repeat (first | (with_reducible first | exact HB.out | apply below_alloc | apply pw_below_drewN | apply below_drew1 | refine below_set ?_ GE80001.out) | exact HB.out))) : w.heap.size ≤ gb80002)); have n4_ := Aside0.mk ((by rw [hg]; exact (below_size (by repeat (first | (with_reducible first | exact HB.out | apply below_alloc | apply pw_below_drewN | apply below_drew1 | refine below_set ?_ GE80001.out) | exact HB.out))) : w.heap.size ≤ gb80002)); have n5_ := Aside0.mk ((by rw [hg]; exact Nat.ne_of_lt (blk_lt (g := gb80001) (o := .cells #[.int .i64 a0_0, .int .i64 a0_1, .int .i64 a0_2, .int .i64 a0_3] 60 (0, 0)) (by (with_reducible repeat (first | refine blk_drewN ?_ _ | refine blk_drew ?_ | refine blk_alloc ?_ _)); exact BK80001.out)) : gb80001 ≠ gb80002)); have n6_ := Aside0.mk ((by rw [hg]; exact Nat.ne_of_gt (blk_lt (g := gb80001) (o := .cells #[.int .i64 a0_0, .int .i64 a0_1, .int .i64 a0_2, .int .i64 a0_3] 60 (0, 0)) (by (with_reducible repeat (first | refine blk_drewN ?_ _ | refine blk_drew ?_ | refine blk_alloc ?_ _)); exact BK80001.out)) : gb80002 ≠ gb80001)); clear BK80001; clear HB; have BK80001 := n0_; have HB := n1_; have BK80002 := n2_; have GW80002 := n3_; have GE80002 := n4_; have NB80001_80002 := n5_; have NB80002_80001 := n6_; clear n0_ n1_ n2_ n3_ n4_ n5_ n6_; clear hb hbox hg; have hnb19 := NB80001_80002.out; have hnc19 := NB80002_80001.out; have hcz20_0 : w18.cell? ⟨gb80001, 0, none⟩ = some (.int .i64 a0_0) := (blk_cell BK80001.out 0).trans rfl; have hcz20_1 : w18.cell? ⟨gb80001, 1, none⟩ = some (.int .i64 a0_1) := (blk_cell BK80001.out 1).trans rfl; have hcz20_2 : w18.cell? ⟨gb80001, 2, none⟩ = some (.int .i64 a0_2) := (blk_cell BK80001.out 2).trans rfl; have hcz20_3 : w18.cell? ⟨gb80001, 3, none⟩ = some (.int .i64 a0_3) := (blk_cell BK80001.out 3).trans rfl; have hfz20_0 := blk_frozen BK80001.out 0; have hfz20_1 := blk_frozen BK80001.out 1; have hfz20_2 := blk_frozen BK80001.out 2; have hfz20_3 := blk_frozen BK80001.out 3; have hcz21_0 : w18.cell? ⟨gb80002, 0, none⟩ = some (.int .i64 a1_0) := (blk_cell BK80002.out 0).trans rfl; have hcz21_1 : w18.cell? ⟨gb80002, 1, none⟩ = some (.int .i64 a1_1) := (blk_cell BK80002.out 1).trans rfl; have hcz21_2 : w18.cell? ⟨gb80002, 2, none⟩ = some (.int .i64 a1_2) := (blk_cell BK80002.out 2).trans rfl; have hcz21_3 : w18.cell? ⟨gb80002, 3, none⟩ = some (.int .i64 a1_3) := (blk_cell BK80002.out 3).trans rfl; have hfz21_0 := blk_frozen BK80002.out 0; have hfz21_1 := blk_frozen BK80002.out 1; have hfz21_2 := blk_frozen BK80002.out 2; have hfz21_3 := blk_frozen BK80002.out 3))
        go_ret
        exact ⟨by first | rfl | (simp [errW_none, errW_some] <;> rfl) | (simp [*, errW_none, errW_some] <;> rfl), by repeat (first | (with_reducible first | exact HB.out | apply below_alloc | apply pw_below_drewN | apply below_drew1 | refine below_set ?_ GE80001.out | refine below_set ?_ GE80002.out) | exact HB.out)⟩
    · rw [if_neg c4] at H
      have c4b0 : (a0_1 == a1_1) = false := beq_eq_false_iff_ne.mpr c4
      have c4b1 : (a0_1 != a1_1) = true := bne_iff_ne.mpr c4
      obtain rfl := Option.some.inj H
      go_enter Try.func79, Try.ntmps79
      go_wp2_with (first | ((with_reducible refine gate_dst (N := 2) rfl ?_); refine box_event ?hg (N := 2) ?hd (cs := #[.int .i64 a0_0, .int .i64 a0_1, .int .i64 a0_2, .int .i64 a0_3]) (t := 60) ?hr ?_; (case hd => rfl); (case hg => rfl); (case hr => first | (go_simp; done) | (go_simp; rfl)); intro gb80001 hg w22 hbox hb; have n0_ := Aside0.mk (below_step (by repeat (first | (with_reducible first | exact HB.out | apply below_alloc | apply pw_below_drewN | apply below_drew1) | exact HB.out)) hb); have n1_ := Aside0.mk (hbox); have n2_ := Aside0.mk ((by rw [hg]; exact (below_size (by repeat (first | (with_reducible first | exact HB.out | apply below_alloc | apply pw_below_drewN | apply below_drew1) | exact HB.out))) : w.heap.size ≤ gb80001)); have n3_ := Aside0.mk ((by rw [hg]; exact (below_size (by repeat (first | (with_reducible first | exact HB.out | apply below_alloc | apply pw_below_drewN | apply below_drew1) | exact HB.out))) : w.heap.size ≤ gb80001)); clear HB; have HB := n0_; have BK80001 := n1_; have GW80001 := n2_; have GE80001 := n3_; clear n0_ n1_ n2_ n3_; clear hb hbox hg) | ((with_reducible refine gate_dst (N := 3) rfl ?_); refine box_event ?hg (N := 3) ?hd (cs := #[.int .i64 a1_0, .int .i64 a1_1, .int .i64 a1_2, .int .i64 a1_3]) (t := 60) ?hr ?_; (case hd => rfl); (case hg => rfl); (case hr => first | (go_simp; done) | (go_simp; rfl)); intro gb80002 hg w23 hbox hb; have n0_ := Aside0.mk (blk_below (g := gb80001) (o := .cells #[.int .i64 a0_0, .int .i64 a0_1, .int .i64 a0_2, .int .i64 a0_3] 60 (0, 0)) (by (with_reducible repeat (first | refine blk_drewN ?_ _ | refine blk_drew ?_ | refine blk_alloc ?_ _)); exact BK80001.out) hb); have n1_ := Aside0.mk (below_step (by repeat (first | (with_reducible first | exact HB.out | apply below_alloc | apply pw_below_drewN | apply below_drew1 | refine below_set ?_ GE80001.out) | exact HB.out)) hb); have n2_ := Aside0.mk (hbox); have n3_ := Aside0.mk ((by rw [hg]; exact (below_size (by repeat (first | (with_reducible first | exact HB.out | apply below_alloc | apply pw_below_drewN | apply below_drew1 | refine below_set ?_ GE80001.out) | exact HB.out))) : w.heap.size ≤ gb80002)); have n4_ := Aside0.mk ((by rw [hg]; exact (below_size (by repeat (first | (with_reducible first | exact HB.out | apply below_alloc | apply pw_below_drewN | apply below_drew1 | refine below_set ?_ GE80001.out) | exact HB.out))) : w.heap.size ≤ gb80002)); have n5_ := Aside0.mk ((by rw [hg]; exact Nat.ne_of_lt (blk_lt (g := gb80001) (o := .cells #[.int .i64 a0_0, .int .i64 a0_1, .int .i64 a0_2, .int .i64 a0_3] 60 (0, 0)) (by (with_reducible repeat (first | refine blk_drewN ?_ _ | refine blk_drew ?_ | refine blk_alloc ?_ _)); exact BK80001.out)) : gb80001 ≠ gb80002)); have n6_ := Aside0.mk ((by rw [hg]; exact Nat.ne_of_gt (blk_lt (g := gb80001) (o := .cells #[.int .i64 a0_0, .int .i64 a0_1, .int .i64 a0_2, .int .i64 a0_3] 60 (0, 0)) (by (with_reducible repeat (first | refine blk_drewN ?_ _ | refine blk_drew ?_ | refine blk_alloc ?_ _)); exact BK80001.out)) : gb80002 ≠ gb80001)); clear BK80001; clear HB; have BK80001 := n0_; have HB := n1_; have BK80002 := n2_; have GW80002 := n3_; have GE80002 := n4_; have NB80001_80002 := n5_; have NB80002_80001 := n6_; clear n0_ n1_ n2_ n3_ n4_ n5_ n6_; clear hb hbox hg; have hnb24 := NB80001_80002.out; have hnc24 := NB80002_80001.out; have hcz25_0 : w23.cell? ⟨gb80001, 0, none⟩ = some (.int .i64 a0_0) := (blk_cell BK80001.out 0).trans rfl; have hcz25_1 : w23.cell? ⟨gb80001, 1, none⟩ = some (.int .i64 a0_1) := (blk_cell BK80001.out 1).trans rfl; have hcz25_2 : w23.cell? ⟨gb80001, 2, none⟩ = some (.int .i64 a0_2) := (blk_cell BK80001.out 2).trans rfl; have hcz25_3 : w23.cell? ⟨gb80001, 3, none⟩ = some (.int .i64 a0_3) := (blk_cell BK80001.out 3).trans rfl; have hfz25_0 := blk_frozen BK80001.out 0; have hfz25_1 := blk_frozen BK80001.out 1; have hfz25_2 := blk_frozen BK80001.out 2; have hfz25_3 := blk_frozen BK80001.out 3; have hcz26_0 : w23.cell? ⟨gb80002, 0, none⟩ = some (.int .i64 a1_0) := (blk_cell BK80002.out 0).trans rfl; have hcz26_1 : w23.cell? ⟨gb80002, 1, none⟩ = some (.int .i64 a1_1) := (blk_cell BK80002.out 1).trans rfl; have hcz26_2 : w23.cell? ⟨gb80002, 2, none⟩ = some (.int .i64 a1_2) := (blk_cell BK80002.out 2).trans rfl; have hcz26_3 : w23.cell? ⟨gb80002, 3, none⟩ = some (.int .i64 a1_3) := (blk_cell BK80002.out 3).trans rfl; have hfz26_0 := blk_frozen BK80002.out 0; have hfz26_1 := blk_frozen BK80002.out 1; have hfz26_2 := blk_frozen BK80002.out 2; have hfz26_3 := blk_frozen BK80002.out 3))
      go_ret
      exact ⟨by first | rfl | (simp [errW_none, errW_some] <;> rfl) | (simp [*, errW_none, errW_some] <;> rfl), by repeat (first | (with_reducible first | exact HB.out | apply below_alloc | apply pw_below_drewN | apply below_drew1 | refine below_set ?_ GE80001.out | refine below_set ?_ GE80002.out) | exact HB.out)⟩
  · rw [if_neg c3] at H
    have c3b0 : (a0_0 == a1_0) = false := beq_eq_false_iff_ne.mpr c3
    have c3b1 : (a0_0 != a1_0) = true := bne_iff_ne.mpr c3
    obtain rfl := Option.some.inj H
    go_enter Try.func79, Try.ntmps79
    go_wp2_with (first | ((with_reducible refine gate_dst (N := 2) rfl ?_); refine box_event ?hg (N := 2) ?hd (cs := #[.int .i64 a0_0, .int .i64 a0_1, .int .i64 a0_2, .int .i64 a0_3]) (t := 60) ?hr ?_; (case hd => rfl); (case hg => rfl); (case hr => first | (go_simp; done) | (go_simp; rfl)); intro gb80001 hg w27 hbox hb; have n0_ := Aside0.mk (below_step (by repeat (first | (with_reducible first | exact HB.out | apply below_alloc | apply pw_below_drewN | apply below_drew1) | exact HB.out)) hb); have n1_ := Aside0.mk (hbox); have n2_ := Aside0.mk ((by rw [hg]; exact (below_size (by repeat (first | (with_reducible first | exact HB.out | apply below_alloc | apply pw_below_drewN | apply below_drew1) | exact HB.out))) : w.heap.size ≤ gb80001)); have n3_ := Aside0.mk ((by rw [hg]; exact (below_size (by repeat (first | (with_reducible first | exact HB.out | apply below_alloc | apply pw_below_drewN | apply below_drew1) | exact HB.out))) : w.heap.size ≤ gb80001)); clear HB; have HB := n0_; have BK80001 := n1_; have GW80001 := n2_; have GE80001 := n3_; clear n0_ n1_ n2_ n3_; clear hb hbox hg) | ((with_reducible refine gate_dst (N := 3) rfl ?_); refine box_event ?hg (N := 3) ?hd (cs := #[.int .i64 a1_0, .int .i64 a1_1, .int .i64 a1_2, .int .i64 a1_3]) (t := 60) ?hr ?_; (case hd => rfl); (case hg => rfl); (case hr => first | (go_simp; done) | (go_simp; rfl)); intro gb80002 hg w28 hbox hb; have n0_ := Aside0.mk (blk_below (g := gb80001) (o := .cells #[.int .i64 a0_0, .int .i64 a0_1, .int .i64 a0_2, .int .i64 a0_3] 60 (0, 0)) (by (with_reducible repeat (first | refine blk_drewN ?_ _ | refine blk_drew ?_ | refine blk_alloc ?_ _)); exact BK80001.out) hb); have n1_ := Aside0.mk (below_step (by repeat (first | (with_reducible first | exact HB.out | apply below_alloc | apply pw_below_drewN | apply below_drew1 | refine below_set ?_ GE80001.out) | exact HB.out)) hb); have n2_ := Aside0.mk (hbox); have n3_ := Aside0.mk ((by rw [hg]; exact (below_size (by repeat (first | (with_reducible first | exact HB.out | apply below_alloc | apply pw_below_drewN | apply below_drew1 | refine below_set ?_ GE80001.out) | exact HB.out))) : w.heap.size ≤ gb80002)); have n4_ := Aside0.mk ((by rw [hg]; exact (below_size (by repeat (first | (with_reducible first | exact HB.out | apply below_alloc | apply pw_below_drewN | apply below_drew1 | refine below_set ?_ GE80001.out) | exact HB.out))) : w.heap.size ≤ gb80002)); have n5_ := Aside0.mk ((by rw [hg]; exact Nat.ne_of_lt (blk_lt (g := gb80001) (o := .cells #[.int .i64 a0_0, .int .i64 a0_1, .int .i64 a0_2, .int .i64 a0_3] 60 (0, 0)) (by (with_reducible repeat (first | refine blk_drewN ?_ _ | refine blk_drew ?_ | refine blk_alloc ?_ _)); exact BK80001.out)) : gb80001 ≠ gb80002)); have n6_ := Aside0.mk ((by rw [hg]; exact Nat.ne_of_gt (blk_lt (g := gb80001) (o := .cells #[.int .i64 a0_0, .int .i64 a0_1, .int .i64 a0_2, .int .i64 a0_3] 60 (0, 0)) (by (with_reducible repeat (first | refine blk_drewN ?_ _ | refine blk_drew ?_ | refine blk_alloc ?_ _)); exact BK80001.out)) : gb80002 ≠ gb80001)); clear BK80001; clear HB; have BK80001 := n0_; have HB := n1_; have BK80002 := n2_; have GW80002 := n3_; have GE80002 := n4_; have NB80001_80002 := n5_; have NB80002_80001 := n6_; clear n0_ n1_ n2_ n3_ n4_ n5_ n6_; clear hb hbox hg; have hnb29 := NB80001_80002.out; have hnc29 := NB80002_80001.out; have hcz30_0 : w28.cell? ⟨gb80001, 0, none⟩ = some (.int .i64 a0_0) := (blk_cell BK80001.out 0).trans rfl; have hcz30_1 : w28.cell? ⟨gb80001, 1, none⟩ = some (.int .i64 a0_1) := (blk_cell BK80001.out 1).trans rfl; have hcz30_2 : w28.cell? ⟨gb80001, 2, none⟩ = some (.int .i64 a0_2) := (blk_cell BK80001.out 2).trans rfl; have hcz30_3 : w28.cell? ⟨gb80001, 3, none⟩ = some (.int .i64 a0_3) := (blk_cell BK80001.out 3).trans rfl; have hfz30_0 := blk_frozen BK80001.out 0; have hfz30_1 := blk_frozen BK80001.out 1; have hfz30_2 := blk_frozen BK80001.out 2; have hfz30_3 := blk_frozen BK80001.out 3; have hcz31_0 : w28.cell? ⟨gb80002, 0, none⟩ = some (.int .i64 a1_0) := (blk_cell BK80002.out 0).trans rfl; have hcz31_1 : w28.cell? ⟨gb80002, 1, none⟩ = some (.int .i64 a1_1) := (blk_cell BK80002.out 1).trans rfl; have hcz31_2 : w28.cell? ⟨gb80002, 2, none⟩ = some (.int .i64 a1_2) := (blk_cell BK80002.out 2).trans rfl; have hcz31_3 : w28.cell? ⟨gb80002, 3, none⟩ = some (.int .i64 a1_3) := (blk_cell BK80002.out 3).trans rfl; have hfz31_0 := blk_frozen BK80002.out 0; have hfz31_1 := blk_frozen BK80002.out 1; have hfz31_2 := blk_frozen BK80002.out 2; have hfz31_3 := blk_frozen BK80002.out 3))
    go_ret
    exact ⟨by first | rfl | (simp [errW_none, errW_some] <;> rfl) | (simp [*, errW_none, errW_some] <;> rfl), by repeat (first | (with_reducible first | exact HB.out | apply below_alloc | apply pw_below_drewN | apply below_drew1 | refine below_set ?_ GE80001.out | refine below_set ?_ GE80002.out) | exact HB.out)⟩

end Go.Proofs.Ytbgohbinonkhfaa.Q

namespace Go.Proofs.Ytbgohbinonkhfaa.Q
open Go.RowKit Go.Proofs.YtbgohbinonkhfaaW.PrintWords Go.Proofs.YtbgohbinonkhfaaW.PrintLast Go.Proofs.YtbgohbinonkhfaaW.PrintMore
attribute [local go_sem] max2_int min2_int max_two min_two max_three min_three max_four min_four
set_option linter.unusedVariables false
set_option linter.unusedSimpArgs false
/-! ### laws_eqBoxS: function 34 -/
def laws_eqBoxS.l0 : Nat → List (S60) → List (S60) → Int → Option (Bool)
  | 0, _, _, _ => none
  | k + 1, x0, x1, x5 => if x5 < (x0.length : Int) then (if 0 ≤ x5 then (if x5 < (x1.length : Int) then ((laws_eqBox.f ((rd_T60 x0 x5).f0) ((rd_T60 x0 x5).f1) ((rd_T60 x0 x5).f2) ((rd_T60 x0 x5).f3) ((rd_T60 x1 x5).f0) ((rd_T60 x1 x5).f1) ((rd_T60 x1 x5).f2) ((rd_T60 x1 x5).f3)).bind fun t35003 => (if t35003 = true then (laws_eqBoxS.l0 k x0 x1 (wrap64 (x5 + 1))) else (some false))) else (none)) else (none)) else (some true)
def laws_eqBoxS.f (k : Nat) (l0 : List (S60)) (l1 : List (S60)) : Option (Bool) := if (l0.length : Int) = (l1.length : Int) then (laws_eqBoxS.l0 k l0 l1 0) else (some false)
theorem laws_eqBoxS.mono_l : ∀ k, (∀ y0 y1 y2, LeO (laws_eqBoxS.l0 k y0 y1 y2) (laws_eqBoxS.l0 (k + 1) y0 y1 y2))
  | 0 => fun _ _ _ r h => by simp [laws_eqBoxS.l0] at h
  | k + 1 => by
    have ih0 := laws_eqBoxS.mono_l k
    · intro y0 y1 y2
      unfold laws_eqBoxS.l0
      repeat' first
      | (with_reducible exact ih0 _ _ _)
      | (with_reducible exact LeO.refl _)
      | (with_reducible exact LeO.none _)
      | (with_reducible refine LeO.ite ?_ ?_)
      | (with_reducible refine LeO.bind ?_ (fun _ => ?_))
      | exact ih0 _ _ _
      | exact LeO.none _
      | refine LeO.ite ?_ ?_
      | refine LeO.bind ?_ (fun _ => ?_)
theorem laws_eqBoxS.mono : ∀ a0 a1 k, LeO (laws_eqBoxS.f k a0 a1) (laws_eqBoxS.f (k + 1) a0 a1) := by
  intro a0 a1 k
  have ih0 := laws_eqBoxS.mono_l k
  unfold laws_eqBoxS.f
  repeat' first
      | (with_reducible exact ih0 _ _ _)
      | (with_reducible exact LeO.refl _)
      | (with_reducible exact LeO.none _)
      | (with_reducible refine LeO.ite ?_ ?_)
      | (with_reducible refine LeO.bind ?_ (fun _ => ?_))
      | exact ih0 _ _ _
      | exact LeO.none _
      | refine LeO.ite ?_ ?_
      | refine LeO.bind ?_ (fun _ => ?_)
def laws_eqBoxS.T6 : Bool × List (List Nat × List Nat) := (true, [([], []), ([], []), ([0, 1], [0, 1]), ([2], [2]), ([], []), ([], []), ([4, 5], [4, 5]), ([6], [6]), ([3, 7], [3, 7]), ([8], [8])])
def laws_eqBoxS.B6 : List Nat := [0, 0, 3, 7, 0, 0, 48, 112, 255, 511]
theorem laws_eqBoxS.tab6 : rtab .any (opsOf Try.f34 6) = laws_eqBoxS.T6 := by kernel_rfl
theorem laws_eqBoxS.bits6 : waitsOk laws_eqBoxS.T6.2 laws_eqBoxS.B6 = true := by kernel_rfl
set_option maxHeartbeats 8000000 in
set_option maxRecDepth 100000 in
theorem laws_eqBoxS.calls (k : Nat) (A0 : Option Addr) (c0 : Nat) (l0 : List (S60)) (A1 : Option Addr) (c1 : Nat) (l1 : List (S60)) (r : Bool) (w : World) (hr0 : Kd.C k60 w A0 l0.length l0) (hc0 : l0.length ≤ c0) (hr1 : Kd.C k60 w A1 l1.length l1) (hc1 : l1.length ≤ c1) (h : laws_eqBoxS.f k l0 l1 = some r) :
    Calls Try.prog 34 #[.slice A0 l0.length c0, .slice A1 l1.length c1] w fun e w' => e = .returned (.bool r) ∧ Below w.heap.size w w' := by
  have hu60 := Try.underlying60
  have HR0 := Aside0.mk hr0
  have HC0 := Aside0.mk hc0
  clear hr0 hc0
  have HR1 := Aside0.mk hr1
  have HC1 := Aside0.mk hc1
  clear hr1 hc1
  have HB := Aside0.mk (Below.refl w.heap.size w)
  have H : (if (l0.length : Int) = (l1.length : Int) then (laws_eqBoxS.l0 k l0 l1 0) else (some false)) = some r := h
  clear h
  by_cases c3 : (l0.length : Int) = (l1.length : Int)
  · rw [if_pos c3] at H
    have c3b0 : ((l0.length : Int) == (l1.length : Int)) = true := beq_iff_eq.mpr c3
    have c3b1 : ((l0.length : Int) != (l1.length : Int)) = false := bne_eq_false_iff_eq.mpr c3
    have c3b2 : (l0.length == l1.length) = true := by first | simpa using c3 | (simp at c3 ⊢; omega)
    clear c3
    have H' := Aside0.mk H
    clear H
    go_enter Try.func34, Try.ntmps34
    go_wp2
    go_loopg [5] k (fun kq v5 w' => ∃ (x5_1 : Int), v5 = .int .i64 x5_1 ∧ Aside0 (laws_eqBoxS.l0 kq l0 l1 x5_1 = some r) ∧ Aside0 (kq ≤ k) ∧ Aside0 (Below w.heap.size w w'))
    case atStart => exact ⟨(0), (by first | rfl | (simp; done) | (simp [*]; done)), H', ⟨Nat.le_refl _⟩, ⟨by repeat (first | (with_reducible first | exact HB.out | apply below_alloc | apply pw_below_drewN | apply below_drew1) | exact HB.out)⟩⟩
    case round =>
      clear H'
      try clear c1
      try clear p2
      try clear c3
      try clear c3b0
      try clear c3b1
      try clear c3b2
      obtain ⟨x5_1, rfl, HA, HK1, HB⟩ := hrel
      cases gk with
      | zero => exact absurd HA.out (by simp [laws_eqBoxS.l0])
      | succ k1 =>
        have H := HA.out
        clear HA
        simp only [laws_eqBoxS.l0] at H
        by_cases c4 : x5_1 < (l0.length : Int)
        · rw [if_pos c4] at H
          have c4b0 : decide (x5_1 < (l0.length : Int)) = true := decide_eq_true c4
          clear c4
          by_cases c5 : 0 ≤ x5_1
          · rw [if_pos c5] at H
            have c5b0 : decide (0 ≤ x5_1) = true := decide_eq_true c5
            clear c5
            by_cases c6 : x5_1 < (l1.length : Int)
            · rw [if_pos c6] at H
              have c6b0 : decide (x5_1 < (l1.length : Int)) = true := decide_eq_true c6
              clear c6
              replace H := Option.bind_eq_some_iff.mp H
              obtain ⟨t35003, A70, H⟩ := H
              replace H : (if t35003 = true then (laws_eqBoxS.l0 k1 l0 l1 (wrap64 (x5_1 + 1))) else (some false)) = some r := H
              have A7 := Aside0.mk A70
              clear A70
              by_cases c8 : t35003 = true
              · subst c8
                have H1 : (laws_eqBoxS.l0 k1 l0 l1 (wrap64 (x5_1 + 1))) = some r := by rw [if_pos rfl] at H; exact H
                clear H
                have H := H1
                clear H1
                have H' := Aside0.mk H
                clear H
                try go_wp2
                have n0_ := Aside0.mk (below_drew1 HB.out)
                clear HB
                have HB := n0_
                clear n0_
                have p35001 : 0 ≤ (x5_1 : Int) := of_decide_eq_true (by first | (with_reducible assumption) | assumption)
                have q35001 : x5_1 < (l0.length : Int) := of_decide_eq_true (by first | (with_reducible assumption) | assumption)
                obtain ⟨ad35001, e35001, hx35001_0, hx35001_1, hx35001_2, hx35001_3⟩ := at_T60 HR0.out x5_1 p35001 q35001
                have hw35001_3 := hx35001_3
                have hw35001_2 := hx35001_2
                have hw35001_1 := hx35001_1
                have hw35001_0 := hx35001_0
                cases e35001
                replace hx35001_0 := (HB.out.cell (World.block_lt_of_cell? w _ hx35001_0)).trans hx35001_0
                replace hx35001_1 := (HB.out.cell (World.block_lt_of_cell? w _ hx35001_1)).trans hx35001_1
                replace hx35001_2 := (HB.out.cell (World.block_lt_of_cell? w _ hx35001_2)).trans hx35001_2
                replace hx35001_3 := (HB.out.cell (World.block_lt_of_cell? w _ hx35001_3)).trans hx35001_3
                replace p35001 := eq_true p35001
                replace q35001 := eq_true q35001
                have p35002 : 0 ≤ (x5_1 : Int) := of_decide_eq_true (by first | (with_reducible assumption) | assumption)
                have q35002 : x5_1 < (l1.length : Int) := of_decide_eq_true (by first | (with_reducible assumption) | assumption)
                obtain ⟨ad35002, e35002, hx35002_0, hx35002_1, hx35002_2, hx35002_3⟩ := at_T60 HR1.out x5_1 p35002 q35002
                have hw35002_3 := hx35002_3
                have hw35002_2 := hx35002_2
                have hw35002_1 := hx35002_1
                have hw35002_0 := hx35002_0
                cases e35002
                replace hx35002_0 := (HB.out.cell (World.block_lt_of_cell? w _ hx35002_0)).trans hx35002_0
                replace hx35002_1 := (HB.out.cell (World.block_lt_of_cell? w _ hx35002_1)).trans hx35002_1
                replace hx35002_2 := (HB.out.cell (World.block_lt_of_cell? w _ hx35002_2)).trans hx35002_2
                replace hx35002_3 := (HB.out.cell (World.block_lt_of_cell? w _ hx35002_3)).trans hx35002_3
                replace p35002 := eq_true p35002
                replace q35002 := eq_true q35002
                refine start_ (n := 10) (S := fun w' => w'.cell? (ad35001.add ((x5_1).toNat * 4)) = some (.int .i64 ((rd_T60 l0 x5_1).f0)) ∧ w'.cell? ⟨(ad35001.add ((x5_1).toNat * 4)).block, (ad35001.add ((x5_1).toNat * 4)).off + 1, none⟩ = some (.int .i64 ((rd_T60 l0 x5_1).f1)) ∧ w'.cell? ⟨(ad35001.add ((x5_1).toNat * 4)).block, (ad35001.add ((x5_1).toNat * 4)).off + 2, none⟩ = some (.int .i64 ((rd_T60 l0 x5_1).f2)) ∧ w'.cell? ⟨(ad35001.add ((x5_1).toNat * 4)).block, (ad35001.add ((x5_1).toNat * 4)).off + 3, none⟩ = some (.int .i64 ((rd_T60 l0 x5_1).f3)) ∧ w'.cell? (ad35002.add ((x5_1).toNat * 4)) = some (.int .i64 ((rd_T60 l1 x5_1).f0)) ∧ w'.cell? ⟨(ad35002.add ((x5_1).toNat * 4)).block, (ad35002.add ((x5_1).toNat * 4)).off + 1, none⟩ = some (.int .i64 ((rd_T60 l1 x5_1).f1)) ∧ w'.cell? ⟨(ad35002.add ((x5_1).toNat * 4)).block, (ad35002.add ((x5_1).toNat * 4)).off + 2, none⟩ = some (.int .i64 ((rd_T60 l1 x5_1).f2)) ∧ w'.cell? ⟨(ad35002.add ((x5_1).toNat * 4)).block, (ad35002.add ((x5_1).toNat * 4)).off + 3, none⟩ = some (.int .i64 ((rd_T60 l1 x5_1).f3))) (ds := []) #[false, false, false, false, false, false, false, false, false, false] (by kernel_rfl) rfl rfl ⟨((HB.out.cell (World.block_lt_of_cell? w _ hw35001_0)).trans hw35001_0), ((HB.out.cell (World.block_lt_of_cell? w _ hw35001_1)).trans hw35001_1), ((HB.out.cell (World.block_lt_of_cell? w _ hw35001_2)).trans hw35001_2), ((HB.out.cell (World.block_lt_of_cell? w _ hw35001_3)).trans hw35001_3), ((HB.out.cell (World.block_lt_of_cell? w _ hw35002_0)).trans hw35002_0), ((HB.out.cell (World.block_lt_of_cell? w _ hw35002_1)).trans hw35002_1), ((HB.out.cell (World.block_lt_of_cell? w _ hw35002_2)).trans hw35002_2), ((HB.out.cell (World.block_lt_of_cell? w _ hw35002_3)).trans hw35002_3)⟩ (fun hHeld => ?_); refine with_tabW laws_eqBoxS.tab6 laws_eqBoxS.bits6 (fun HT_ HW_ => ?_)
                generalize wr.drew = w9 at HB hx35001_0 hx35001_1 hx35001_2 hx35001_3 hx35002_0 hx35002_1 hx35002_2 hx35002_3 hHeld ⊢
                refine pure_ (i := 0) (N := some 17) (v := ?_) (a' := ?_) #[true, false, false, false, false, false, false, false, false, false] rfl rfl (any_of HT_.out (by kernel_rfl)) (fun _ _ _ h => h) (Or.inl ⟨by rfl, ?_⟩) ?_ ?_
                rotate_left
                · intro w'
                  go_simp
                  with_reducible rfl
                rotate_left
                · simp only [Act.put, List.setIfInBounds_toArray, List.set_cons_zero, List.set_cons_succ, i64_w, i32_w]
                  rfl
                refine pure_ (i := 1) (N := some 18) (v := ?_) (a' := ?_) #[true, true, false, false, false, false, false, false, false, false] rfl rfl (any_of HT_.out (by kernel_rfl)) (fun _ _ _ h => h) (Or.inl ⟨by rfl, ?_⟩) ?_ ?_
                rotate_left
                · intro w'
                  go_simp
                  with_reducible rfl
                rotate_left
                · simp only [Act.put, List.setIfInBounds_toArray, List.set_cons_zero, List.set_cons_succ, i64_w, i32_w]
                  rfl
                refine pure_ (i := 2) (N := some 19) (v := ?_) (a' := ?_) #[true, true, true, false, false, false, false, false, false, false] rfl rfl (any_of HT_.out (by kernel_rfl)) (fun _ _ _ h => h) (Or.inl ⟨by rfl, ?_⟩) ?_ ?_
                rotate_left
                · intro w'
                  go_simp
                  with_reducible rfl
                rotate_left
                · simp only [Act.put, List.setIfInBounds_toArray, List.set_cons_zero, List.set_cons_succ, i64_w, i32_w]
                  rfl
                refine pure_ (i := 4) (N := some 21) (v := ?_) (a' := ?_) #[true, true, true, false, true, false, false, false, false, false] rfl rfl (any_of HT_.out (by kernel_rfl)) (fun _ _ _ h => h) (Or.inl ⟨by rfl, ?_⟩) ?_ ?_
                rotate_left
                · intro w'
                  go_simp
                  with_reducible rfl
                rotate_left
                · simp only [Act.put, List.setIfInBounds_toArray, List.set_cons_zero, List.set_cons_succ, i64_w, i32_w]
                  rfl
                refine pure_ (i := 5) (N := some 22) (v := ?_) (a' := ?_) #[true, true, true, false, true, true, false, false, false, false] rfl rfl (any_of HT_.out (by kernel_rfl)) (fun _ _ _ h => h) (Or.inl ⟨by rfl, ?_⟩) ?_ ?_
                rotate_left
                · intro w'
                  go_simp
                  with_reducible rfl
                rotate_left
                · simp only [Act.put, List.setIfInBounds_toArray, List.set_cons_zero, List.set_cons_succ, i64_w, i32_w]
                  rfl
                refine pure_ (i := 6) (N := some 23) (v := ?_) (a' := ?_) #[true, true, true, false, true, true, true, false, false, false] rfl rfl (any_of HT_.out (by kernel_rfl)) (fun _ _ _ h => h) (Or.inl ⟨by rfl, ?_⟩) ?_ ?_
                rotate_left
                · intro w'
                  go_simp
                  with_reducible rfl
                rotate_left
                · simp only [Act.put, List.setIfInBounds_toArray, List.set_cons_zero, List.set_cons_succ, i64_w, i32_w]
                  rfl
                refine take_ (i := 3) (N := some 20) (v := ?_) (a' := ?_) #[true, true, true, true, true, true, true, false, false, false] rfl rfl (take_ofW HT_.out HW_.out (by kernel_rfl)) (fun _ _ _ h => h) (Or.inl ⟨by rfl, ?_⟩) hHeld ?_ ?_
                rotate_left
                · rintro w' ⟨s0, s1, s2, s3, s4, s5, s6, s7⟩
                  go_simp
                  with_reducible rfl
                rotate_left
                · simp only [Act.put, List.setIfInBounds_toArray, List.set_cons_zero, List.set_cons_succ, i64_w, i32_w]
                  rfl
                refine take_ (i := 7) (N := some 24) (v := ?_) (a' := ?_) #[true, true, true, true, true, true, true, true, false, false] rfl rfl (take_ofW HT_.out HW_.out (by kernel_rfl)) (fun _ _ _ h => h) (Or.inl ⟨by rfl, ?_⟩) hHeld ?_ ?_
                rotate_left
                · rintro w' ⟨s0, s1, s2, s3, s4, s5, s6, s7⟩
                  go_simp
                  with_reducible rfl
                rotate_left
                · simp only [Act.put, List.setIfInBounds_toArray, List.set_cons_zero, List.set_cons_succ, i64_w, i32_w]
                  rfl
                refine one_ (i := 8) (N := some 25) #[true, true, true, true, true, true, true, true, true, false] rfl rfl (one_of HT_.out (by kernel_rfl)) (by decide) (fun K hK => ?_)
                refine goes_ Try.func79 (by kernel_rfl) rfl #[.agg #[.int .i64 ((rd_T60 l0 x5_1).f0), .int .i64 ((rd_T60 l0 x5_1).f1), .int .i64 ((rd_T60 l0 x5_1).f2), .int .i64 ((rd_T60 l0 x5_1).f3)], .agg #[.int .i64 ((rd_T60 l1 x5_1).f0), .int .i64 ((rd_T60 l1 x5_1).f1), .int .i64 ((rd_T60 l1 x5_1).f2), .int .i64 ((rd_T60 l1 x5_1).f3)]] (by rfl) rfl rfl (by (try simp only [List.map_toArray, List.map_cons, List.map_nil]); first | done | rfl | (simp only [List.length_drop, List.length_take]; rfl)) ?_
                with_reducible refine (laws_eqBox.calls ((rd_T60 l0 x5_1).f0) ((rd_T60 l0 x5_1).f1) ((rd_T60 l0 x5_1).f2) ((rd_T60 l0 x5_1).f3) ((rd_T60 l1 x5_1).f0) ((rd_T60 l1 x5_1).f1) ((rd_T60 l1 x5_1).f2) ((rd_T60 l1 x5_1).f3) true _ A7.out).mono ?_
                rintro e w10 ⟨rfl, hb⟩
                refine ⟨_, rfl, ?_⟩
                have n0_ := Aside0.mk (below_step (by repeat (first | (with_reducible first | exact HB.out | apply below_alloc | apply pw_below_drewN | apply below_drew1) | exact HB.out)) hb)
                clear HB
                have HB := n0_
                clear n0_
                (try clear hb)
                (try clear hb2)
                (try clear hk)
                (try clear hi)
                refine hK.out _ _ ⟨((HB.out.cell (World.block_lt_of_cell? w _ hw35001_0)).trans hw35001_0), ((HB.out.cell (World.block_lt_of_cell? w _ hw35001_1)).trans hw35001_1), ((HB.out.cell (World.block_lt_of_cell? w _ hw35001_2)).trans hw35001_2), ((HB.out.cell (World.block_lt_of_cell? w _ hw35001_3)).trans hw35001_3), ((HB.out.cell (World.block_lt_of_cell? w _ hw35002_0)).trans hw35002_0), ((HB.out.cell (World.block_lt_of_cell? w _ hw35002_1)).trans hw35002_1), ((HB.out.cell (World.block_lt_of_cell? w _ hw35002_2)).trans hw35002_2), ((HB.out.cell (World.block_lt_of_cell? w _ hw35002_3)).trans hw35002_3)⟩ (fun hHeld => ?_)
                clear hK K
                refine norm_ (a' := ?_) ?_ ?_
                rotate_left
                · show Act.put _ (some 25) _ = _
                  simp only [Act.put, List.setIfInBounds_toArray, List.set_cons_zero, List.set_cons_succ, i64_w, i32_w]
                  rfl
                refine pure_ (i := 9) (N := some 26) (v := ?_) (a' := ?_) #[true, true, true, true, true, true, true, true, true, true] rfl rfl (any_of HT_.out (by kernel_rfl)) (fun _ _ _ h => h) (Or.inl ⟨by rfl, ?_⟩) ?_ ?_
                rotate_left
                · intro w'
                  go_simp
                  with_reducible rfl
                rotate_left
                · simp only [Act.put, List.setIfInBounds_toArray, List.set_cons_zero, List.set_cons_succ, i64_w, i32_w]
                  rfl
                refine done_ (done_of HT_.out (by kernel_rfl)) ?_
                try go_wp2
                go_roundg k1
                case measure => have := HK1.out; omega
                case rel => exact ⟨(wrap64 (x5_1 + 1)), (by first | rfl | (simp; done) | (simp [*]; done)), H', ⟨by have := HK1.out; omega⟩, ⟨by repeat (first | (with_reducible first | exact HB.out | apply below_alloc | apply pw_below_drewN | apply below_drew1) | exact HB.out)⟩⟩
              · replace c8 := Bool.eq_false_iff.mpr c8
                subst c8
                have H1 : (some false) = some r := by rw [if_neg (show ¬ (false = true) by decide)] at H; exact H
                clear H
                have H := H1
                clear H1
                obtain rfl := Option.some.inj H
                try go_wp2
                have n0_ := Aside0.mk (below_drew1 HB.out)
                clear HB
                have HB := n0_
                clear n0_
                have p35001 : 0 ≤ (x5_1 : Int) := of_decide_eq_true (by first | (with_reducible assumption) | assumption)
                have q35001 : x5_1 < (l0.length : Int) := of_decide_eq_true (by first | (with_reducible assumption) | assumption)
                obtain ⟨ad35001, e35001, hx35001_0, hx35001_1, hx35001_2, hx35001_3⟩ := at_T60 HR0.out x5_1 p35001 q35001
                have hw35001_3 := hx35001_3
                have hw35001_2 := hx35001_2
                have hw35001_1 := hx35001_1
                have hw35001_0 := hx35001_0
                cases e35001
                replace hx35001_0 := (HB.out.cell (World.block_lt_of_cell? w _ hx35001_0)).trans hx35001_0
                replace hx35001_1 := (HB.out.cell (World.block_lt_of_cell? w _ hx35001_1)).trans hx35001_1
                replace hx35001_2 := (HB.out.cell (World.block_lt_of_cell? w _ hx35001_2)).trans hx35001_2
                replace hx35001_3 := (HB.out.cell (World.block_lt_of_cell? w _ hx35001_3)).trans hx35001_3
                replace p35001 := eq_true p35001
                replace q35001 := eq_true q35001
                have p35002 : 0 ≤ (x5_1 : Int) := of_decide_eq_true (by first | (with_reducible assumption) | assumption)
                have q35002 : x5_1 < (l1.length : Int) := of_decide_eq_true (by first | (with_reducible assumption) | assumption)
                obtain ⟨ad35002, e35002, hx35002_0, hx35002_1, hx35002_2, hx35002_3⟩ := at_T60 HR1.out x5_1 p35002 q35002
                have hw35002_3 := hx35002_3
                have hw35002_2 := hx35002_2
                have hw35002_1 := hx35002_1
                have hw35002_0 := hx35002_0
                cases e35002
                replace hx35002_0 := (HB.out.cell (World.block_lt_of_cell? w _ hx35002_0)).trans hx35002_0
                replace hx35002_1 := (HB.out.cell (World.block_lt_of_cell? w _ hx35002_1)).trans hx35002_1
                replace hx35002_2 := (HB.out.cell (World.block_lt_of_cell? w _ hx35002_2)).trans hx35002_2
                replace hx35002_3 := (HB.out.cell (World.block_lt_of_cell? w _ hx35002_3)).trans hx35002_3
                replace p35002 := eq_true p35002
                replace q35002 := eq_true q35002
                refine start_ (n := 10) (S := fun w' => w'.cell? (ad35001.add ((x5_1).toNat * 4)) = some (.int .i64 ((rd_T60 l0 x5_1).f0)) ∧ w'.cell? ⟨(ad35001.add ((x5_1).toNat * 4)).block, (ad35001.add ((x5_1).toNat * 4)).off + 1, none⟩ = some (.int .i64 ((rd_T60 l0 x5_1).f1)) ∧ w'.cell? ⟨(ad35001.add ((x5_1).toNat * 4)).block, (ad35001.add ((x5_1).toNat * 4)).off + 2, none⟩ = some (.int .i64 ((rd_T60 l0 x5_1).f2)) ∧ w'.cell? ⟨(ad35001.add ((x5_1).toNat * 4)).block, (ad35001.add ((x5_1).toNat * 4)).off + 3, none⟩ = some (.int .i64 ((rd_T60 l0 x5_1).f3)) ∧ w'.cell? (ad35002.add ((x5_1).toNat * 4)) = some (.int .i64 ((rd_T60 l1 x5_1).f0)) ∧ w'.cell? ⟨(ad35002.add ((x5_1).toNat * 4)).block, (ad35002.add ((x5_1).toNat * 4)).off + 1, none⟩ = some (.int .i64 ((rd_T60 l1 x5_1).f1)) ∧ w'.cell? ⟨(ad35002.add ((x5_1).toNat * 4)).block, (ad35002.add ((x5_1).toNat * 4)).off + 2, none⟩ = some (.int .i64 ((rd_T60 l1 x5_1).f2)) ∧ w'.cell? ⟨(ad35002.add ((x5_1).toNat * 4)).block, (ad35002.add ((x5_1).toNat * 4)).off + 3, none⟩ = some (.int .i64 ((rd_T60 l1 x5_1).f3))) (ds := []) #[false, false, false, false, false, false, false, false, false, false] (by kernel_rfl) rfl rfl ⟨((HB.out.cell (World.block_lt_of_cell? w _ hw35001_0)).trans hw35001_0), ((HB.out.cell (World.block_lt_of_cell? w _ hw35001_1)).trans hw35001_1), ((HB.out.cell (World.block_lt_of_cell? w _ hw35001_2)).trans hw35001_2), ((HB.out.cell (World.block_lt_of_cell? w _ hw35001_3)).trans hw35001_3), ((HB.out.cell (World.block_lt_of_cell? w _ hw35002_0)).trans hw35002_0), ((HB.out.cell (World.block_lt_of_cell? w _ hw35002_1)).trans hw35002_1), ((HB.out.cell (World.block_lt_of_cell? w _ hw35002_2)).trans hw35002_2), ((HB.out.cell (World.block_lt_of_cell? w _ hw35002_3)).trans hw35002_3)⟩ (fun hHeld => ?_); refine with_tabW laws_eqBoxS.tab6 laws_eqBoxS.bits6 (fun HT_ HW_ => ?_)
                generalize wr.drew = w11 at HB hx35001_0 hx35001_1 hx35001_2 hx35001_3 hx35002_0 hx35002_1 hx35002_2 hx35002_3 hHeld ⊢
                refine pure_ (i := 0) (N := some 17) (v := ?_) (a' := ?_) #[true, false, false, false, false, false, false, false, false, false] rfl rfl (any_of HT_.out (by kernel_rfl)) (fun _ _ _ h => h) (Or.inl ⟨by rfl, ?_⟩) ?_ ?_
                rotate_left
                · intro w'
                  go_simp
                  with_reducible rfl
                rotate_left
                · simp only [Act.put, List.setIfInBounds_toArray, List.set_cons_zero, List.set_cons_succ, i64_w, i32_w]
                  rfl
                refine pure_ (i := 1) (N := some 18) (v := ?_) (a' := ?_) #[true, true, false, false, false, false, false, false, false, false] rfl rfl (any_of HT_.out (by kernel_rfl)) (fun _ _ _ h => h) (Or.inl ⟨by rfl, ?_⟩) ?_ ?_
                rotate_left
                · intro w'
                  go_simp
                  with_reducible rfl
                rotate_left
                · simp only [Act.put, List.setIfInBounds_toArray, List.set_cons_zero, List.set_cons_succ, i64_w, i32_w]
                  rfl
                refine pure_ (i := 2) (N := some 19) (v := ?_) (a' := ?_) #[true, true, true, false, false, false, false, false, false, false] rfl rfl (any_of HT_.out (by kernel_rfl)) (fun _ _ _ h => h) (Or.inl ⟨by rfl, ?_⟩) ?_ ?_
                rotate_left
                · intro w'
                  go_simp
                  with_reducible rfl
                rotate_left
                · simp only [Act.put, List.setIfInBounds_toArray, List.set_cons_zero, List.set_cons_succ, i64_w, i32_w]
                  rfl
                refine pure_ (i := 4) (N := some 21) (v := ?_) (a' := ?_) #[true, true, true, false, true, false, false, false, false, false] rfl rfl (any_of HT_.out (by kernel_rfl)) (fun _ _ _ h => h) (Or.inl ⟨by rfl, ?_⟩) ?_ ?_
                rotate_left
                · intro w'
                  go_simp
                  with_reducible rfl
                rotate_left
                · simp only [Act.put, List.setIfInBounds_toArray, List.set_cons_zero, List.set_cons_succ, i64_w, i32_w]
                  rfl
                refine pure_ (i := 5) (N := some 22) (v := ?_) (a' := ?_) #[true, true, true, false, true, true, false, false, false, false] rfl rfl (any_of HT_.out (by kernel_rfl)) (fun _ _ _ h => h) (Or.inl ⟨by rfl, ?_⟩) ?_ ?_
                rotate_left
                · intro w'
                  go_simp
                  with_reducible rfl
                rotate_left
                · simp only [Act.put, List.setIfInBounds_toArray, List.set_cons_zero, List.set_cons_succ, i64_w, i32_w]
                  rfl
                refine pure_ (i := 6) (N := some 23) (v := ?_) (a' := ?_) #[true, true, true, false, true, true, true, false, false, false] rfl rfl (any_of HT_.out (by kernel_rfl)) (fun _ _ _ h => h) (Or.inl ⟨by rfl, ?_⟩) ?_ ?_
                rotate_left
                · intro w'
                  go_simp
                  with_reducible rfl
                rotate_left
                · simp only [Act.put, List.setIfInBounds_toArray, List.set_cons_zero, List.set_cons_succ, i64_w, i32_w]
                  rfl
                refine take_ (i := 3) (N := some 20) (v := ?_) (a' := ?_) #[true, true, true, true, true, true, true, false, false, false] rfl rfl (take_ofW HT_.out HW_.out (by kernel_rfl)) (fun _ _ _ h => h) (Or.inl ⟨by rfl, ?_⟩) hHeld ?_ ?_
                rotate_left
                · rintro w' ⟨s0, s1, s2, s3, s4, s5, s6, s7⟩
                  go_simp
                  with_reducible rfl
                rotate_left
                · simp only [Act.put, List.setIfInBounds_toArray, List.set_cons_zero, List.set_cons_succ, i64_w, i32_w]
                  rfl
                refine take_ (i := 7) (N := some 24) (v := ?_) (a' := ?_) #[true, true, true, true, true, true, true, true, false, false] rfl rfl (take_ofW HT_.out HW_.out (by kernel_rfl)) (fun _ _ _ h => h) (Or.inl ⟨by rfl, ?_⟩) hHeld ?_ ?_
                rotate_left
                · rintro w' ⟨s0, s1, s2, s3, s4, s5, s6, s7⟩
                  go_simp
                  with_reducible rfl
                rotate_left
                · simp only [Act.put, List.setIfInBounds_toArray, List.set_cons_zero, List.set_cons_succ, i64_w, i32_w]
                  rfl
                refine one_ (i := 8) (N := some 25) #[true, true, true, true, true, true, true, true, true, false] rfl rfl (one_of HT_.out (by kernel_rfl)) (by decide) (fun K hK => ?_)
                refine goes_ Try.func79 (by kernel_rfl) rfl #[.agg #[.int .i64 ((rd_T60 l0 x5_1).f0), .int .i64 ((rd_T60 l0 x5_1).f1), .int .i64 ((rd_T60 l0 x5_1).f2), .int .i64 ((rd_T60 l0 x5_1).f3)], .agg #[.int .i64 ((rd_T60 l1 x5_1).f0), .int .i64 ((rd_T60 l1 x5_1).f1), .int .i64 ((rd_T60 l1 x5_1).f2), .int .i64 ((rd_T60 l1 x5_1).f3)]] (by rfl) rfl rfl (by (try simp only [List.map_toArray, List.map_cons, List.map_nil]); first | done | rfl | (simp only [List.length_drop, List.length_take]; rfl)) ?_
                with_reducible refine (laws_eqBox.calls ((rd_T60 l0 x5_1).f0) ((rd_T60 l0 x5_1).f1) ((rd_T60 l0 x5_1).f2) ((rd_T60 l0 x5_1).f3) ((rd_T60 l1 x5_1).f0) ((rd_T60 l1 x5_1).f1) ((rd_T60 l1 x5_1).f2) ((rd_T60 l1 x5_1).f3) false _ A7.out).mono ?_
                rintro e w12 ⟨rfl, hb⟩
                refine ⟨_, rfl, ?_⟩
                have n0_ := Aside0.mk (below_step (by repeat (first | (with_reducible first | exact HB.out | apply below_alloc | apply pw_below_drewN | apply below_drew1) | exact HB.out)) hb)
                clear HB
                have HB := n0_
                clear n0_
                (try clear hb)
                (try clear hb2)
                (try clear hk)
                (try clear hi)
                refine hK.out _ _ ⟨((HB.out.cell (World.block_lt_of_cell? w _ hw35001_0)).trans hw35001_0), ((HB.out.cell (World.block_lt_of_cell? w _ hw35001_1)).trans hw35001_1), ((HB.out.cell (World.block_lt_of_cell? w _ hw35001_2)).trans hw35001_2), ((HB.out.cell (World.block_lt_of_cell? w _ hw35001_3)).trans hw35001_3), ((HB.out.cell (World.block_lt_of_cell? w _ hw35002_0)).trans hw35002_0), ((HB.out.cell (World.block_lt_of_cell? w _ hw35002_1)).trans hw35002_1), ((HB.out.cell (World.block_lt_of_cell? w _ hw35002_2)).trans hw35002_2), ((HB.out.cell (World.block_lt_of_cell? w _ hw35002_3)).trans hw35002_3)⟩ (fun hHeld => ?_)
                clear hK K
                refine norm_ (a' := ?_) ?_ ?_
                rotate_left
                · show Act.put _ (some 25) _ = _
                  simp only [Act.put, List.setIfInBounds_toArray, List.set_cons_zero, List.set_cons_succ, i64_w, i32_w]
                  rfl
                refine pure_ (i := 9) (N := some 26) (v := ?_) (a' := ?_) #[true, true, true, true, true, true, true, true, true, true] rfl rfl (any_of HT_.out (by kernel_rfl)) (fun _ _ _ h => h) (Or.inl ⟨by rfl, ?_⟩) ?_ ?_
                rotate_left
                · intro w'
                  go_simp
                  with_reducible rfl
                rotate_left
                · simp only [Act.put, List.setIfInBounds_toArray, List.set_cons_zero, List.set_cons_succ, i64_w, i32_w]
                  rfl
                refine done_ (done_of HT_.out (by kernel_rfl)) ?_
                try go_wp2
                go_ret
                exact ⟨by first | rfl | (simp [errW_none, errW_some] <;> rfl) | (simp [*, errW_none, errW_some] <;> rfl), by repeat (first | (with_reducible first | exact HB.out | apply below_alloc | apply pw_below_drewN | apply below_drew1) | exact HB.out)⟩
            · rw [if_neg c6] at H
              exact absurd H (by simp)
          · rw [if_neg c5] at H
            exact absurd H (by simp)
        · rw [if_neg c4] at H
          have c4b0 : decide (x5_1 < (l0.length : Int)) = false := decide_eq_false c4
          clear c4
          obtain rfl := Option.some.inj H
          go_wp2
          go_ret
          exact ⟨by first | rfl | (simp [errW_none, errW_some] <;> rfl) | (simp [*, errW_none, errW_some] <;> rfl), by repeat (first | (with_reducible first | exact HB.out | apply below_alloc | apply pw_below_drewN | apply below_drew1) | exact HB.out)⟩
  · rw [if_neg c3] at H
    have c3b0 : ((l0.length : Int) == (l1.length : Int)) = false := beq_eq_false_iff_ne.mpr c3
    have c3b1 : ((l0.length : Int) != (l1.length : Int)) = true := bne_iff_ne.mpr c3
    have c3b2 : (l0.length == l1.length) = false := by first | simpa using c3 | (simp at c3 ⊢; omega)
    obtain rfl := Option.some.inj H
    go_enter Try.func34, Try.ntmps34
    go_wp2
    go_ret
    exact ⟨by first | rfl | (simp [errW_none, errW_some] <;> rfl) | (simp [*, errW_none, errW_some] <;> rfl), by repeat (first | (with_reducible first | exact HB.out | apply below_alloc | apply pw_below_drewN | apply below_drew1) | exact HB.out)⟩

end Go.Proofs.Ytbgohbinonkhfaa.Q

namespace Go.Proofs.Ytbgohbinonkhfaa.Q
open Go.RowKit Go.Proofs.YtbgohbinonkhfaaW.PrintWords Go.Proofs.YtbgohbinonkhfaaW.PrintLast Go.Proofs.YtbgohbinonkhfaaW.PrintMore
attribute [local go_sem] max2_int min2_int max_two min_two max_three min_three max_four min_four
set_option linter.unusedVariables false
set_option linter.unusedSimpArgs false
/-! ### laws_markBoxS: function 35 -/
def laws_markBoxS.l0 : Nat → List (S60) → Int → Int → Option (Int × (List (S60)))
  | 0, _, _, _ => none
  | k + 1, x0, x1, x5 => if x5 < (x0.length : Int) then (if 0 ≤ x5 then ((some (x0.set (x5 : Int).toNat (⟨x1, (rd_T60 x0 x5).f1, (rd_T60 x0 x5).f2, (rd_T60 x0 x5).f3⟩ : S60) : List (S60))).bind fun y36001 => ((some (y36001.set (x5 : Int).toNat (⟨(rd_T60 y36001 x5).f0, wrap64 (x1 + 1), (rd_T60 y36001 x5).f2, (rd_T60 y36001 x5).f3⟩ : S60) : List (S60))).bind fun y36002 => ((some (y36002.set (x5 : Int).toNat (⟨(rd_T60 y36002 x5).f0, (rd_T60 y36002 x5).f1, wrap64 ((wrap64 (x1 + 1)) + 1), (rd_T60 y36002 x5).f3⟩ : S60) : List (S60))).bind fun y36003 => (laws_markBoxS.l0 k (y36003.set (x5 : Int).toNat (⟨(rd_T60 y36003 x5).f0, (rd_T60 y36003 x5).f1, (rd_T60 y36003 x5).f2, wrap64 ((wrap64 ((wrap64 (x1 + 1)) + 1)) + 1)⟩ : S60)) (wrap64 ((wrap64 ((wrap64 ((wrap64 (x1 + 1)) + 1)) + 1)) + 1)) (wrap64 (x5 + 1)))))) else (none)) else (some (x1, x0))
def laws_markBoxS.f (k : Nat) (l0 : List (S60)) (a1 : Int) : Option (Int × (List (S60))) := laws_markBoxS.l0 k l0 a1 0
theorem laws_markBoxS.mono_l : ∀ k, (∀ y0 y1 y2, LeO (laws_markBoxS.l0 k y0 y1 y2) (laws_markBoxS.l0 (k + 1) y0 y1 y2))
  | 0 => fun _ _ _ r h => by simp [laws_markBoxS.l0] at h
  | k + 1 => by
    have ih0 := laws_markBoxS.mono_l k
    · intro y0 y1 y2
      unfold laws_markBoxS.l0
      repeat' first
      | (with_reducible exact ih0 _ _ _)
      | (with_reducible exact LeO.refl _)
      | (with_reducible exact LeO.none _)
      | (with_reducible refine LeO.ite ?_ ?_)
      | (with_reducible refine LeO.bind ?_ (fun _ => ?_))
      | exact ih0 _ _ _
      | exact LeO.none _
      | refine LeO.ite ?_ ?_
      | refine LeO.bind ?_ (fun _ => ?_)
theorem laws_markBoxS.mono : ∀ a0 a1 k, LeO (laws_markBoxS.f k a0 a1) (laws_markBoxS.f (k + 1) a0 a1) := by
  intro a0 a1 k
  have ih0 := laws_markBoxS.mono_l k
  unfold laws_markBoxS.f
  repeat' first
      | (with_reducible exact ih0 _ _ _)
      | (with_reducible exact LeO.refl _)
      | (with_reducible exact LeO.none _)
      | (with_reducible refine LeO.ite ?_ ?_)
      | (with_reducible refine LeO.bind ?_ (fun _ => ?_))
      | exact ih0 _ _ _
      | exact LeO.none _
      | refine LeO.ite ?_ ?_
      | refine LeO.bind ?_ (fun _ => ?_)
set_option maxHeartbeats 8000000 in
set_option maxRecDepth 100000 in
theorem laws_markBoxS.calls (k : Nat) (P0_ : Nat → Prop) (u9000_ : Value) (l0 : List (S60)) (a1 : Int) (r1 : Int) (r2 : List (S60)) (w0 w : World) (hB : Below w0.heap.size w0 w) (ho0 : Kd.R k60 60 w w0.heap.size P0_ u9000_ l0) (h : laws_markBoxS.f k l0 a1 = some (r1, r2)) :
    Calls Try.prog 35 #[u9000_, .int .i64 a1] w fun e w' => e = .returned (.int .i64 r1) ∧ Kd.R k60 60 w' w0.heap.size (fun k_ => (P0_ k_ ∨ w.heap.size ≤ k_)) u9000_ r2 ∧ Below w0.heap.size w0 w' ∧ Kept w w' (fun k_ => P0_ k_) := by
  have HO0 := Aside0.mk (show Kd.R k60 60 w w0.heap.size (fun k_ => (P0_ k_ ∨ w.heap.size ≤ k_)) u9000_ l0 from Kd.R_mono ho0 (fun k_ hk => (.inl hk)))
  have HK := Aside0.mk (Kept.refl w (fun k_ => P0_ k_))
  have HW0 := Aside0.mk hB.size
  have HB := Aside0.mk hB
  clear hB
  have H : (laws_markBoxS.l0 k l0 a1 0) = some (r1, r2) := h
  clear h
  have H' := Aside0.mk H
  clear H
  go_enter Try.func35, Try.ntmps35
  go_wp2
  go_loopg [1, 5] k (fun kq v1 v5 w' => ∃ (x0_1 : List (S60)) (x1_1 : Int) (x5_1 : Int), v1 = .int .i64 x1_1 ∧ v5 = .int .i64 x5_1 ∧ Aside0 (laws_markBoxS.l0 kq x0_1 x1_1 x5_1 = some (r1, r2)) ∧ Aside0 (kq ≤ k) ∧ Aside0 (Kd.R k60 60 w' w0.heap.size (fun k_ => (P0_ k_ ∨ w.heap.size ≤ k_)) u9000_ x0_1) ∧ Aside0 (Kept w w' (fun k_ => P0_ k_)) ∧ Aside0 (Below w0.heap.size w0 w'))
  case atStart => exact ⟨(l0), (a1), (0), (by first | rfl | (simp; done) | (simp [*]; done)), (by first | rfl | (simp; done) | (simp [*]; done)), H', ⟨Nat.le_refl _⟩, ⟨by (with_reducible repeat (first | apply Kd.R_alloc | apply Kd.R_drewN | apply Kd.R_drew)); exact HO0.out⟩, ⟨by repeat (first | (with_reducible first | exact HK.out | apply Kept.alloc | apply Kept.drewN | apply Kept.drew) | exact HK.out)⟩, ⟨by repeat (first | (with_reducible first | exact HB.out | apply below_alloc | apply pw_below_drewN | apply below_drew1) | exact HB.out)⟩⟩
  case round =>
    clear H'
    try clear p2
    obtain ⟨x0_1, x1_1, x5_1, rfl, rfl, HA, HK1, HO_0, HK, HB⟩ := hrel
    cases gk with
    | zero => exact absurd HA.out (by simp [laws_markBoxS.l0])
    | succ k1 =>
      have H := HA.out
      clear HA
      simp only [laws_markBoxS.l0] at H
      by_cases c3 : x5_1 < (x0_1.length : Int)
      · rw [if_pos c3] at H
        have c3b0 : decide (x5_1 < (x0_1.length : Int)) = true := decide_eq_true c3
        clear c3
        by_cases c4 : 0 ≤ x5_1
        · rw [if_pos c4] at H
          have c4b0 : decide (0 ≤ x5_1) = true := decide_eq_true c4
          clear c4
          obtain ⟨y36001, hy36001⟩ : ∃ y_ : List (S60), y_ = (x0_1.set (x5_1 : Int).toNat (⟨x1_1, (rd_T60 x0_1 x5_1).f1, (rd_T60 x0_1 x5_1).f2, (rd_T60 x0_1 x5_1).f3⟩ : S60)) := ⟨_, rfl⟩
          replace H : ((some (y36001.set (x5_1 : Int).toNat (⟨(rd_T60 y36001 x5_1).f0, wrap64 (x1_1 + 1), (rd_T60 y36001 x5_1).f2, (rd_T60 y36001 x5_1).f3⟩ : S60) : List (S60))).bind fun y36002 => ((some (y36002.set (x5_1 : Int).toNat (⟨(rd_T60 y36002 x5_1).f0, (rd_T60 y36002 x5_1).f1, wrap64 ((wrap64 (x1_1 + 1)) + 1), (rd_T60 y36002 x5_1).f3⟩ : S60) : List (S60))).bind fun y36003 => (laws_markBoxS.l0 k1 (y36003.set (x5_1 : Int).toNat (⟨(rd_T60 y36003 x5_1).f0, (rd_T60 y36003 x5_1).f1, (rd_T60 y36003 x5_1).f2, wrap64 ((wrap64 ((wrap64 (x1_1 + 1)) + 1)) + 1)⟩ : S60)) (wrap64 ((wrap64 ((wrap64 ((wrap64 (x1_1 + 1)) + 1)) + 1)) + 1)) (wrap64 (x5_1 + 1))))) = some (r1, r2) := by first | (rw [hy36001]; with_reducible exact H) | (have H2_ := (Option.bind_some _ _).symm.trans H; rw [hy36001]; with_reducible exact H2_) | (have H2_ := (Option.bind_some _ _).symm.trans H; with_reducible exact H2_) | with_reducible exact H | (rw [hy36001]; exact H) | exact H
          have Ny36001 := Aside0.mk hy36001
          clear hy36001
          obtain ⟨y36002, hy36002⟩ : ∃ y_ : List (S60), y_ = (y36001.set (x5_1 : Int).toNat (⟨(rd_T60 y36001 x5_1).f0, wrap64 (x1_1 + 1), (rd_T60 y36001 x5_1).f2, (rd_T60 y36001 x5_1).f3⟩ : S60)) := ⟨_, rfl⟩
          replace H : ((some (y36002.set (x5_1 : Int).toNat (⟨(rd_T60 y36002 x5_1).f0, (rd_T60 y36002 x5_1).f1, wrap64 ((wrap64 (x1_1 + 1)) + 1), (rd_T60 y36002 x5_1).f3⟩ : S60) : List (S60))).bind fun y36003 => (laws_markBoxS.l0 k1 (y36003.set (x5_1 : Int).toNat (⟨(rd_T60 y36003 x5_1).f0, (rd_T60 y36003 x5_1).f1, (rd_T60 y36003 x5_1).f2, wrap64 ((wrap64 ((wrap64 (x1_1 + 1)) + 1)) + 1)⟩ : S60)) (wrap64 ((wrap64 ((wrap64 ((wrap64 (x1_1 + 1)) + 1)) + 1)) + 1)) (wrap64 (x5_1 + 1)))) = some (r1, r2) := by first | (rw [hy36002]; with_reducible exact H) | (have H2_ := (Option.bind_some _ _).symm.trans H; rw [hy36002]; with_reducible exact H2_) | (have H2_ := (Option.bind_some _ _).symm.trans H; with_reducible exact H2_) | with_reducible exact H | (rw [hy36002]; exact H) | exact H
          have Ny36002 := Aside0.mk hy36002
          clear hy36002
          obtain ⟨y36003, hy36003⟩ : ∃ y_ : List (S60), y_ = (y36002.set (x5_1 : Int).toNat (⟨(rd_T60 y36002 x5_1).f0, (rd_T60 y36002 x5_1).f1, wrap64 ((wrap64 (x1_1 + 1)) + 1), (rd_T60 y36002 x5_1).f3⟩ : S60)) := ⟨_, rfl⟩
          replace H : (laws_markBoxS.l0 k1 (y36003.set (x5_1 : Int).toNat (⟨(rd_T60 y36003 x5_1).f0, (rd_T60 y36003 x5_1).f1, (rd_T60 y36003 x5_1).f2, wrap64 ((wrap64 ((wrap64 (x1_1 + 1)) + 1)) + 1)⟩ : S60)) (wrap64 ((wrap64 ((wrap64 ((wrap64 (x1_1 + 1)) + 1)) + 1)) + 1)) (wrap64 (x5_1 + 1))) = some (r1, r2) := by first | (rw [hy36003]; with_reducible exact H) | (have H2_ := (Option.bind_some _ _).symm.trans H; rw [hy36003]; with_reducible exact H2_) | (have H2_ := (Option.bind_some _ _).symm.trans H; with_reducible exact H2_) | with_reducible exact H | (rw [hy36003]; exact H) | exact H
          have Ny36003 := Aside0.mk hy36003
          clear hy36003
          obtain ⟨y36004, hy36004⟩ : ∃ y_ : List (S60), y_ = (y36003.set (x5_1 : Int).toNat (⟨(rd_T60 y36003 x5_1).f0, (rd_T60 y36003 x5_1).f1, (rd_T60 y36003 x5_1).f2, wrap64 ((wrap64 ((wrap64 (x1_1 + 1)) + 1)) + 1)⟩ : S60)) := ⟨_, rfl⟩
          replace H : (laws_markBoxS.l0 k1 y36004 (wrap64 ((wrap64 ((wrap64 ((wrap64 (x1_1 + 1)) + 1)) + 1)) + 1)) (wrap64 (x5_1 + 1))) = some (r1, r2) := by first | (rw [hy36004]; with_reducible exact H) | (have H2_ := (Option.bind_some _ _).symm.trans H; rw [hy36004]; with_reducible exact H2_) | (have H2_ := (Option.bind_some _ _).symm.trans H; with_reducible exact H2_) | with_reducible exact H | (rw [hy36004]; exact H) | exact H
          have Ny36004 := Aside0.mk hy36004
          clear hy36004
          have H' := Aside0.mk H
          clear H
          obtain ⟨Ao9, co9, eo9⟩ := Kd.R_slice HO_0.out
          subst eo9
          have p5 : 0 ≤ (x5_1 : Int) := of_decide_eq_true (by first | (with_reducible assumption) | assumption)
          have q5 : (x5_1 : Int) < ((x0_1.length : Int) : Int) := of_decide_eq_true (by first | (with_reducible assumption) | assumption)
          obtain ⟨go5, co5, eo5, gb5, gl5, cl5, HG5⟩ := Kd.R_form HO_0.out (by omega)
          (first | cases eo5 | (injection eo5 with ea_ en_ ec_; (first | subst ea_ | (injection ea_ with ea_; subst ea_)); subst ec_; clear en_))
          have GB5 := Aside0.mk gb5
          have GG5 := Aside0.mk HG5
          clear gb5 gl5 HG5
          have HMgo5 := Aside0.mk (show (P0_ go5 ∨ w.heap.size ≤ go5) from (HO_0.out.1 _ rfl))
          obtain ⟨ce5, hcl5, hM5, hcc5, hfr5⟩ := Kd.R_elem HO_0.out z60 (x5_1 : Int) p5 q5
          obtain rfl := k60_openM hM5
          have hx5_0 : wr.cell? ⟨go5, (x5_1 : Int).toNat * 4, none⟩ = some (.int .i64 ((rd_T60 x0_1 x5_1).f0)) := hcc5 0 _ rfl
          have hx5_1 : wr.cell? ⟨go5, (x5_1 : Int).toNat * 4 + 1, none⟩ = some (.int .i64 ((rd_T60 x0_1 x5_1).f1)) := hcc5 1 _ rfl
          have hx5_2 : wr.cell? ⟨go5, (x5_1 : Int).toNat * 4 + 2, none⟩ = some (.int .i64 ((rd_T60 x0_1 x5_1).f2)) := hcc5 2 _ rfl
          have hx5_3 : wr.cell? ⟨go5, (x5_1 : Int).toNat * 4 + 3, none⟩ = some (.int .i64 ((rd_T60 x0_1 x5_1).f3)) := hcc5 3 _ rfl
          have hf5_0 : wr.frozen? ⟨go5, (x5_1 : Int).toNat * 4, none⟩ = false := hfr5 0
          have hf5_1 : wr.frozen? ⟨go5, (x5_1 : Int).toNat * 4 + 1, none⟩ = false := hfr5 1
          have hf5_2 : wr.frozen? ⟨go5, (x5_1 : Int).toNat * 4 + 2, none⟩ = false := hfr5 2
          have hf5_3 : wr.frozen? ⟨go5, (x5_1 : Int).toNat * 4 + 3, none⟩ = false := hfr5 3
          clear hcl5 hcc5 hfr5 hM5
          replace p5 := eq_true p5
          replace q5 := eq_true q5
          have HX10 := Aside0.mk (show Kd.R k60 60 wr w0.heap.size (fun k_ => (P0_ k_ ∨ w.heap.size ≤ k_)) (.slice (some ⟨go5, 0, none⟩) x0_1.length co9) x0_1 from (by (with_reducible repeat (first | apply Kd.R_alloc | apply Kd.R_drewN | apply Kd.R_drew)); exact HO_0.out))
          obtain ⟨ce10, hcl10, hM10, hcc10, hfr10⟩ := Kd.R_elem HX10.out z60 (x5_1 : Int) (of_decide_eq_true (by first | (with_reducible assumption) | assumption)) (by have h_ : (x5_1 : Int) < ((x0_1.length : Int) : Int) := of_decide_eq_true (by first | (with_reducible assumption) | assumption); first | exact h_ | (have e_ := (Kd.R_reads' HO_0.out).1; omega) | simpa using h_)
          obtain rfl := k60_openM hM10
          have HP10 := Kd.R_seg HX10.out (x5_1 : Int) (of_decide_eq_true (by first | (with_reducible assumption) | assumption)) (by have h_ : (x5_1 : Int) < ((x0_1.length : Int) : Int) := of_decide_eq_true (by first | (with_reducible assumption) | assumption); first | exact h_ | (have e_ := (Kd.R_reads' HO_0.out).1; omega) | simpa using h_) (seg := [.int .i64 x1_1]) (j := 0) hcl10 hcc10 (show 1 ≤ 4 from by decide) (x' := (⟨x1_1, (rd_T60 x0_1 x5_1).f1, (rd_T60 x0_1 x5_1).f2, (rd_T60 x0_1 x5_1).f3⟩ : S60)) (k60_mkM _ _ _ (⟨x1_1, (rd_T60 x0_1 x5_1).f1, (rd_T60 x0_1 x5_1).f2, (rd_T60 x0_1 x5_1).f3⟩ : S60) ) (fun _ hk => hk)
          have hx10_0 := hcc10 0 _ rfl
          (try simp only [show (k60).sz = 4 from rfl, Nat.mul_one, Nat.add_zero] at hx10_0)
          have hf10_0 := hfr10 0
          (try simp only [show (k60).sz = 4 from rfl, Nat.mul_one, Nat.add_zero] at hf10_0)
          clear hcl10 hcc10 hfr10 hM10
          go_wp2_with (first | ((with_reducible refine gate_store (t := 3) (p := 16) rfl ?_); refine store_event (t := 3) (p := 16) (v := ?vo_w11) (w1 := (wr.setCell ⟨go5, (x5_1 : Int).toNat * 4, none⟩ (.int .i64 x1_1))) ?hg ?ho ?hn ?hr ?_; (case ho => rfl); (case hg => rfl); (case hn => rfl); (case hr => first | (go_simp; done) | (go_simp; rfl)); intro w11 hw; have hg : wr.grownBy w11 (some go5) := (by rw [hw]; exact HP10.2); have hp_ : Kd.R k60 60 w11 w0.heap.size (fun k_ => (P0_ k_ ∨ w.heap.size ≤ k_)) (.slice (some ⟨go5, 0, none⟩) x0_1.length co9) y36001 := (by rw [hw, Ny36001.out]; exact HP10.1); clear HP10; have n0_ := Aside0.mk (hp_); have n1_ := Aside0.mk ((by rw [hw]; exact below_set (HB.out) GB5.out : Below w0.heap.size w0 w11)); have n2_ := Aside0.mk (Kept.of_grown (S := (fun k_ => P0_ k_)) hg (by repeat (first | (with_reducible first | exact HK.out | apply Kept.alloc | apply Kept.drewN | apply Kept.drew) | exact HK.out)) (fun k_ e_ => (HO_0.out.1 k_ e_))); clear HO_0; clear HB; clear HK; have HO_0 := n0_; have HB := n1_; have HK := n2_; clear n0_ n1_ n2_; clear hg hw hp_; have p6 : 0 ≤ (x5_1 : Int) := of_decide_eq_true (by first | (with_reducible assumption) | assumption); have q6 : (x5_1 : Int) < ((x0_1.length : Int) : Int) := of_decide_eq_true (by first | (with_reducible assumption) | assumption); obtain ⟨ce6, hcl6, hM6, hcc6, hfr6⟩ := Kd.R_elem HO_0.out z60 (x5_1 : Int) p6 q6; obtain rfl := k60_openM hM6; have hx6_0 : w11.cell? ⟨go5, (x5_1 : Int).toNat * 4, none⟩ = some (.int .i64 ((rd_T60 y36001 x5_1).f0)) := hcc6 0 _ rfl; have hx6_1 : w11.cell? ⟨go5, (x5_1 : Int).toNat * 4 + 1, none⟩ = some (.int .i64 ((rd_T60 y36001 x5_1).f1)) := hcc6 1 _ rfl; have hx6_2 : w11.cell? ⟨go5, (x5_1 : Int).toNat * 4 + 2, none⟩ = some (.int .i64 ((rd_T60 y36001 x5_1).f2)) := hcc6 2 _ rfl; have hx6_3 : w11.cell? ⟨go5, (x5_1 : Int).toNat * 4 + 3, none⟩ = some (.int .i64 ((rd_T60 y36001 x5_1).f3)) := hcc6 3 _ rfl; have hf6_0 : w11.frozen? ⟨go5, (x5_1 : Int).toNat * 4, none⟩ = false := hfr6 0; have hf6_1 : w11.frozen? ⟨go5, (x5_1 : Int).toNat * 4 + 1, none⟩ = false := hfr6 1; have hf6_2 : w11.frozen? ⟨go5, (x5_1 : Int).toNat * 4 + 2, none⟩ = false := hfr6 2; have hf6_3 : w11.frozen? ⟨go5, (x5_1 : Int).toNat * 4 + 3, none⟩ = false := hfr6 3; clear hcl6 hcc6 hfr6 hM6; replace p6 := eq_true p6; replace q6 := eq_true q6; have HX12 := Aside0.mk (show Kd.R k60 60 w11 w0.heap.size (fun k_ => (P0_ k_ ∨ w.heap.size ≤ k_)) (.slice (some ⟨go5, 0, none⟩) x0_1.length co9) y36001 from (by (with_reducible repeat (first | apply Kd.R_alloc | apply Kd.R_drewN | apply Kd.R_drew)); exact HO_0.out)); obtain ⟨ce12, hcl12, hM12, hcc12, hfr12⟩ := Kd.R_elem HX12.out z60 (x5_1 : Int) (of_decide_eq_true (by first | (with_reducible assumption) | assumption)) (by have h_ : (x5_1 : Int) < ((x0_1.length : Int) : Int) := of_decide_eq_true (by first | (with_reducible assumption) | assumption); first | exact h_ | (have e_ := (Kd.R_reads' HO_0.out).1; omega) | simpa using h_); obtain rfl := k60_openM hM12; have HP12 := Kd.R_seg HX12.out (x5_1 : Int) (of_decide_eq_true (by first | (with_reducible assumption) | assumption)) (by have h_ : (x5_1 : Int) < ((x0_1.length : Int) : Int) := of_decide_eq_true (by first | (with_reducible assumption) | assumption); first | exact h_ | (have e_ := (Kd.R_reads' HO_0.out).1; omega) | simpa using h_) (seg := [.int .i64 (wrap64 (x1_1 + 1))]) (j := 1) hcl12 hcc12 (show 2 ≤ 4 from by decide) (x' := (⟨(rd_T60 y36001 x5_1).f0, wrap64 (x1_1 + 1), (rd_T60 y36001 x5_1).f2, (rd_T60 y36001 x5_1).f3⟩ : S60)) (k60_mkM _ _ _ (⟨(rd_T60 y36001 x5_1).f0, wrap64 (x1_1 + 1), (rd_T60 y36001 x5_1).f2, (rd_T60 y36001 x5_1).f3⟩ : S60) ) (fun _ hk => hk); have hx12_1 := hcc12 1 _ rfl; (try simp only [show (k60).sz = 4 from rfl, Nat.mul_one, Nat.add_zero] at hx12_1); have hf12_1 := hfr12 1; (try simp only [show (k60).sz = 4 from rfl, Nat.mul_one, Nat.add_zero] at hf12_1); clear hcl12 hcc12 hfr12 hM12) | ((with_reducible refine gate_store (t := 3) (p := 23) rfl ?_); refine store_event (t := 3) (p := 23) (v := ?vo_w13) (w1 := (w11.setCell ⟨go5, (x5_1 : Int).toNat * 4 + 1, none⟩ (.int .i64 (wrap64 (x1_1 + 1))))) ?hg ?ho ?hn ?hr ?_; (case ho => rfl); (case hg => rfl); (case hn => rfl); (case hr => first | (go_simp; done) | (go_simp; rfl)); intro w13 hw; have hg : w11.grownBy w13 (some go5) := (by rw [hw]; exact HP12.2); have hp_ : Kd.R k60 60 w13 w0.heap.size (fun k_ => (P0_ k_ ∨ w.heap.size ≤ k_)) (.slice (some ⟨go5, 0, none⟩) x0_1.length co9) y36002 := (by rw [hw, Ny36002.out]; exact HP12.1); clear HP12; have n0_ := Aside0.mk (hp_); have n1_ := Aside0.mk ((by rw [hw]; exact below_set (HB.out) GB5.out : Below w0.heap.size w0 w13)); have n2_ := Aside0.mk (Kept.of_grown (S := (fun k_ => P0_ k_)) hg (by repeat (first | (with_reducible first | exact HK.out | apply Kept.alloc | apply Kept.drewN | apply Kept.drew) | exact HK.out)) (fun k_ e_ => (HO_0.out.1 k_ e_))); clear HO_0; clear HB; clear HK; have HO_0 := n0_; have HB := n1_; have HK := n2_; clear n0_ n1_ n2_; clear hg hw hp_; have p7 : 0 ≤ (x5_1 : Int) := of_decide_eq_true (by first | (with_reducible assumption) | assumption); have q7 : (x5_1 : Int) < ((x0_1.length : Int) : Int) := of_decide_eq_true (by first | (with_reducible assumption) | assumption); obtain ⟨ce7, hcl7, hM7, hcc7, hfr7⟩ := Kd.R_elem HO_0.out z60 (x5_1 : Int) p7 q7; obtain rfl := k60_openM hM7; have hx7_0 : w13.cell? ⟨go5, (x5_1 : Int).toNat * 4, none⟩ = some (.int .i64 ((rd_T60 y36002 x5_1).f0)) := hcc7 0 _ rfl; have hx7_1 : w13.cell? ⟨go5, (x5_1 : Int).toNat * 4 + 1, none⟩ = some (.int .i64 ((rd_T60 y36002 x5_1).f1)) := hcc7 1 _ rfl; have hx7_2 : w13.cell? ⟨go5, (x5_1 : Int).toNat * 4 + 2, none⟩ = some (.int .i64 ((rd_T60 y36002 x5_1).f2)) := hcc7 2 _ rfl; have hx7_3 : w13.cell? ⟨go5, (x5_1 : Int).toNat * 4 + 3, none⟩ = some (.int .i64 ((rd_T60 y36002 x5_1).f3)) := hcc7 3 _ rfl; have hf7_0 : w13.frozen? ⟨go5, (x5_1 : Int).toNat * 4, none⟩ = false := hfr7 0; have hf7_1 : w13.frozen? ⟨go5, (x5_1 : Int).toNat * 4 + 1, none⟩ = false := hfr7 1; have hf7_2 : w13.frozen? ⟨go5, (x5_1 : Int).toNat * 4 + 2, none⟩ = false := hfr7 2; have hf7_3 : w13.frozen? ⟨go5, (x5_1 : Int).toNat * 4 + 3, none⟩ = false := hfr7 3; clear hcl7 hcc7 hfr7 hM7; replace p7 := eq_true p7; replace q7 := eq_true q7; have HX14 := Aside0.mk (show Kd.R k60 60 w13 w0.heap.size (fun k_ => (P0_ k_ ∨ w.heap.size ≤ k_)) (.slice (some ⟨go5, 0, none⟩) x0_1.length co9) y36002 from (by (with_reducible repeat (first | apply Kd.R_alloc | apply Kd.R_drewN | apply Kd.R_drew)); exact HO_0.out)); obtain ⟨ce14, hcl14, hM14, hcc14, hfr14⟩ := Kd.R_elem HX14.out z60 (x5_1 : Int) (of_decide_eq_true (by first | (with_reducible assumption) | assumption)) (by have h_ : (x5_1 : Int) < ((x0_1.length : Int) : Int) := of_decide_eq_true (by first | (with_reducible assumption) | assumption); first | exact h_ | (have e_ := (Kd.R_reads' HO_0.out).1; omega) | simpa using h_); obtain rfl := k60_openM hM14; have HP14 := Kd.R_seg HX14.out (x5_1 : Int) (of_decide_eq_true (by first | (with_reducible assumption) | assumption)) (by have h_ : (x5_1 : Int) < ((x0_1.length : Int) : Int) := of_decide_eq_true (by first | (with_reducible assumption) | assumption); first | exact h_ | (have e_ := (Kd.R_reads' HO_0.out).1; omega) | simpa using h_) (seg := [.int .i64 (wrap64 ((wrap64 (x1_1 + 1)) + 1))]) (j := 2) hcl14 hcc14 (show 3 ≤ 4 from by decide) (x' := (⟨(rd_T60 y36002 x5_1).f0, (rd_T60 y36002 x5_1).f1, wrap64 ((wrap64 (x1_1 + 1)) + 1), (rd_T60 y36002 x5_1).f3⟩ : S60)) (k60_mkM _ _ _ (⟨(rd_T60 y36002 x5_1).f0, (rd_T60 y36002 x5_1).f1, wrap64 ((wrap64 (x1_1 + 1)) + 1), (rd_T60 y36002 x5_1).f3⟩ : S60) ) (fun _ hk => hk); have hx14_2 := hcc14 2 _ rfl; (try simp only [show (k60).sz = 4 from rfl, Nat.mul_one, Nat.add_zero] at hx14_2); have hf14_2 := hfr14 2; (try simp only [show (k60).sz = 4 from rfl, Nat.mul_one, Nat.add_zero] at hf14_2); clear hcl14 hcc14 hfr14 hM14) | ((with_reducible refine gate_store (t := 3) (p := 30) rfl ?_); refine store_event (t := 3) (p := 30) (v := ?vo_w15) (w1 := (w13.setCell ⟨go5, (x5_1 : Int).toNat * 4 + 2, none⟩ (.int .i64 (wrap64 ((wrap64 (x1_1 + 1)) + 1))))) ?hg ?ho ?hn ?hr ?_; (case ho => rfl); (case hg => rfl); (case hn => rfl); (case hr => first | (go_simp; done) | (go_simp; rfl)); intro w15 hw; have hg : w13.grownBy w15 (some go5) := (by rw [hw]; exact HP14.2); have hp_ : Kd.R k60 60 w15 w0.heap.size (fun k_ => (P0_ k_ ∨ w.heap.size ≤ k_)) (.slice (some ⟨go5, 0, none⟩) x0_1.length co9) y36003 := (by rw [hw, Ny36003.out]; exact HP14.1); clear HP14; have n0_ := Aside0.mk (hp_); have n1_ := Aside0.mk ((by rw [hw]; exact below_set (HB.out) GB5.out : Below w0.heap.size w0 w15)); have n2_ := Aside0.mk (Kept.of_grown (S := (fun k_ => P0_ k_)) hg (by repeat (first | (with_reducible first | exact HK.out | apply Kept.alloc | apply Kept.drewN | apply Kept.drew) | exact HK.out)) (fun k_ e_ => (HO_0.out.1 k_ e_))); clear HO_0; clear HB; clear HK; have HO_0 := n0_; have HB := n1_; have HK := n2_; clear n0_ n1_ n2_; clear hg hw hp_; have p8 : 0 ≤ (x5_1 : Int) := of_decide_eq_true (by first | (with_reducible assumption) | assumption); have q8 : (x5_1 : Int) < ((x0_1.length : Int) : Int) := of_decide_eq_true (by first | (with_reducible assumption) | assumption); obtain ⟨ce8, hcl8, hM8, hcc8, hfr8⟩ := Kd.R_elem HO_0.out z60 (x5_1 : Int) p8 q8; obtain rfl := k60_openM hM8; have hx8_0 : w15.cell? ⟨go5, (x5_1 : Int).toNat * 4, none⟩ = some (.int .i64 ((rd_T60 y36003 x5_1).f0)) := hcc8 0 _ rfl; have hx8_1 : w15.cell? ⟨go5, (x5_1 : Int).toNat * 4 + 1, none⟩ = some (.int .i64 ((rd_T60 y36003 x5_1).f1)) := hcc8 1 _ rfl; have hx8_2 : w15.cell? ⟨go5, (x5_1 : Int).toNat * 4 + 2, none⟩ = some (.int .i64 ((rd_T60 y36003 x5_1).f2)) := hcc8 2 _ rfl; have hx8_3 : w15.cell? ⟨go5, (x5_1 : Int).toNat * 4 + 3, none⟩ = some (.int .i64 ((rd_T60 y36003 x5_1).f3)) := hcc8 3 _ rfl; have hf8_0 : w15.frozen? ⟨go5, (x5_1 : Int).toNat * 4, none⟩ = false := hfr8 0; have hf8_1 : w15.frozen? ⟨go5, (x5_1 : Int).toNat * 4 + 1, none⟩ = false := hfr8 1; have hf8_2 : w15.frozen? ⟨go5, (x5_1 : Int).toNat * 4 + 2, none⟩ = false := hfr8 2; have hf8_3 : w15.frozen? ⟨go5, (x5_1 : Int).toNat * 4 + 3, none⟩ = false := hfr8 3; clear hcl8 hcc8 hfr8 hM8; replace p8 := eq_true p8; replace q8 := eq_true q8; have HX16 := Aside0.mk (show Kd.R k60 60 w15 w0.heap.size (fun k_ => (P0_ k_ ∨ w.heap.size ≤ k_)) (.slice (some ⟨go5, 0, none⟩) x0_1.length co9) y36003 from (by (with_reducible repeat (first | apply Kd.R_alloc | apply Kd.R_drewN | apply Kd.R_drew)); exact HO_0.out)); obtain ⟨ce16, hcl16, hM16, hcc16, hfr16⟩ := Kd.R_elem HX16.out z60 (x5_1 : Int) (of_decide_eq_true (by first | (with_reducible assumption) | assumption)) (by have h_ : (x5_1 : Int) < ((x0_1.length : Int) : Int) := of_decide_eq_true (by first | (with_reducible assumption) | assumption); first | exact h_ | (have e_ := (Kd.R_reads' HO_0.out).1; omega) | simpa using h_); obtain rfl := k60_openM hM16; have HP16 := Kd.R_seg HX16.out (x5_1 : Int) (of_decide_eq_true (by first | (with_reducible assumption) | assumption)) (by have h_ : (x5_1 : Int) < ((x0_1.length : Int) : Int) := of_decide_eq_true (by first | (with_reducible assumption) | assumption); first | exact h_ | (have e_ := (Kd.R_reads' HO_0.out).1; omega) | simpa using h_) (seg := [.int .i64 (wrap64 ((wrap64 ((wrap64 (x1_1 + 1)) + 1)) + 1))]) (j := 3) hcl16 hcc16 (show 4 ≤ 4 from by decide) (x' := (⟨(rd_T60 y36003 x5_1).f0, (rd_T60 y36003 x5_1).f1, (rd_T60 y36003 x5_1).f2, wrap64 ((wrap64 ((wrap64 (x1_1 + 1)) + 1)) + 1)⟩ : S60)) (k60_mkM _ _ _ (⟨(rd_T60 y36003 x5_1).f0, (rd_T60 y36003 x5_1).f1, (rd_T60 y36003 x5_1).f2, wrap64 ((wrap64 ((wrap64 (x1_1 + 1)) + 1)) + 1)⟩ : S60) ) (fun _ hk => hk); have hx16_3 := hcc16 3 _ rfl; (try simp only [show (k60).sz = 4 from rfl, Nat.mul_one, Nat.add_zero] at hx16_3); have hf16_3 := hfr16 3; (try simp only [show (k60).sz = 4 from rfl, Nat.mul_one, Nat.add_zero] at hf16_3); clear hcl16 hcc16 hfr16 hM16) | ((with_reducible refine gate_store (t := 3) (p := 37) rfl ?_); refine store_event (t := 3) (p := 37) (v := ?vo_w17) (w1 := (w15.setCell ⟨go5, (x5_1 : Int).toNat * 4 + 3, none⟩ (.int .i64 (wrap64 ((wrap64 ((wrap64 (x1_1 + 1)) + 1)) + 1))))) ?hg ?ho ?hn ?hr ?_; (case ho => rfl); (case hg => rfl); (case hn => rfl); (case hr => first | (go_simp; done) | (go_simp; rfl)); intro w17 hw; have hg : w15.grownBy w17 (some go5) := (by rw [hw]; exact HP16.2); have hp_ : Kd.R k60 60 w17 w0.heap.size (fun k_ => (P0_ k_ ∨ w.heap.size ≤ k_)) (.slice (some ⟨go5, 0, none⟩) x0_1.length co9) y36004 := (by rw [hw, Ny36004.out]; exact HP16.1); clear HP16; have n0_ := Aside0.mk (hp_); have n1_ := Aside0.mk ((by rw [hw]; exact below_set (HB.out) GB5.out : Below w0.heap.size w0 w17)); have n2_ := Aside0.mk (Kept.of_grown (S := (fun k_ => P0_ k_)) hg (by repeat (first | (with_reducible first | exact HK.out | apply Kept.alloc | apply Kept.drewN | apply Kept.drew) | exact HK.out)) (fun k_ e_ => (HO_0.out.1 k_ e_))); clear HO_0; clear HB; clear HK; have HO_0 := n0_; have HB := n1_; have HK := n2_; clear n0_ n1_ n2_; clear hg hw hp_))
          go_roundg k1
          case measure => have := HK1.out; omega
          case rel => exact ⟨(y36004), (wrap64 ((wrap64 ((wrap64 ((wrap64 (x1_1 + 1)) + 1)) + 1)) + 1)), (wrap64 (x5_1 + 1)), (by first | rfl | (simp; done) | (simp [*]; done)), (by first | rfl | (simp; done) | (simp [*]; done)), H', ⟨by have := HK1.out; omega⟩, ⟨by (with_reducible repeat (first | apply Kd.R_alloc | apply Kd.R_drewN | apply Kd.R_drew)); exact HO_0.out⟩, ⟨by repeat (first | (with_reducible first | exact HK.out | apply Kept.alloc | apply Kept.drewN | apply Kept.drew) | exact HK.out)⟩, ⟨by repeat (first | (with_reducible first | exact HB.out | apply below_alloc | apply pw_below_drewN | apply below_drew1) | exact HB.out)⟩⟩
        · rw [if_neg c4] at H
          exact absurd H (by simp)
      · rw [if_neg c3] at H
        have c3b0 : decide (x5_1 < (x0_1.length : Int)) = false := decide_eq_false c3
        clear c3
        simp only [Option.some.injEq, Prod.mk.injEq] at H
        obtain ⟨rfl, rfl⟩ := H
        obtain ⟨Ao18, co18, eo18⟩ := Kd.R_slice HO_0.out
        subst eo18
        go_wp2
        go_ret
        exact ⟨by first | rfl | (simp [errW_none, errW_some] <;> rfl) | (simp [*, errW_none, errW_some] <;> rfl), by (with_reducible repeat (first | apply Kd.R_alloc | apply Kd.R_drewN | apply Kd.R_drew)); exact HO_0.out, by repeat (first | (with_reducible first | exact HB.out | apply below_alloc | apply pw_below_drewN | apply below_drew1) | exact HB.out), by repeat (first | (with_reducible first | exact HK.out | apply Kept.alloc | apply Kept.drewN | apply Kept.drew) | exact HK.out)⟩

end Go.Proofs.Ytbgohbinonkhfaa.Q

namespace Go.Proofs.Ytbgohbinonkhfaa.Q
open Go.RowKit Go.Proofs.YtbgohbinonkhfaaW.PrintWords Go.Proofs.YtbgohbinonkhfaaW.PrintLast Go.Proofs.YtbgohbinonkhfaaW.PrintMore
attribute [local go_sem] max2_int min2_int max_two min_two max_three min_three max_four min_four
set_option linter.unusedVariables false
set_option linter.unusedSimpArgs false
/-! ### laws_heldBoxS: function 36 -/
def laws_heldBoxS.l0 : Nat → List (S60) → Int → Int → Option (Int)
  | 0, _, _, _ => none
  | k + 1, x0, x1, x5 => if x5 < (x0.length : Int) then (if 0 ≤ x5 then (if ((rd_T60 x0 x5).f0) = x1 then (if ((rd_T60 x0 x5).f1) = (wrap64 (x1 + 1)) then (if ((rd_T60 x0 x5).f2) = (wrap64 ((wrap64 (x1 + 1)) + 1)) then (if ((rd_T60 x0 x5).f3) = (wrap64 ((wrap64 ((wrap64 (x1 + 1)) + 1)) + 1)) then (laws_heldBoxS.l0 k x0 (wrap64 ((wrap64 ((wrap64 ((wrap64 (x1 + 1)) + 1)) + 1)) + 1)) (wrap64 (x5 + 1))) else (some (-1))) else (some (-1))) else (some (-1))) else (some (-1))) else (none)) else (some x1)
def laws_heldBoxS.f (k : Nat) (l0 : List (S60)) (a1 : Int) : Option (Int) := laws_heldBoxS.l0 k l0 a1 0
theorem laws_heldBoxS.mono_l : ∀ k, (∀ y0 y1 y2, LeO (laws_heldBoxS.l0 k y0 y1 y2) (laws_heldBoxS.l0 (k + 1) y0 y1 y2))
  | 0 => fun _ _ _ r h => by simp [laws_heldBoxS.l0] at h
  | k + 1 => by
    have ih0 := laws_heldBoxS.mono_l k
    · intro y0 y1 y2
      unfold laws_heldBoxS.l0
      repeat' first
      | (with_reducible exact ih0 _ _ _)
      | (with_reducible exact LeO.refl _)
      | (with_reducible exact LeO.none _)
      | (with_reducible refine LeO.ite ?_ ?_)
      | (with_reducible refine LeO.bind ?_ (fun _ => ?_))
      | exact ih0 _ _ _
      | exact LeO.none _
      | refine LeO.ite ?_ ?_
      | refine LeO.bind ?_ (fun _ => ?_)
theorem laws_heldBoxS.mono : ∀ a0 a1 k, LeO (laws_heldBoxS.f k a0 a1) (laws_heldBoxS.f (k + 1) a0 a1) := by
  intro a0 a1 k
  have ih0 := laws_heldBoxS.mono_l k
  unfold laws_heldBoxS.f
  repeat' first
      | (with_reducible exact ih0 _ _ _)
      | (with_reducible exact LeO.refl _)
      | (with_reducible exact LeO.none _)
      | (with_reducible refine LeO.ite ?_ ?_)
      | (with_reducible refine LeO.bind ?_ (fun _ => ?_))
      | exact ih0 _ _ _
      | exact LeO.none _
      | refine LeO.ite ?_ ?_
      | refine LeO.bind ?_ (fun _ => ?_)
set_option maxHeartbeats 8000000 in
set_option maxRecDepth 100000 in
theorem laws_heldBoxS.calls (k : Nat) (A0 : Option Addr) (c0 : Nat) (l0 : List (S60)) (a1 : Int) (r : Int) (w : World) (hr0 : Kd.C k60 w A0 l0.length l0) (hc0 : l0.length ≤ c0) (h : laws_heldBoxS.f k l0 a1 = some r) :
    Calls Try.prog 36 #[.slice A0 l0.length c0, .int .i64 a1] w fun e w' => e = .returned (.int .i64 r) ∧ Drawn0 w w' := by
  have HR0 := Aside0.mk hr0
  have HC0 := Aside0.mk hc0
  clear hr0 hc0
  have H : (laws_heldBoxS.l0 k l0 a1 0) = some r := h
  clear h
  have H' := Aside0.mk H
  clear H
  go_enter Try.func36, Try.ntmps36
  go_wp2
  go_loopg [1, 5] k (fun kq v1 v5 w' => ∃ (x1_1 : Int) (x5_1 : Int), v1 = .int .i64 x1_1 ∧ v5 = .int .i64 x5_1 ∧ Aside0 (laws_heldBoxS.l0 kq l0 x1_1 x5_1 = some r) ∧ Aside0 (kq ≤ k) ∧ Drawn0 w w')
  case atStart => exact ⟨(a1), (0), (by first | rfl | (simp; done) | (simp [*]; done)), (by first | rfl | (simp; done) | (simp [*]; done)), H', ⟨Nat.le_refl _⟩, by repeat (first | exact Drawn0.refl _ | apply Drawn0.step)⟩
  case round =>
    clear H'
    try clear p2
    obtain ⟨x1_1, x5_1, rfl, rfl, HA, HK1, ⟨m1, rfl⟩⟩ := hrel
    cases gk with
    | zero => exact absurd HA.out (by simp [laws_heldBoxS.l0])
    | succ k1 =>
      have H := HA.out
      clear HA
      simp only [laws_heldBoxS.l0] at H
      by_cases c3 : x5_1 < (l0.length : Int)
      · rw [if_pos c3] at H
        have c3b0 : decide (x5_1 < (l0.length : Int)) = true := decide_eq_true c3
        clear c3
        by_cases c4 : 0 ≤ x5_1
        · rw [if_pos c4] at H
          have c4b0 : decide (0 ≤ x5_1) = true := decide_eq_true c4
          clear c4
          by_cases c5 : ((rd_T60 l0 x5_1).f0) = x1_1
          · rw [if_pos c5] at H
            have c5b0 : (((rd_T60 l0 x5_1).f0) == x1_1) = true := beq_iff_eq.mpr c5
            have c5b1 : (((rd_T60 l0 x5_1).f0) != x1_1) = false := bne_eq_false_iff_eq.mpr c5
            clear c5
            by_cases c6 : ((rd_T60 l0 x5_1).f1) = (wrap64 (x1_1 + 1))
            · rw [if_pos c6] at H
              have c6b0 : (((rd_T60 l0 x5_1).f1) == (wrap64 (x1_1 + 1))) = true := beq_iff_eq.mpr c6
              have c6b1 : (((rd_T60 l0 x5_1).f1) != (wrap64 (x1_1 + 1))) = false := bne_eq_false_iff_eq.mpr c6
              clear c6
              by_cases c7 : ((rd_T60 l0 x5_1).f2) = (wrap64 ((wrap64 (x1_1 + 1)) + 1))
              · rw [if_pos c7] at H
                have c7b0 : (((rd_T60 l0 x5_1).f2) == (wrap64 ((wrap64 (x1_1 + 1)) + 1))) = true := beq_iff_eq.mpr c7
                have c7b1 : (((rd_T60 l0 x5_1).f2) != (wrap64 ((wrap64 (x1_1 + 1)) + 1))) = false := bne_eq_false_iff_eq.mpr c7
                clear c7
                by_cases c8 : ((rd_T60 l0 x5_1).f3) = (wrap64 ((wrap64 ((wrap64 (x1_1 + 1)) + 1)) + 1))
                · rw [if_pos c8] at H
                  have c8b0 : (((rd_T60 l0 x5_1).f3) == (wrap64 ((wrap64 ((wrap64 (x1_1 + 1)) + 1)) + 1))) = true := beq_iff_eq.mpr c8
                  have c8b1 : (((rd_T60 l0 x5_1).f3) != (wrap64 ((wrap64 ((wrap64 (x1_1 + 1)) + 1)) + 1))) = false := bne_eq_false_iff_eq.mpr c8
                  clear c8
                  have H' := Aside0.mk H
                  clear H
                  have p37001 : 0 ≤ (x5_1 : Int) := of_decide_eq_true (by first | (with_reducible assumption) | assumption)
                  have q37001 : x5_1 < (l0.length : Int) := of_decide_eq_true (by first | (with_reducible assumption) | assumption)
                  obtain ⟨ad37001, e37001, hx37001_0, hx37001_1, hx37001_2, hx37001_3⟩ := at_T60 HR0.out x5_1 p37001 q37001
                  cases e37001
                  replace p37001 := eq_true p37001
                  replace q37001 := eq_true q37001
                  have p37002 : 0 ≤ (x5_1 : Int) := of_decide_eq_true (by first | (with_reducible assumption) | assumption)
                  have q37002 : x5_1 < (l0.length : Int) := of_decide_eq_true (by first | (with_reducible assumption) | assumption)
                  obtain ⟨ad37002, e37002, hx37002_0, hx37002_1, hx37002_2, hx37002_3⟩ := at_T60 HR0.out x5_1 p37002 q37002
                  obtain rfl : ad37001 = ad37002 := (by injection e37002)
                  replace p37002 := eq_true p37002
                  replace q37002 := eq_true q37002
                  have p37003 : 0 ≤ (x5_1 : Int) := of_decide_eq_true (by first | (with_reducible assumption) | assumption)
                  have q37003 : x5_1 < (l0.length : Int) := of_decide_eq_true (by first | (with_reducible assumption) | assumption)
                  obtain ⟨ad37003, e37003, hx37003_0, hx37003_1, hx37003_2, hx37003_3⟩ := at_T60 HR0.out x5_1 p37003 q37003
                  obtain rfl : ad37001 = ad37003 := (by injection e37003)
                  replace p37003 := eq_true p37003
                  replace q37003 := eq_true q37003
                  have p37004 : 0 ≤ (x5_1 : Int) := of_decide_eq_true (by first | (with_reducible assumption) | assumption)
                  have q37004 : x5_1 < (l0.length : Int) := of_decide_eq_true (by first | (with_reducible assumption) | assumption)
                  obtain ⟨ad37004, e37004, hx37004_0, hx37004_1, hx37004_2, hx37004_3⟩ := at_T60 HR0.out x5_1 p37004 q37004
                  obtain rfl : ad37001 = ad37004 := (by injection e37004)
                  replace p37004 := eq_true p37004
                  replace q37004 := eq_true q37004
                  go_wp2
                  go_roundg k1
                  case measure => have := HK1.out; omega
                  case rel => exact ⟨(wrap64 ((wrap64 ((wrap64 ((wrap64 (x1_1 + 1)) + 1)) + 1)) + 1)), (wrap64 (x5_1 + 1)), (by first | rfl | (simp; done) | (simp [*]; done)), (by first | rfl | (simp; done) | (simp [*]; done)), H', ⟨by have := HK1.out; omega⟩, by repeat (first | exact Drawn0.refl _ | apply Drawn0.step)⟩
                · rw [if_neg c8] at H
                  have c8b0 : (((rd_T60 l0 x5_1).f3) == (wrap64 ((wrap64 ((wrap64 (x1_1 + 1)) + 1)) + 1))) = false := beq_eq_false_iff_ne.mpr c8
                  have c8b1 : (((rd_T60 l0 x5_1).f3) != (wrap64 ((wrap64 ((wrap64 (x1_1 + 1)) + 1)) + 1))) = true := bne_iff_ne.mpr c8
                  obtain rfl := Option.some.inj H
                  have p37001 : 0 ≤ (x5_1 : Int) := of_decide_eq_true (by first | (with_reducible assumption) | assumption)
                  have q37001 : x5_1 < (l0.length : Int) := of_decide_eq_true (by first | (with_reducible assumption) | assumption)
                  obtain ⟨ad37001, e37001, hx37001_0, hx37001_1, hx37001_2, hx37001_3⟩ := at_T60 HR0.out x5_1 p37001 q37001
                  cases e37001
                  replace p37001 := eq_true p37001
                  replace q37001 := eq_true q37001
                  have p37002 : 0 ≤ (x5_1 : Int) := of_decide_eq_true (by first | (with_reducible assumption) | assumption)
                  have q37002 : x5_1 < (l0.length : Int) := of_decide_eq_true (by first | (with_reducible assumption) | assumption)
                  obtain ⟨ad37002, e37002, hx37002_0, hx37002_1, hx37002_2, hx37002_3⟩ := at_T60 HR0.out x5_1 p37002 q37002
                  obtain rfl : ad37001 = ad37002 := (by injection e37002)
                  replace p37002 := eq_true p37002
                  replace q37002 := eq_true q37002
                  have p37003 : 0 ≤ (x5_1 : Int) := of_decide_eq_true (by first | (with_reducible assumption) | assumption)
                  have q37003 : x5_1 < (l0.length : Int) := of_decide_eq_true (by first | (with_reducible assumption) | assumption)
                  obtain ⟨ad37003, e37003, hx37003_0, hx37003_1, hx37003_2, hx37003_3⟩ := at_T60 HR0.out x5_1 p37003 q37003
                  obtain rfl : ad37001 = ad37003 := (by injection e37003)
                  replace p37003 := eq_true p37003
                  replace q37003 := eq_true q37003
                  have p37004 : 0 ≤ (x5_1 : Int) := of_decide_eq_true (by first | (with_reducible assumption) | assumption)
                  have q37004 : x5_1 < (l0.length : Int) := of_decide_eq_true (by first | (with_reducible assumption) | assumption)
                  obtain ⟨ad37004, e37004, hx37004_0, hx37004_1, hx37004_2, hx37004_3⟩ := at_T60 HR0.out x5_1 p37004 q37004
                  obtain rfl : ad37001 = ad37004 := (by injection e37004)
                  replace p37004 := eq_true p37004
                  replace q37004 := eq_true q37004
                  go_wp2
                  go_ret
                  exact ⟨by first | rfl | (simp; done) | (simp [*]; done), by repeat (first | exact Drawn0.refl _ | apply Drawn0.step)⟩
              · rw [if_neg c7] at H
                have c7b0 : (((rd_T60 l0 x5_1).f2) == (wrap64 ((wrap64 (x1_1 + 1)) + 1))) = false := beq_eq_false_iff_ne.mpr c7
                have c7b1 : (((rd_T60 l0 x5_1).f2) != (wrap64 ((wrap64 (x1_1 + 1)) + 1))) = true := bne_iff_ne.mpr c7
                obtain rfl := Option.some.inj H
                have p37001 : 0 ≤ (x5_1 : Int) := of_decide_eq_true (by first | (with_reducible assumption) | assumption)
                have q37001 : x5_1 < (l0.length : Int) := of_decide_eq_true (by first | (with_reducible assumption) | assumption)
                obtain ⟨ad37001, e37001, hx37001_0, hx37001_1, hx37001_2, hx37001_3⟩ := at_T60 HR0.out x5_1 p37001 q37001
                cases e37001
                replace p37001 := eq_true p37001
                replace q37001 := eq_true q37001
                have p37002 : 0 ≤ (x5_1 : Int) := of_decide_eq_true (by first | (with_reducible assumption) | assumption)
                have q37002 : x5_1 < (l0.length : Int) := of_decide_eq_true (by first | (with_reducible assumption) | assumption)
                obtain ⟨ad37002, e37002, hx37002_0, hx37002_1, hx37002_2, hx37002_3⟩ := at_T60 HR0.out x5_1 p37002 q37002
                obtain rfl : ad37001 = ad37002 := (by injection e37002)
                replace p37002 := eq_true p37002
                replace q37002 := eq_true q37002
                have p37003 : 0 ≤ (x5_1 : Int) := of_decide_eq_true (by first | (with_reducible assumption) | assumption)
                have q37003 : x5_1 < (l0.length : Int) := of_decide_eq_true (by first | (with_reducible assumption) | assumption)
                obtain ⟨ad37003, e37003, hx37003_0, hx37003_1, hx37003_2, hx37003_3⟩ := at_T60 HR0.out x5_1 p37003 q37003
                obtain rfl : ad37001 = ad37003 := (by injection e37003)
                replace p37003 := eq_true p37003
                replace q37003 := eq_true q37003
                go_wp2
                go_ret
                exact ⟨by first | rfl | (simp; done) | (simp [*]; done), by repeat (first | exact Drawn0.refl _ | apply Drawn0.step)⟩
            · rw [if_neg c6] at H
              have c6b0 : (((rd_T60 l0 x5_1).f1) == (wrap64 (x1_1 + 1))) = false := beq_eq_false_iff_ne.mpr c6
              have c6b1 : (((rd_T60 l0 x5_1).f1) != (wrap64 (x1_1 + 1))) = true := bne_iff_ne.mpr c6
              obtain rfl := Option.some.inj H
              have p37001 : 0 ≤ (x5_1 : Int) := of_decide_eq_true (by first | (with_reducible assumption) | assumption)
              have q37001 : x5_1 < (l0.length : Int) := of_decide_eq_true (by first | (with_reducible assumption) | assumption)
              obtain ⟨ad37001, e37001, hx37001_0, hx37001_1, hx37001_2, hx37001_3⟩ := at_T60 HR0.out x5_1 p37001 q37001
              cases e37001
              replace p37001 := eq_true p37001
              replace q37001 := eq_true q37001
              have p37002 : 0 ≤ (x5_1 : Int) := of_decide_eq_true (by first | (with_reducible assumption) | assumption)
              have q37002 : x5_1 < (l0.length : Int) := of_decide_eq_true (by first | (with_reducible assumption) | assumption)
              obtain ⟨ad37002, e37002, hx37002_0, hx37002_1, hx37002_2, hx37002_3⟩ := at_T60 HR0.out x5_1 p37002 q37002
              obtain rfl : ad37001 = ad37002 := (by injection e37002)
              replace p37002 := eq_true p37002
              replace q37002 := eq_true q37002
              go_wp2
              go_ret
              exact ⟨by first | rfl | (simp; done) | (simp [*]; done), by repeat (first | exact Drawn0.refl _ | apply Drawn0.step)⟩
          · rw [if_neg c5] at H
            have c5b0 : (((rd_T60 l0 x5_1).f0) == x1_1) = false := beq_eq_false_iff_ne.mpr c5
            have c5b1 : (((rd_T60 l0 x5_1).f0) != x1_1) = true := bne_iff_ne.mpr c5
            obtain rfl := Option.some.inj H
            have p37001 : 0 ≤ (x5_1 : Int) := of_decide_eq_true (by first | (with_reducible assumption) | assumption)
            have q37001 : x5_1 < (l0.length : Int) := of_decide_eq_true (by first | (with_reducible assumption) | assumption)
            obtain ⟨ad37001, e37001, hx37001_0, hx37001_1, hx37001_2, hx37001_3⟩ := at_T60 HR0.out x5_1 p37001 q37001
            cases e37001
            replace p37001 := eq_true p37001
            replace q37001 := eq_true q37001
            go_wp2
            go_ret
            exact ⟨by first | rfl | (simp; done) | (simp [*]; done), by repeat (first | exact Drawn0.refl _ | apply Drawn0.step)⟩
        · rw [if_neg c4] at H
          exact absurd H (by simp)
      · rw [if_neg c3] at H
        have c3b0 : decide (x5_1 < (l0.length : Int)) = false := decide_eq_false c3
        clear c3
        obtain rfl := Option.some.inj H
        go_wp2
        go_ret
        exact ⟨by first | rfl | (simp; done) | (simp [*]; done), by repeat (first | exact Drawn0.refl _ | apply Drawn0.step)⟩

end Go.Proofs.Ytbgohbinonkhfaa.Q
