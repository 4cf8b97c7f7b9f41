/- A part of the proof that the statement FnExactChangedBoxesSaid holds, under no condition of its own: The program's ChangedBoxes and the reference's return the same, and what is returned is held by nobody else: over lists of numbers alone. -/
import Derived.Test.YtbgohbinonkhfaaCFnExactChangedBoxes1
import Derived.Test.YtbgohbinonkhfaaCFnExactChangedBoxes2
import Derived.OrdersHeld
import Derived.Deep.RegionHeld
import Derived.RegionTactic
import Derived.BigQuiet
import Derived.Deep.QuietTactic
namespace Go.Proofs.Ytbgohbinonkhfaa.Q
open Go.RowKit Go.Proofs.YtbgohbinonkhfaaW.PrintWords Go.Proofs.YtbgohbinonkhfaaW.PrintLast Go.Proofs.YtbgohbinonkhfaaW.PrintMore
attribute [local go_sem] max2_int min2_int max_two min_two max_three min_three max_four min_four
set_option linter.unusedVariables false
set_option linter.unusedSimpArgs false
/-! ### spec_boundsOf: function 77 -/
def spec_boundsOf.l0 : Nat → List (S47) → Int → Int → Int → Option (Int × Int × Int × Int)
  | 0, _, _, _, _ => none
  | k + 1, x0, x3, x4, x5 => if x5 < (x0.length : Int) then (if 0 ≤ x5 then (spec_boundsOf.l0 k x0 (mn x3 ((rd_T47 x0 x5).f1)) (mx x4 ((rd_T47 x0 x5).f2)) (wrap64 (x5 + 1))) else (none)) else (if 0 < (x0.length : Int) then (if 0 ≤ (wrap64 ((x0.length : Int) - 1)) then (if (wrap64 ((x0.length : Int) - 1)) < (x0.length : Int) then (some (x3, (rd_T47 x0 0).f0, wrap64 (x4 - x3), wrap64 ((wrap64 (((rd_T47 x0 (wrap64 ((x0.length : Int) - 1))).f0) - ((rd_T47 x0 0).f0))) + 1))) else (none)) else (none)) else (none))
def spec_boundsOf.f (k : Nat) (l0 : List (S47)) : Option (Int × Int × Int × Int) := if 0 < (l0.length : Int) then (spec_boundsOf.l0 k l0 ((rd_T47 l0 0).f1) ((rd_T47 l0 0).f2) 0) else (none)
theorem spec_boundsOf.mono_l : ∀ k, (∀ y0 y1 y2 y3, LeO (spec_boundsOf.l0 k y0 y1 y2 y3) (spec_boundsOf.l0 (k + 1) y0 y1 y2 y3))
  | 0 => fun _ _ _ _ r h => by simp [spec_boundsOf.l0] at h
  | k + 1 => by
    have ih0 := spec_boundsOf.mono_l k
    · intro y0 y1 y2 y3
      unfold spec_boundsOf.l0
      repeat' first
      | (with_reducible exact ih0 _ _ _ _)
      | (with_reducible exact LeO.refl _)
      | (with_reducible exact LeO.none _)
      | (with_reducible refine LeO.ite ?_ ?_)
      | (with_reducible refine LeO.bind ?_ (fun _ => ?_))
      | exact ih0 _ _ _ _
      | exact LeO.none _
      | refine LeO.ite ?_ ?_
      | refine LeO.bind ?_ (fun _ => ?_)
theorem spec_boundsOf.mono : ∀ a0 k, LeO (spec_boundsOf.f k a0) (spec_boundsOf.f (k + 1) a0) := by
  intro a0 k
  have ih0 := spec_boundsOf.mono_l k
  unfold spec_boundsOf.f
  repeat' first
      | (with_reducible exact ih0 _ _ _ _)
      | (with_reducible exact LeO.refl _)
      | (with_reducible exact LeO.none _)
      | (with_reducible refine LeO.ite ?_ ?_)
      | (with_reducible refine LeO.bind ?_ (fun _ => ?_))
      | exact ih0 _ _ _ _
      | exact LeO.none _
      | refine LeO.ite ?_ ?_
      | refine LeO.bind ?_ (fun _ => ?_)
def spec_boundsOf.T8 : Bool × List (List Nat × List Nat) := (true, [([], []), ([], []), ([1], [1]), ([2], [2]), ([3], [3]), ([], []), ([], []), ([5, 6], [5, 6]), ([], []), ([], []), ([9], [9]), ([10], [10]), ([8, 11], [8, 11]), ([12], [12]), ([13], [13]), ([], []), ([15], [15]), ([16], [16]), ([17], [17]), ([14, 18], [14, 18]), ([19], [19]), ([0, 4, 7, 20], [0, 4, 7, 20]), ([21, 0, 1, 2, 3, 4, 5, 6, 7, 8, 9, 10, 11, 12, 13, 14, 15, 16, 17, 18, 19, 20, 21], [21])])
def spec_boundsOf.B8 : List Nat := [0, 0, 2, 6, 14, 0, 0, 96, 0, 0, 512, 1536, 3840, 7936, 16128, 0, 32768, 98304, 229376, 524032, 1048320, 2097151, 4194303]
theorem spec_boundsOf.tab8 : rtab .any (opsOf Try.f77 8) = spec_boundsOf.T8 := by kernel_rfl
theorem spec_boundsOf.bits8 : waitsOk spec_boundsOf.T8.2 spec_boundsOf.B8 = true := by kernel_rfl
set_option maxHeartbeats 8000000 in
set_option maxRecDepth 100000 in
theorem spec_boundsOf.calls (k : Nat) (A0 : Option Addr) (c0 : Nat) (l0 : List (S47)) (r1 : Int) (r2 : Int) (r3 : Int) (r4 : Int) (w : World) (hr0 : Kd.C k47 w A0 l0.length l0) (hc0 : l0.length ≤ c0) (h : spec_boundsOf.f k l0 = some (r1, r2, r3, r4)) :
    Calls Try.prog 77 #[.slice A0 l0.length c0] w fun e w' => e = .returned (.agg #[.int .i64 r1, .int .i64 r2, .int .i64 r3, .int .i64 r4]) ∧ Below w.heap.size w w' := by
  have hu60 := Try.underlying60
  have HR0 := Aside0.mk hr0
  have HC0 := Aside0.mk hc0
  clear hr0 hc0
  have HB := Aside0.mk (Below.refl w.heap.size w)
  have H : (if 0 < (l0.length : Int) then (spec_boundsOf.l0 k l0 ((rd_T47 l0 0).f1) ((rd_T47 l0 0).f2) 0) else (none)) = some (r1, r2, r3, r4) := h
  clear h
  by_cases c2 : 0 < (l0.length : Int)
  · rw [if_pos c2] at H
    have c2b0 : decide (0 < (l0.length : Int)) = true := decide_eq_true c2
    have c2b1 : decide (0 < l0.length) = true := decide_eq_true (by omega)
    clear c2
    have H' := Aside0.mk H
    clear H
    go_enter Try.func77, Try.ntmps77
    go_wp2_with (first | ((with_reducible refine gate_dst (N := 2) rfl ?_); refine box_event ?hg (N := 2) ?hd (cs := #[.int .i64 0, .int .i64 0, .int .i64 0, .int .i64 0]) (t := 60) ?hr ?_; (case hd => rfl); (case hg => rfl); (case hr => first | (go_simp; done) | (go_simp; rfl)); intro gb78001 hg w3 hbox hb; have n0_ := Aside0.mk (below_step (by repeat (first | (with_reducible first | exact HB.out | apply below_alloc | apply pw_below_drewN | apply below_drew1) | exact HB.out)) hb); have n1_ := Aside0.mk (hbox); have n2_ := Aside0.mk ((by rw [hg]; exact (below_size (by repeat (first | (with_reducible first | exact HB.out | apply below_alloc | apply pw_below_drewN | apply below_drew1) | exact HB.out))) : w.heap.size ≤ gb78001)); have n3_ := Aside0.mk ((by rw [hg]; exact (below_size (by repeat (first | (with_reducible first | exact HB.out | apply below_alloc | apply pw_below_drewN | apply below_drew1) | exact HB.out))) : w.heap.size ≤ gb78001)); clear HB; have HB := n0_; have BK78001 := n1_; have GW78001 := n2_; have GE78001 := n3_; clear n0_ n1_ n2_ n3_; clear hb hbox hg; have p78002 : 0 ≤ (0 : Int) := (by omega); have q78002 : 0 < (l0.length : Int) := of_decide_eq_true (by first | (with_reducible assumption) | assumption); obtain ⟨ad78002, e78002, hx78002_0, hx78002_1, hx78002_2⟩ := at_T47 HR0.out 0 p78002 q78002; cases e78002; have qi78002 : (0 < l0.length) = True := eq_true (by omega); (try rw [show ((0 : Int)).toNat = 0 from rfl] at hx78002_0); (try rw [show 0 * 3 = 0 from rfl] at hx78002_0); (try rw [Addr.add_zero'] at hx78002_0); (try rw [show ((0 : Int)).toNat = 0 from rfl] at hx78002_1); (try rw [show 0 * 3 = 0 from rfl] at hx78002_1); (try rw [Addr.add_zero'] at hx78002_1); (try rw [show ((0 : Int)).toNat = 0 from rfl] at hx78002_2); (try rw [show 0 * 3 = 0 from rfl] at hx78002_2); (try rw [Addr.add_zero'] at hx78002_2); replace hx78002_0 := (HB.out.cell (World.block_lt_of_cell? w _ hx78002_0)).trans hx78002_0; replace hx78002_1 := (HB.out.cell (World.block_lt_of_cell? w _ hx78002_1)).trans hx78002_1; replace hx78002_2 := (HB.out.cell (World.block_lt_of_cell? w _ hx78002_2)).trans hx78002_2; replace p78002 := eq_true p78002; replace q78002 := eq_true q78002; have p78003 : 0 ≤ (0 : Int) := (by omega); have q78003 : 0 < (l0.length : Int) := of_decide_eq_true (by first | (with_reducible assumption) | assumption); obtain ⟨ad78003, e78003, hx78003_0, hx78003_1, hx78003_2⟩ := at_T47 HR0.out 0 p78003 q78003; obtain rfl : ad78002 = ad78003 := (by injection e78003); have qi78003 : (0 < l0.length) = True := eq_true (by omega); (try rw [show ((0 : Int)).toNat = 0 from rfl] at hx78003_0); (try rw [show 0 * 3 = 0 from rfl] at hx78003_0); (try rw [Addr.add_zero'] at hx78003_0); (try rw [show ((0 : Int)).toNat = 0 from rfl] at hx78003_1); (try rw [show 0 * 3 = 0 from rfl] at hx78003_1); (try rw [Addr.add_zero'] at hx78003_1); (try rw [show ((0 : Int)).toNat = 0 from rfl] at hx78003_2); (try rw [show 0 * 3 = 0 from rfl] at hx78003_2); (try rw [Addr.add_zero'] at hx78003_2); replace hx78003_0 := (HB.out.cell (World.block_lt_of_cell? w _ hx78003_0)).trans hx78003_0; replace hx78003_1 := (HB.out.cell (World.block_lt_of_cell? w _ hx78003_1)).trans hx78003_1; replace hx78003_2 := (HB.out.cell (World.block_lt_of_cell? w _ hx78003_2)).trans hx78003_2; replace p78003 := eq_true p78003; replace q78003 := eq_true q78003))
    go_loopg [3, 4, 5] k (fun kq v3 v4 v5 w' => ∃ (x3_1 : Int) (x4_1 : Int) (x5_1 : Int), v3 = .int .i64 x3_1 ∧ v4 = .int .i64 x4_1 ∧ v5 = .int .i64 x5_1 ∧ Aside0 (spec_boundsOf.l0 kq l0 x3_1 x4_1 x5_1 = some (r1, r2, r3, r4)) ∧ Aside0 (kq ≤ k) ∧ Aside0 (w'.heap[gb78001]? = some (.cells #[.int .i64 0, .int .i64 0, .int .i64 0, .int .i64 0] 60 (0, 0))) ∧ Aside0 (Below w.heap.size w w'))
    case atStart => exact ⟨((rd_T47 l0 0).f1), ((rd_T47 l0 0).f2), (0), (by first | rfl | (simp; done) | (simp [*]; done)), (by first | rfl | (simp; done) | (simp [*]; done)), (by first | rfl | (simp; done) | (simp [*]; done)), H', ⟨Nat.le_refl _⟩, ⟨by (with_reducible repeat (first | refine blk_drewN ?_ _ | refine blk_drew ?_ | refine blk_alloc ?_ _)); exact BK78001.out⟩, ⟨by repeat (first | (with_reducible first | exact HB.out | apply below_alloc | apply pw_below_drewN | apply below_drew1 | refine below_set ?_ GE78001.out) | exact HB.out)⟩⟩
    case round =>
      clear H'
      try clear c2
      try clear c2b0
      try clear c2b1
      try clear p2
      try clear hx78002_0
      try clear hx78002_1
      try clear hx78002_2
      try clear hx78003_0
      try clear hx78003_1
      try clear hx78003_2
      try clear p78002
      try clear p78003
      try clear q78002
      try clear q78003
      obtain ⟨x3_1, x4_1, x5_1, rfl, rfl, rfl, HA, HK1, BK78001, HB⟩ := hrel
      cases gk with
      | zero => exact absurd HA.out (by simp [spec_boundsOf.l0])
      | succ k1 =>
        have H := HA.out
        clear HA
        simp only [spec_boundsOf.l0] at H
        by_cases c4 : x5_1 < (l0.length : Int)
        · rw [if_pos c4] at H
          have c4b0 : decide (x5_1 < (l0.length : Int)) = true := decide_eq_true c4
          clear c4
          by_cases c5 : 0 ≤ x5_1
          · rw [if_pos c5] at H
            have c5b0 : decide (0 ≤ x5_1) = true := decide_eq_true c5
            clear c5
            obtain ⟨ji6, hji6⟩ : ∃ j_ : Int, (mn x3_1 ((rd_T47 l0 x5_1).f1)) = j_ := ⟨_, rfl⟩
            replace H : (spec_boundsOf.l0 k1 l0 ji6 (mx x4_1 ((rd_T47 l0 x5_1).f2)) (wrap64 (x5_1 + 1))) = some (r1, r2, r3, r4) := by first | (rw [hji6] at H; exact H) | (simp only [hji6] at H ⊢; exact H)
            have hji6_ : (if ((rd_T47 l0 x5_1).f1) < x3_1 then ((rd_T47 l0 x5_1).f1) else x3_1) = ji6 := hji6
            obtain ⟨ji7, hji7⟩ : ∃ j_ : Int, (mx x4_1 ((rd_T47 l0 x5_1).f2)) = j_ := ⟨_, rfl⟩
            replace H : (spec_boundsOf.l0 k1 l0 ji6 ji7 (wrap64 (x5_1 + 1))) = some (r1, r2, r3, r4) := by first | (rw [hji7] at H; exact H) | (simp only [hji7] at H ⊢; exact H)
            have hji7_ : (if x4_1 < ((rd_T47 l0 x5_1).f2) then ((rd_T47 l0 x5_1).f2) else x4_1) = ji7 := hji7
            have H' := Aside0.mk H
            clear H
            have p78004 : 0 ≤ (x5_1 : Int) := of_decide_eq_true (by first | (with_reducible assumption) | assumption)
            have q78004 : x5_1 < (l0.length : Int) := of_decide_eq_true (by first | (with_reducible assumption) | assumption)
            obtain ⟨ad78004, e78004, hx78004_0, hx78004_1, hx78004_2⟩ := at_T47 HR0.out x5_1 p78004 q78004
            obtain rfl : ad78002 = ad78004 := (by injection e78004)
            replace hx78004_0 := (HB.out.cell (World.block_lt_of_cell? w _ hx78004_0)).trans hx78004_0
            replace hx78004_1 := (HB.out.cell (World.block_lt_of_cell? w _ hx78004_1)).trans hx78004_1
            replace hx78004_2 := (HB.out.cell (World.block_lt_of_cell? w _ hx78004_2)).trans hx78004_2
            replace p78004 := eq_true p78004
            replace q78004 := eq_true q78004
            have p78005 : 0 ≤ (x5_1 : Int) := of_decide_eq_true (by first | (with_reducible assumption) | assumption)
            have q78005 : x5_1 < (l0.length : Int) := of_decide_eq_true (by first | (with_reducible assumption) | assumption)
            obtain ⟨ad78005, e78005, hx78005_0, hx78005_1, hx78005_2⟩ := at_T47 HR0.out x5_1 p78005 q78005
            obtain rfl : ad78002 = ad78005 := (by injection e78005)
            replace hx78005_0 := (HB.out.cell (World.block_lt_of_cell? w _ hx78005_0)).trans hx78005_0
            replace hx78005_1 := (HB.out.cell (World.block_lt_of_cell? w _ hx78005_1)).trans hx78005_1
            replace hx78005_2 := (HB.out.cell (World.block_lt_of_cell? w _ hx78005_2)).trans hx78005_2
            replace p78005 := eq_true p78005
            replace q78005 := eq_true q78005
            go_wp2
            go_roundg k1
            case measure => have := HK1.out; omega
            case rel => exact ⟨(ji6), (ji7), (wrap64 (x5_1 + 1)), (by first | rfl | (simp; done) | (simp only [← hji6] <;> (first | rfl | simp)) | (simp [*]; done)), (by first | rfl | (simp; done) | (simp only [← hji7] <;> (first | rfl | simp)) | (simp [*]; done)), (by first | rfl | (simp; done) | (simp [*]; done)), H', ⟨by have := HK1.out; omega⟩, ⟨by (with_reducible repeat (first | refine blk_drewN ?_ _ | refine blk_drew ?_ | refine blk_alloc ?_ _)); exact BK78001.out⟩, ⟨by repeat (first | (with_reducible first | exact HB.out | apply below_alloc | apply pw_below_drewN | apply below_drew1 | refine below_set ?_ GE78001.out) | exact HB.out)⟩⟩
          · rw [if_neg c5] at H
            exact absurd H (by simp)
        · rw [if_neg c4] at H
          have c4b0 : decide (x5_1 < (l0.length : Int)) = false := decide_eq_false c4
          clear c4
          by_cases c8 : 0 < (l0.length : Int)
          · rw [if_pos c8] at H
            have c8b0 : decide (0 < (l0.length : Int)) = true := decide_eq_true c8
            have c8b1 : decide (0 < l0.length) = true := decide_eq_true (by omega)
            clear c8
            obtain ⟨ji9, hji9⟩ : ∃ j_ : Int, (wrap64 ((l0.length : Int) - 1)) = j_ := ⟨_, rfl⟩
            replace H : (if 0 ≤ (ji9) then (if (ji9) < (l0.length : Int) then (some (x3_1, (rd_T47 l0 0).f0, wrap64 (x4_1 - x3_1), wrap64 ((wrap64 (((rd_T47 l0 (ji9)).f0) - ((rd_T47 l0 0).f0))) + 1))) else (none)) else (none)) = some (r1, r2, r3, r4) := by first | (rw [hji9] at H; exact H) | (simp only [hji9] at H ⊢; exact H)
            have hji9w : (IntKind.i64.wrap ((l0.length : Int) - 1)) = ji9 := (i64_w _).trans hji9
            by_cases c10 : 0 ≤ (ji9)
            · rw [if_pos c10] at H
              have c10b0 : decide (0 ≤ (ji9)) = true := decide_eq_true c10
              clear c10
              by_cases c11 : (ji9) < (l0.length : Int)
              · rw [if_pos c11] at H
                have c11b0 : decide ((ji9) < (l0.length : Int)) = true := decide_eq_true c11
                clear c11
                simp only [Option.some.injEq, Prod.mk.injEq] at H
                obtain ⟨rfl, rfl, rfl, rfl⟩ := H
                try go_wp2
                have n0_ := Aside0.mk (blk_drew BK78001.out)
                have n1_ := Aside0.mk (below_drew1 HB.out)
                clear BK78001
                clear HB
                have BK78001 := n0_
                have HB := n1_
                clear n0_ n1_
                have p78006 : 0 ≤ (0 : Int) := (by omega)
                have q78006 : 0 < (l0.length : Int) := of_decide_eq_true (by first | (with_reducible assumption) | assumption)
                obtain ⟨ad78006, e78006, hx78006_0, hx78006_1, hx78006_2⟩ := at_T47 HR0.out 0 p78006 q78006
                have hw78006_2 := hx78006_2
                (try rw [show ((0 : Int)).toNat = 0 from rfl] at hw78006_2)
                (try rw [show 0 * 3 = 0 from rfl] at hw78006_2)
                (try rw [Addr.add_zero'] at hw78006_2)
                have hw78006_1 := hx78006_1
                (try rw [show ((0 : Int)).toNat = 0 from rfl] at hw78006_1)
                (try rw [show 0 * 3 = 0 from rfl] at hw78006_1)
                (try rw [Addr.add_zero'] at hw78006_1)
                have hw78006_0 := hx78006_0
                (try rw [show ((0 : Int)).toNat = 0 from rfl] at hw78006_0)
                (try rw [show 0 * 3 = 0 from rfl] at hw78006_0)
                (try rw [Addr.add_zero'] at hw78006_0)
                obtain rfl : ad78002 = ad78006 := (by injection e78006)
                have qi78006 : (0 < l0.length) = True := eq_true (by omega)
                (try rw [show ((0 : Int)).toNat = 0 from rfl] at hx78006_0)
                (try rw [show 0 * 3 = 0 from rfl] at hx78006_0)
                (try rw [Addr.add_zero'] at hx78006_0)
                (try rw [show ((0 : Int)).toNat = 0 from rfl] at hx78006_1)
                (try rw [show 0 * 3 = 0 from rfl] at hx78006_1)
                (try rw [Addr.add_zero'] at hx78006_1)
                (try rw [show ((0 : Int)).toNat = 0 from rfl] at hx78006_2)
                (try rw [show 0 * 3 = 0 from rfl] at hx78006_2)
                (try rw [Addr.add_zero'] at hx78006_2)
                replace hx78006_0 := (HB.out.cell (World.block_lt_of_cell? w _ hx78006_0)).trans hx78006_0
                replace hx78006_1 := (HB.out.cell (World.block_lt_of_cell? w _ hx78006_1)).trans hx78006_1
                replace hx78006_2 := (HB.out.cell (World.block_lt_of_cell? w _ hx78006_2)).trans hx78006_2
                replace p78006 := eq_true p78006
                replace q78006 := eq_true q78006
                have p78007 : 0 ≤ ((ji9) : Int) := of_decide_eq_true (by first | (with_reducible assumption) | assumption)
                have q78007 : (ji9) < (l0.length : Int) := of_decide_eq_true (by first | (with_reducible assumption) | assumption)
                obtain ⟨ad78007, e78007, hx78007_0, hx78007_1, hx78007_2⟩ := at_T47 HR0.out (ji9) p78007 q78007
                have hw78007_2 := hx78007_2
                have hw78007_1 := hx78007_1
                have hw78007_0 := hx78007_0
                obtain rfl : ad78002 = ad78007 := (by injection e78007)
                replace hx78007_0 := (HB.out.cell (World.block_lt_of_cell? w _ hx78007_0)).trans hx78007_0
                replace hx78007_1 := (HB.out.cell (World.block_lt_of_cell? w _ hx78007_1)).trans hx78007_1
                replace hx78007_2 := (HB.out.cell (World.block_lt_of_cell? w _ hx78007_2)).trans hx78007_2
                replace p78007 := eq_true p78007
                replace q78007 := eq_true q78007
                have p78008 : 0 ≤ (0 : Int) := (by omega)
                have q78008 : 0 < (l0.length : Int) := of_decide_eq_true (by first | (with_reducible assumption) | assumption)
                obtain ⟨ad78008, e78008, hx78008_0, hx78008_1, hx78008_2⟩ := at_T47 HR0.out 0 p78008 q78008
                have hw78008_2 := hx78008_2
                (try rw [show ((0 : Int)).toNat = 0 from rfl] at hw78008_2)
                (try rw [show 0 * 3 = 0 from rfl] at hw78008_2)
                (try rw [Addr.add_zero'] at hw78008_2)
                have hw78008_1 := hx78008_1
                (try rw [show ((0 : Int)).toNat = 0 from rfl] at hw78008_1)
                (try rw [show 0 * 3 = 0 from rfl] at hw78008_1)
                (try rw [Addr.add_zero'] at hw78008_1)
                have hw78008_0 := hx78008_0
                (try rw [show ((0 : Int)).toNat = 0 from rfl] at hw78008_0)
                (try rw [show 0 * 3 = 0 from rfl] at hw78008_0)
                (try rw [Addr.add_zero'] at hw78008_0)
                obtain rfl : ad78002 = ad78008 := (by injection e78008)
                have qi78008 : (0 < l0.length) = True := eq_true (by omega)
                (try rw [show ((0 : Int)).toNat = 0 from rfl] at hx78008_0)
                (try rw [show 0 * 3 = 0 from rfl] at hx78008_0)
                (try rw [Addr.add_zero'] at hx78008_0)
                (try rw [show ((0 : Int)).toNat = 0 from rfl] at hx78008_1)
                (try rw [show 0 * 3 = 0 from rfl] at hx78008_1)
                (try rw [Addr.add_zero'] at hx78008_1)
                (try rw [show ((0 : Int)).toNat = 0 from rfl] at hx78008_2)
                (try rw [show 0 * 3 = 0 from rfl] at hx78008_2)
                (try rw [Addr.add_zero'] at hx78008_2)
                replace hx78008_0 := (HB.out.cell (World.block_lt_of_cell? w _ hx78008_0)).trans hx78008_0
                replace hx78008_1 := (HB.out.cell (World.block_lt_of_cell? w _ hx78008_1)).trans hx78008_1
                replace hx78008_2 := (HB.out.cell (World.block_lt_of_cell? w _ hx78008_2)).trans hx78008_2
                replace p78008 := eq_true p78008
                replace q78008 := eq_true q78008
                refine start_ (n := 23) (S := fun w' => w'.cell? ad78002 = some (.int .i64 ((rd_T47 l0 0).f0)) ∧ w'.cell? ⟨ad78002.block, ad78002.off + 1, none⟩ = some (.int .i64 ((rd_T47 l0 0).f1)) ∧ w'.cell? ⟨ad78002.block, ad78002.off + 2, none⟩ = some (.int .i64 ((rd_T47 l0 0).f2)) ∧ w'.cell? (ad78002.add (((ji9)).toNat * 3)) = some (.int .i64 ((rd_T47 l0 (ji9)).f0)) ∧ w'.cell? ⟨(ad78002.add (((ji9)).toNat * 3)).block, (ad78002.add (((ji9)).toNat * 3)).off + 1, none⟩ = some (.int .i64 ((rd_T47 l0 (ji9)).f1)) ∧ w'.cell? ⟨(ad78002.add (((ji9)).toNat * 3)).block, (ad78002.add (((ji9)).toNat * 3)).off + 2, none⟩ = some (.int .i64 ((rd_T47 l0 (ji9)).f2)) ∧ w'.cell? ad78002 = some (.int .i64 ((rd_T47 l0 0).f0)) ∧ w'.cell? ⟨ad78002.block, ad78002.off + 1, none⟩ = some (.int .i64 ((rd_T47 l0 0).f1)) ∧ w'.cell? ⟨ad78002.block, ad78002.off + 2, none⟩ = some (.int .i64 ((rd_T47 l0 0).f2))) (ds := []) #[false, false, false, false, false, false, false, false, false, false, false, false, false, false, false, false, false, false, false, false, false, false, false] (by kernel_rfl) rfl rfl ⟨((HB.out.cell (World.block_lt_of_cell? w _ hw78006_0)).trans hw78006_0), ((HB.out.cell (World.block_lt_of_cell? w _ hw78006_1)).trans hw78006_1), ((HB.out.cell (World.block_lt_of_cell? w _ hw78006_2)).trans hw78006_2), ((HB.out.cell (World.block_lt_of_cell? w _ hw78007_0)).trans hw78007_0), ((HB.out.cell (World.block_lt_of_cell? w _ hw78007_1)).trans hw78007_1), ((HB.out.cell (World.block_lt_of_cell? w _ hw78007_2)).trans hw78007_2), ((HB.out.cell (World.block_lt_of_cell? w _ hw78008_0)).trans hw78008_0), ((HB.out.cell (World.block_lt_of_cell? w _ hw78008_1)).trans hw78008_1), ((HB.out.cell (World.block_lt_of_cell? w _ hw78008_2)).trans hw78008_2)⟩ (fun hHeld => ?_); refine with_tabW spec_boundsOf.tab8 spec_boundsOf.bits8 (fun HT_ HW_ => ?_)
                generalize wr.drew = w12 at BK78001 HB hx78006_0 hx78006_1 hx78006_2 hx78007_0 hx78007_1 hx78007_2 hx78008_0 hx78008_1 hx78008_2 hHeld ⊢
                refine pure_ (i := 0) (N := some 34) (v := ?_) (a' := ?_) #[true, false, false, false, false, false, false, false, false, false, false, false, false, false, false, false, false, false, false, false, false, false, false] rfl rfl (any_of HT_.out (by kernel_rfl)) (fun _ _ _ h => h) (Or.inl ⟨by rfl, ?_⟩) ?_ ?_
                rotate_left
                · intro w'
                  go_simp
                  with_reducible rfl
                rotate_left
                · simp only [Act.put, List.setIfInBounds_toArray, List.set_cons_zero, List.set_cons_succ, i64_w, i32_w]
                  rfl
                refine pure_ (i := 1) (N := some 35) (v := ?_) (a' := ?_) #[true, true, false, false, false, false, false, false, false, false, false, false, false, false, false, false, false, false, false, false, false, false, false] rfl rfl (any_of HT_.out (by kernel_rfl)) (fun _ _ _ h => h) (Or.inl ⟨by rfl, ?_⟩) ?_ ?_
                rotate_left
                · intro w'
                  go_simp
                  with_reducible rfl
                rotate_left
                · simp only [Act.put, List.setIfInBounds_toArray, List.set_cons_zero, List.set_cons_succ, i64_w, i32_w]
                  rfl
                refine pure_ (i := 2) (N := some 36) (v := ?_) (a' := ?_) #[true, true, true, false, false, false, false, false, false, false, false, false, false, false, false, false, false, false, false, false, false, false, false] rfl rfl (any_of HT_.out (by kernel_rfl)) (fun _ _ _ h => h) (Or.inl ⟨by rfl, ?_⟩) ?_ ?_
                rotate_left
                · intro w'
                  go_simp
                  with_reducible rfl
                rotate_left
                · simp only [Act.put, List.setIfInBounds_toArray, List.set_cons_zero, List.set_cons_succ, i64_w, i32_w]
                  rfl
                refine pure_ (i := 3) (N := some 37) (v := ?_) (a' := ?_) #[true, true, true, true, false, false, false, false, false, false, false, false, false, false, false, false, false, false, false, false, false, false, false] rfl rfl (any_of HT_.out (by kernel_rfl)) (fun _ _ _ h => h) (Or.inl ⟨by rfl, ?_⟩) ?_ ?_
                rotate_left
                · intro w'
                  go_simp
                  with_reducible rfl
                rotate_left
                · simp only [Act.put, List.setIfInBounds_toArray, List.set_cons_zero, List.set_cons_succ, i64_w, i32_w]
                  rfl
                refine pure_ (i := 5) (N := some 39) (v := ?_) (a' := ?_) #[true, true, true, true, false, true, false, false, false, false, false, false, false, false, false, false, false, false, false, false, false, false, false] rfl rfl (any_of HT_.out (by kernel_rfl)) (fun _ _ _ h => h) (Or.inl ⟨by rfl, ?_⟩) ?_ ?_
                rotate_left
                · intro w'
                  go_simp
                  with_reducible rfl
                rotate_left
                · simp only [Act.put, List.setIfInBounds_toArray, List.set_cons_zero, List.set_cons_succ, i64_w, i32_w]
                  rfl
                refine pure_ (i := 6) (N := some 40) (v := ?_) (a' := ?_) #[true, true, true, true, false, true, true, false, false, false, false, false, false, false, false, false, false, false, false, false, false, false, false] rfl rfl (any_of HT_.out (by kernel_rfl)) (fun _ _ _ h => h) (Or.inl ⟨by rfl, ?_⟩) ?_ ?_
                rotate_left
                · intro w'
                  go_simp
                  with_reducible rfl
                rotate_left
                · simp only [Act.put, List.setIfInBounds_toArray, List.set_cons_zero, List.set_cons_succ, i64_w, i32_w]
                  rfl
                refine pure_ (i := 7) (N := some 41) (v := ?_) (a' := ?_) #[true, true, true, true, false, true, true, true, false, false, false, false, false, false, false, false, false, false, false, false, false, false, false] rfl rfl (any_of HT_.out (by kernel_rfl)) (fun _ _ _ h => h) (Or.inl ⟨by rfl, ?_⟩) ?_ ?_
                rotate_left
                · intro w'
                  go_simp
                  with_reducible rfl
                rotate_left
                · simp only [Act.put, List.setIfInBounds_toArray, List.set_cons_zero, List.set_cons_succ, i64_w, i32_w]
                  rfl
                refine pure_ (i := 8) (N := some 42) (v := ?_) (a' := ?_) #[true, true, true, true, false, true, true, true, true, false, false, false, false, false, false, false, false, false, false, false, false, false, false] rfl rfl (any_of HT_.out (by kernel_rfl)) (fun _ _ _ h => h) (Or.inl ⟨by rfl, ?_⟩) ?_ ?_
                rotate_left
                · intro w'
                  go_simp
                  with_reducible rfl
                rotate_left
                · simp only [Act.put, List.setIfInBounds_toArray, List.set_cons_zero, List.set_cons_succ, i64_w, i32_w]
                  rfl
                refine pure_ (i := 9) (N := some 43) (v := ?_) (a' := ?_) #[true, true, true, true, false, true, true, true, true, true, false, false, false, false, false, false, false, false, false, false, false, false, false] rfl rfl (any_of HT_.out (by kernel_rfl)) (fun _ _ _ h => h) (Or.inl ⟨by rfl, ?_⟩) ?_ ?_
                rotate_left
                · intro w'
                  go_simp
                  with_reducible rfl
                rotate_left
                · simp only [Act.put, List.setIfInBounds_toArray, List.set_cons_zero, List.set_cons_succ, i64_w, i32_w]
                  rfl
                refine pure_ (i := 10) (N := some 44) (v := ?_) (a' := ?_) #[true, true, true, true, false, true, true, true, true, true, true, false, false, false, false, false, false, false, false, false, false, false, false] rfl rfl (any_of HT_.out (by kernel_rfl)) (fun _ _ _ h => h) (Or.inl ⟨by rfl, ?_⟩) ?_ ?_
                rotate_left
                · intro w'
                  go_simp
                  with_reducible rfl
                rotate_left
                · simp only [Act.put, List.setIfInBounds_toArray, List.set_cons_zero, List.set_cons_succ, i64_w, i32_w]
                  rfl
                refine pure_ (i := 11) (N := some 45) (v := ?_) (a' := ?_) #[true, true, true, true, false, true, true, true, true, true, true, true, false, false, false, false, false, false, false, false, false, false, false] rfl rfl (any_of HT_.out (by kernel_rfl)) (fun _ _ _ h => h) (Or.inl ⟨by rfl, ?_⟩) ?_ ?_
                rotate_left
                · intro w'
                  go_simp
                  with_reducible rfl
                rotate_left
                · simp only [Act.put, List.setIfInBounds_toArray, List.set_cons_zero, List.set_cons_succ, i64_w, i32_w]
                  rfl
                refine pure_ (i := 12) (N := some 46) (v := ?_) (a' := ?_) #[true, true, true, true, false, true, true, true, true, true, true, true, true, false, false, false, false, false, false, false, false, false, false] rfl rfl (any_of HT_.out (by kernel_rfl)) (fun _ _ _ h => h) (Or.inl ⟨by rfl, ?_⟩) ?_ ?_
                rotate_left
                · intro w'
                  go_simp
                  with_reducible rfl
                rotate_left
                · simp only [Act.put, List.setIfInBounds_toArray, List.set_cons_zero, List.set_cons_succ, i64_w, i32_w]
                  rfl
                refine pure_ (i := 13) (N := some 47) (v := ?_) (a' := ?_) #[true, true, true, true, false, true, true, true, true, true, true, true, true, true, false, false, false, false, false, false, false, false, false] rfl rfl (any_of HT_.out (by kernel_rfl)) (fun _ _ _ h => h) (Or.inl ⟨by rfl, ?_⟩) ?_ ?_
                rotate_left
                · intro w'
                  go_simp
                  with_reducible rfl
                rotate_left
                · simp only [Act.put, List.setIfInBounds_toArray, List.set_cons_zero, List.set_cons_succ, i64_w, i32_w]
                  rfl
                refine pure_ (i := 15) (N := some 49) (v := ?_) (a' := ?_) #[true, true, true, true, false, true, true, true, true, true, true, true, true, true, false, true, false, false, false, false, false, false, false] rfl rfl (any_of HT_.out (by kernel_rfl)) (fun _ _ _ h => h) (Or.inl ⟨by rfl, ?_⟩) ?_ ?_
                rotate_left
                · intro w'
                  go_simp
                  with_reducible rfl
                rotate_left
                · simp only [Act.put, List.setIfInBounds_toArray, List.set_cons_zero, List.set_cons_succ, i64_w, i32_w]
                  rfl
                refine pure_ (i := 16) (N := some 50) (v := ?_) (a' := ?_) #[true, true, true, true, false, true, true, true, true, true, true, true, true, true, false, true, true, false, false, false, false, false, false] rfl rfl (any_of HT_.out (by kernel_rfl)) (fun _ _ _ h => h) (Or.inl ⟨by rfl, ?_⟩) ?_ ?_
                rotate_left
                · intro w'
                  go_simp
                  with_reducible rfl
                rotate_left
                · simp only [Act.put, List.setIfInBounds_toArray, List.set_cons_zero, List.set_cons_succ, i64_w, i32_w]
                  rfl
                refine pure_ (i := 17) (N := some 51) (v := ?_) (a' := ?_) #[true, true, true, true, false, true, true, true, true, true, true, true, true, true, false, true, true, true, false, false, false, false, false] rfl rfl (any_of HT_.out (by kernel_rfl)) (fun _ _ _ h => h) (Or.inl ⟨by rfl, ?_⟩) ?_ ?_
                rotate_left
                · intro w'
                  go_simp
                  with_reducible rfl
                rotate_left
                · simp only [Act.put, List.setIfInBounds_toArray, List.set_cons_zero, List.set_cons_succ, i64_w, i32_w]
                  rfl
                refine take_ (i := 4) (N := some 38) (v := ?_) (a' := ?_) #[true, true, true, true, true, true, true, true, true, true, true, true, true, true, false, true, true, true, false, false, false, false, false] rfl rfl (take_ofW HT_.out HW_.out (by kernel_rfl)) (fun _ _ _ h => h) (Or.inl ⟨by rfl, ?_⟩) hHeld ?_ ?_
                rotate_left
                · rintro w' ⟨s0, s1, s2, s3, s4, s5, s6, s7, s8⟩
                  go_simp
                  with_reducible rfl
                rotate_left
                · simp only [Act.put, List.setIfInBounds_toArray, List.set_cons_zero, List.set_cons_succ, i64_w, i32_w]
                  rfl
                refine take_ (i := 14) (N := some 48) (v := ?_) (a' := ?_) #[true, true, true, true, true, true, true, true, true, true, true, true, true, true, true, true, true, true, false, false, false, false, false] rfl rfl (take_ofW HT_.out HW_.out (by kernel_rfl)) (fun _ _ _ h => h) (Or.inl ⟨by rfl, ?_⟩) hHeld ?_ ?_
                rotate_left
                · rintro w' ⟨s0, s1, s2, s3, s4, s5, s6, s7, s8⟩
                  go_simp
                  with_reducible rfl
                rotate_left
                · simp only [Act.put, List.setIfInBounds_toArray, List.set_cons_zero, List.set_cons_succ, i64_w, i32_w]
                  rfl
                refine take_ (i := 18) (N := some 52) (v := ?_) (a' := ?_) #[true, true, true, true, true, true, true, true, true, true, true, true, true, true, true, true, true, true, true, false, false, false, false] rfl rfl (take_ofW HT_.out HW_.out (by kernel_rfl)) (fun _ _ _ h => h) (Or.inl ⟨by rfl, ?_⟩) hHeld ?_ ?_
                rotate_left
                · rintro w' ⟨s0, s1, s2, s3, s4, s5, s6, s7, s8⟩
                  go_simp
                  with_reducible rfl
                rotate_left
                · simp only [Act.put, List.setIfInBounds_toArray, List.set_cons_zero, List.set_cons_succ, i64_w, i32_w]
                  rfl
                refine pure_ (i := 19) (N := some 53) (v := ?_) (a' := ?_) #[true, true, true, true, true, true, true, true, true, true, true, true, true, true, true, true, true, true, true, true, false, false, false] rfl rfl (any_of HT_.out (by kernel_rfl)) (fun _ _ _ h => h) (Or.inl ⟨by rfl, ?_⟩) ?_ ?_
                rotate_left
                · intro w'
                  go_simp
                  with_reducible rfl
                rotate_left
                · simp only [Act.put, List.setIfInBounds_toArray, List.set_cons_zero, List.set_cons_succ, i64_w, i32_w]
                  rfl
                refine pure_ (i := 20) (N := some 54) (v := ?_) (a' := ?_) #[true, true, true, true, true, true, true, true, true, true, true, true, true, true, true, true, true, true, true, true, true, false, false] rfl rfl (any_of HT_.out (by kernel_rfl)) (fun _ _ _ h => h) (Or.inl ⟨by rfl, ?_⟩) ?_ ?_
                rotate_left
                · intro w'
                  go_simp
                  with_reducible rfl
                rotate_left
                · simp only [Act.put, List.setIfInBounds_toArray, List.set_cons_zero, List.set_cons_succ, i64_w, i32_w]
                  rfl
                refine pure_ (i := 21) (N := some 55) (v := ?_) (a' := ?_) #[true, true, true, true, true, true, true, true, true, true, true, true, true, true, true, true, true, true, true, true, true, true, false] rfl rfl (any_of HT_.out (by kernel_rfl)) (fun _ _ _ h => h) (Or.inl ⟨by rfl, ?_⟩) ?_ ?_
                rotate_left
                · intro w'
                  go_simp
                  with_reducible rfl
                rotate_left
                · simp only [Act.put, List.setIfInBounds_toArray, List.set_cons_zero, List.set_cons_succ, i64_w, i32_w]
                  rfl
                refine one_ (i := 22) (N := none) #[true, true, true, true, true, true, true, true, true, true, true, true, true, true, true, true, true, true, true, true, true, true, true] rfl rfl (one_of HT_.out (by kernel_rfl)) (by decide) (fun K hK => ?_)
                have hs13 : w12.cell? ⟨gb78001, 0, none⟩ = some (.int .i64 0) := (blk_cell BK78001.out 0).trans rfl
                have hfs13 := blk_frozen BK78001.out 0
                have hs14 : w12.cell? ⟨gb78001, 1, none⟩ = some (.int .i64 0) := (blk_cell BK78001.out 1).trans rfl
                have hfs14 := blk_frozen BK78001.out 1
                have hs15 : w12.cell? ⟨gb78001, 2, none⟩ = some (.int .i64 0) := (blk_cell BK78001.out 2).trans rfl
                have hfs15 := blk_frozen BK78001.out 2
                have hs16 : w12.cell? ⟨gb78001, 3, none⟩ = some (.int .i64 0) := (blk_cell BK78001.out 3).trans rfl
                have hfs16 := blk_frozen BK78001.out 3
                refine skip_ (w1 := ?_) (by rfl) rfl ?_ ?_
                rotate_left
                · go_simp
                  rfl
                refine hK.out _ _ ⟨((cell_far (p := ⟨gb78001, _, none⟩) (by first | exact Nat.ne_of_lt (Nat.lt_of_lt_of_le (by have := World.block_lt_of_cell? _ _ hw78006_0; first | rwa [add_block] at this | exact this) GW78001.out) | (rw [add_block]; exact Nat.ne_of_lt (Nat.lt_of_lt_of_le (by have := World.block_lt_of_cell? _ _ hw78006_0; first | rwa [add_block] at this | exact this) GW78001.out)) | (show (Addr.add _ _).block ≠ _; rw [add_block]; exact Nat.ne_of_lt (Nat.lt_of_lt_of_le (by have := World.block_lt_of_cell? _ _ hw78006_0; first | rwa [add_block] at this | exact this) GW78001.out)) | (dsimp only; exact Nat.ne_of_lt (Nat.lt_of_lt_of_le (by have := World.block_lt_of_cell? _ _ hw78006_0; first | rwa [add_block] at this | exact this) GW78001.out))) _).trans (((cell_far (p := ⟨gb78001, _, none⟩) (by first | exact Nat.ne_of_lt (Nat.lt_of_lt_of_le (by have := World.block_lt_of_cell? _ _ hw78006_0; first | rwa [add_block] at this | exact this) GW78001.out) | (rw [add_block]; exact Nat.ne_of_lt (Nat.lt_of_lt_of_le (by have := World.block_lt_of_cell? _ _ hw78006_0; first | rwa [add_block] at this | exact this) GW78001.out)) | (show (Addr.add _ _).block ≠ _; rw [add_block]; exact Nat.ne_of_lt (Nat.lt_of_lt_of_le (by have := World.block_lt_of_cell? _ _ hw78006_0; first | rwa [add_block] at this | exact this) GW78001.out)) | (dsimp only; exact Nat.ne_of_lt (Nat.lt_of_lt_of_le (by have := World.block_lt_of_cell? _ _ hw78006_0; first | rwa [add_block] at this | exact this) GW78001.out))) _).trans (((cell_far (p := ⟨gb78001, _, none⟩) (by first | exact Nat.ne_of_lt (Nat.lt_of_lt_of_le (by have := World.block_lt_of_cell? _ _ hw78006_0; first | rwa [add_block] at this | exact this) GW78001.out) | (rw [add_block]; exact Nat.ne_of_lt (Nat.lt_of_lt_of_le (by have := World.block_lt_of_cell? _ _ hw78006_0; first | rwa [add_block] at this | exact this) GW78001.out)) | (show (Addr.add _ _).block ≠ _; rw [add_block]; exact Nat.ne_of_lt (Nat.lt_of_lt_of_le (by have := World.block_lt_of_cell? _ _ hw78006_0; first | rwa [add_block] at this | exact this) GW78001.out)) | (dsimp only; exact Nat.ne_of_lt (Nat.lt_of_lt_of_le (by have := World.block_lt_of_cell? _ _ hw78006_0; first | rwa [add_block] at this | exact this) GW78001.out))) _).trans (((cell_far (p := ⟨gb78001, _, none⟩) (by first | exact Nat.ne_of_lt (Nat.lt_of_lt_of_le (by have := World.block_lt_of_cell? _ _ hw78006_0; first | rwa [add_block] at this | exact this) GW78001.out) | (rw [add_block]; exact Nat.ne_of_lt (Nat.lt_of_lt_of_le (by have := World.block_lt_of_cell? _ _ hw78006_0; first | rwa [add_block] at this | exact this) GW78001.out)) | (show (Addr.add _ _).block ≠ _; rw [add_block]; exact Nat.ne_of_lt (Nat.lt_of_lt_of_le (by have := World.block_lt_of_cell? _ _ hw78006_0; first | rwa [add_block] at this | exact this) GW78001.out)) | (dsimp only; exact Nat.ne_of_lt (Nat.lt_of_lt_of_le (by have := World.block_lt_of_cell? _ _ hw78006_0; first | rwa [add_block] at this | exact this) GW78001.out))) _).trans (hHeld.1)))))))), ((cell_far (p := ⟨gb78001, _, none⟩) (by first | exact Nat.ne_of_lt (Nat.lt_of_lt_of_le (by have := World.block_lt_of_cell? _ _ hw78006_1; first | rwa [add_block] at this | exact this) GW78001.out) | (rw [add_block]; exact Nat.ne_of_lt (Nat.lt_of_lt_of_le (by have := World.block_lt_of_cell? _ _ hw78006_1; first | rwa [add_block] at this | exact this) GW78001.out)) | (show (Addr.add _ _).block ≠ _; rw [add_block]; exact Nat.ne_of_lt (Nat.lt_of_lt_of_le (by have := World.block_lt_of_cell? _ _ hw78006_1; first | rwa [add_block] at this | exact this) GW78001.out)) | (dsimp only; exact Nat.ne_of_lt (Nat.lt_of_lt_of_le (by have := World.block_lt_of_cell? _ _ hw78006_1; first | rwa [add_block] at this | exact this) GW78001.out))) _).trans (((cell_far (p := ⟨gb78001, _, none⟩) (by first | exact Nat.ne_of_lt (Nat.lt_of_lt_of_le (by have := World.block_lt_of_cell? _ _ hw78006_1; first | rwa [add_block] at this | exact this) GW78001.out) | (rw [add_block]; exact Nat.ne_of_lt (Nat.lt_of_lt_of_le (by have := World.block_lt_of_cell? _ _ hw78006_1; first | rwa [add_block] at this | exact this) GW78001.out)) | (show (Addr.add _ _).block ≠ _; rw [add_block]; exact Nat.ne_of_lt (Nat.lt_of_lt_of_le (by have := World.block_lt_of_cell? _ _ hw78006_1; first | rwa [add_block] at this | exact this) GW78001.out)) | (dsimp only; exact Nat.ne_of_lt (Nat.lt_of_lt_of_le (by have := World.block_lt_of_cell? _ _ hw78006_1; first | rwa [add_block] at this | exact this) GW78001.out))) _).trans (((cell_far (p := ⟨gb78001, _, none⟩) (by first | exact Nat.ne_of_lt (Nat.lt_of_lt_of_le (by have := World.block_lt_of_cell? _ _ hw78006_1; first | rwa [add_block] at this | exact this) GW78001.out) | (rw [add_block]; exact Nat.ne_of_lt (Nat.lt_of_lt_of_le (by have := World.block_lt_of_cell? _ _ hw78006_1; first | rwa [add_block] at this | exact this) GW78001.out)) | (show (Addr.add _ _).block ≠ _; rw [add_block]; exact Nat.ne_of_lt (Nat.lt_of_lt_of_le (by have := World.block_lt_of_cell? _ _ hw78006_1; first | rwa [add_block] at this | exact this) GW78001.out)) | (dsimp only; exact Nat.ne_of_lt (Nat.lt_of_lt_of_le (by have := World.block_lt_of_cell? _ _ hw78006_1; first | rwa [add_block] at this | exact this) GW78001.out))) _).trans (((cell_far (p := ⟨gb78001, _, none⟩) (by first | exact Nat.ne_of_lt (Nat.lt_of_lt_of_le (by have := World.block_lt_of_cell? _ _ hw78006_1; first | rwa [add_block] at this | exact this) GW78001.out) | (rw [add_block]; exact Nat.ne_of_lt (Nat.lt_of_lt_of_le (by have := World.block_lt_of_cell? _ _ hw78006_1; first | rwa [add_block] at this | exact this) GW78001.out)) | (show (Addr.add _ _).block ≠ _; rw [add_block]; exact Nat.ne_of_lt (Nat.lt_of_lt_of_le (by have := World.block_lt_of_cell? _ _ hw78006_1; first | rwa [add_block] at this | exact this) GW78001.out)) | (dsimp only; exact Nat.ne_of_lt (Nat.lt_of_lt_of_le (by have := World.block_lt_of_cell? _ _ hw78006_1; first | rwa [add_block] at this | exact this) GW78001.out))) _).trans (hHeld.2.1)))))))), ((cell_far (p := ⟨gb78001, _, none⟩) (by first | exact Nat.ne_of_lt (Nat.lt_of_lt_of_le (by have := World.block_lt_of_cell? _ _ hw78006_2; first | rwa [add_block] at this | exact this) GW78001.out) | (rw [add_block]; exact Nat.ne_of_lt (Nat.lt_of_lt_of_le (by have := World.block_lt_of_cell? _ _ hw78006_2; first | rwa [add_block] at this | exact this) GW78001.out)) | (show (Addr.add _ _).block ≠ _; rw [add_block]; exact Nat.ne_of_lt (Nat.lt_of_lt_of_le (by have := World.block_lt_of_cell? _ _ hw78006_2; first | rwa [add_block] at this | exact this) GW78001.out)) | (dsimp only; exact Nat.ne_of_lt (Nat.lt_of_lt_of_le (by have := World.block_lt_of_cell? _ _ hw78006_2; first | rwa [add_block] at this | exact this) GW78001.out))) _).trans (((cell_far (p := ⟨gb78001, _, none⟩) (by first | exact Nat.ne_of_lt (Nat.lt_of_lt_of_le (by have := World.block_lt_of_cell? _ _ hw78006_2; first | rwa [add_block] at this | exact this) GW78001.out) | (rw [add_block]; exact Nat.ne_of_lt (Nat.lt_of_lt_of_le (by have := World.block_lt_of_cell? _ _ hw78006_2; first | rwa [add_block] at this | exact this) GW78001.out)) | (show (Addr.add _ _).block ≠ _; rw [add_block]; exact Nat.ne_of_lt (Nat.lt_of_lt_of_le (by have := World.block_lt_of_cell? _ _ hw78006_2; first | rwa [add_block] at this | exact this) GW78001.out)) | (dsimp only; exact Nat.ne_of_lt (Nat.lt_of_lt_of_le (by have := World.block_lt_of_cell? _ _ hw78006_2; first | rwa [add_block] at this | exact this) GW78001.out))) _).trans (((cell_far (p := ⟨gb78001, _, none⟩) (by first | exact Nat.ne_of_lt (Nat.lt_of_lt_of_le (by have := World.block_lt_of_cell? _ _ hw78006_2; first | rwa [add_block] at this | exact this) GW78001.out) | (rw [add_block]; exact Nat.ne_of_lt (Nat.lt_of_lt_of_le (by have := World.block_lt_of_cell? _ _ hw78006_2; first | rwa [add_block] at this | exact this) GW78001.out)) | (show (Addr.add _ _).block ≠ _; rw [add_block]; exact Nat.ne_of_lt (Nat.lt_of_lt_of_le (by have := World.block_lt_of_cell? _ _ hw78006_2; first | rwa [add_block] at this | exact this) GW78001.out)) | (dsimp only; exact Nat.ne_of_lt (Nat.lt_of_lt_of_le (by have := World.block_lt_of_cell? _ _ hw78006_2; first | rwa [add_block] at this | exact this) GW78001.out))) _).trans (((cell_far (p := ⟨gb78001, _, none⟩) (by first | exact Nat.ne_of_lt (Nat.lt_of_lt_of_le (by have := World.block_lt_of_cell? _ _ hw78006_2; first | rwa [add_block] at this | exact this) GW78001.out) | (rw [add_block]; exact Nat.ne_of_lt (Nat.lt_of_lt_of_le (by have := World.block_lt_of_cell? _ _ hw78006_2; first | rwa [add_block] at this | exact this) GW78001.out)) | (show (Addr.add _ _).block ≠ _; rw [add_block]; exact Nat.ne_of_lt (Nat.lt_of_lt_of_le (by have := World.block_lt_of_cell? _ _ hw78006_2; first | rwa [add_block] at this | exact this) GW78001.out)) | (dsimp only; exact Nat.ne_of_lt (Nat.lt_of_lt_of_le (by have := World.block_lt_of_cell? _ _ hw78006_2; first | rwa [add_block] at this | exact this) GW78001.out))) _).trans (hHeld.2.2.1)))))))), ((cell_far (p := ⟨gb78001, _, none⟩) (by first | exact Nat.ne_of_lt (Nat.lt_of_lt_of_le (by have := World.block_lt_of_cell? _ _ hw78007_0; first | rwa [add_block] at this | exact this) GW78001.out) | (rw [add_block]; exact Nat.ne_of_lt (Nat.lt_of_lt_of_le (by have := World.block_lt_of_cell? _ _ hw78007_0; first | rwa [add_block] at this | exact this) GW78001.out)) | (show (Addr.add _ _).block ≠ _; rw [add_block]; exact Nat.ne_of_lt (Nat.lt_of_lt_of_le (by have := World.block_lt_of_cell? _ _ hw78007_0; first | rwa [add_block] at this | exact this) GW78001.out)) | (dsimp only; exact Nat.ne_of_lt (Nat.lt_of_lt_of_le (by have := World.block_lt_of_cell? _ _ hw78007_0; first | rwa [add_block] at this | exact this) GW78001.out))) _).trans (((cell_far (p := ⟨gb78001, _, none⟩) (by first | exact Nat.ne_of_lt (Nat.lt_of_lt_of_le (by have := World.block_lt_of_cell? _ _ hw78007_0; first | rwa [add_block] at this | exact this) GW78001.out) | (rw [add_block]; exact Nat.ne_of_lt (Nat.lt_of_lt_of_le (by have := World.block_lt_of_cell? _ _ hw78007_0; first | rwa [add_block] at this | exact this) GW78001.out)) | (show (Addr.add _ _).block ≠ _; rw [add_block]; exact Nat.ne_of_lt (Nat.lt_of_lt_of_le (by have := World.block_lt_of_cell? _ _ hw78007_0; first | rwa [add_block] at this | exact this) GW78001.out)) | (dsimp only; exact Nat.ne_of_lt (Nat.lt_of_lt_of_le (by have := World.block_lt_of_cell? _ _ hw78007_0; first | rwa [add_block] at this | exact this) GW78001.out))) _).trans (((cell_far (p := ⟨gb78001, _, none⟩) (by first | exact Nat.ne_of_lt (Nat.lt_of_lt_of_le (by have := World.block_lt_of_cell? _ _ hw78007_0; first | rwa [add_block] at this | exact this) GW78001.out) | (rw [add_block]; exact Nat.ne_of_lt (Nat.lt_of_lt_of_le (by have := World.block_lt_of_cell? _ _ hw78007_0; first | rwa [add_block] at this | exact this) GW78001.out)) | (show (Addr.add _ _).block ≠ _; rw [add_block]; exact Nat.ne_of_lt (Nat.lt_of_lt_of_le (by have := World.block_lt_of_cell? _ _ hw78007_0; first | rwa [add_block] at this | exact this) GW78001.out)) | (dsimp only; exact Nat.ne_of_lt (Nat.lt_of_lt_of_le (by have := World.block_lt_of_cell? _ _ hw78007_0; first | rwa [add_block] at this | exact this) GW78001.out))) _).trans (((cell_far (p := ⟨gb78001, _, none⟩) (by first | exact Nat.ne_of_lt (Nat.lt_of_lt_of_le (by have := World.block_lt_of_cell? _ _ hw78007_0; first | rwa [add_block] at this | exact this) GW78001.out) | (rw [add_block]; exact Nat.ne_of_lt (Nat.lt_of_lt_of_le (by have := World.block_lt_of_cell? _ _ hw78007_0; first | rwa [add_block] at this | exact this) GW78001.out)) | (show (Addr.add _ _).block ≠ _; rw [add_block]; exact Nat.ne_of_lt (Nat.lt_of_lt_of_le (by have := World.block_lt_of_cell? _ _ hw78007_0; first | rwa [add_block] at this | exact this) GW78001.out)) | (dsimp only; exact Nat.ne_of_lt (Nat.lt_of_lt_of_le (by have := World.block_lt_of_cell? _ _ hw78007_0; first | rwa [add_block] at this | exact this) GW78001.out))) _).trans (hHeld.2.2.2.1)))))))), ((cell_far (p := ⟨gb78001, _, none⟩) (by first | exact Nat.ne_of_lt (Nat.lt_of_lt_of_le (by have := World.block_lt_of_cell? _ _ hw78007_1; first | rwa [add_block] at this | exact this) GW78001.out) | (rw [add_block]; exact Nat.ne_of_lt (Nat.lt_of_lt_of_le (by have := World.block_lt_of_cell? _ _ hw78007_1; first | rwa [add_block] at this | exact this) GW78001.out)) | (show (Addr.add _ _).block ≠ _; rw [add_block]; exact Nat.ne_of_lt (Nat.lt_of_lt_of_le (by have := World.block_lt_of_cell? _ _ hw78007_1; first | rwa [add_block] at this | exact this) GW78001.out)) | (dsimp only; exact Nat.ne_of_lt (Nat.lt_of_lt_of_le (by have := World.block_lt_of_cell? _ _ hw78007_1; first | rwa [add_block] at this | exact this) GW78001.out))) _).trans (((cell_far (p := ⟨gb78001, _, none⟩) (by first | exact Nat.ne_of_lt (Nat.lt_of_lt_of_le (by have := World.block_lt_of_cell? _ _ hw78007_1; first | rwa [add_block] at this | exact this) GW78001.out) | (rw [add_block]; exact Nat.ne_of_lt (Nat.lt_of_lt_of_le (by have := World.block_lt_of_cell? _ _ hw78007_1; first | rwa [add_block] at this | exact this) GW78001.out)) | (show (Addr.add _ _).block ≠ _; rw [add_block]; exact Nat.ne_of_lt (Nat.lt_of_lt_of_le (by have := World.block_lt_of_cell? _ _ hw78007_1; first | rwa [add_block] at this | exact this) GW78001.out)) | (dsimp only; exact Nat.ne_of_lt (Nat.lt_of_lt_of_le (by have := World.block_lt_of_cell? _ _ hw78007_1; first | rwa [add_block] at this | exact this) GW78001.out))) _).trans (((cell_far (p := ⟨gb78001, _, none⟩) (by first | exact Nat.ne_of_lt (Nat.lt_of_lt_of_le (by have := World.block_lt_of_cell? _ _ hw78007_1; first | rwa [add_block] at this | exact this) GW78001.out) | (rw [add_block]; exact Nat.ne_of_lt (Nat.lt_of_lt_of_le (by have := World.block_lt_of_cell? _ _ hw78007_1; first | rwa [add_block] at this | exact this) GW78001.out)) | (show (Addr.add _ _).block ≠ _; rw [add_block]; exact Nat.ne_of_lt (Nat.lt_of_lt_of_le (by have := World.block_lt_of_cell? _ _ hw78007_1; first | rwa [add_block] at this | exact this) GW78001.out)) | (dsimp only; exact Nat.ne_of_lt (Nat.lt_of_lt_of_le (by have := World.block_lt_of_cell? _ _ hw78007_1; first | rwa [add_block] at this | exact this) GW78001.out))) _).trans (((cell_far (p := ⟨gb78001, _, none⟩) (by first | exact Nat.ne_of_lt (Nat.lt_of_lt_of_le (by have := World.block_lt_of_cell? _ _ hw78007_1; first | rwa [add_block] at this | exact this) GW78001.out) | (rw [add_block]; exact Nat.ne_of_lt (Nat.lt_of_lt_of_le (by have := World.block_lt_of_cell? _ _ hw78007_1; first | rwa [add_block] at this | exact this) GW78001.out)) | (show (Addr.add _ _).block ≠ _; rw [add_block]; exact Nat.ne_of_lt (Nat.lt_of_lt_of_le (by have := World.block_lt_of_cell? _ _ hw78007_1; first | rwa [add_block] at this | exact this) GW78001.out)) | (dsimp only; exact Nat.ne_of_lt (Nat.lt_of_lt_of_le (by have := World.block_lt_of_cell? _ _ hw78007_1; first | rwa [add_block] at this | exact this) GW78001.out))) _).trans (hHeld.2.2.2.2.1)))))))), ((cell_far (p := ⟨gb78001, _, none⟩) (by first | exact Nat.ne_of_lt (Nat.lt_of_lt_of_le (by have := World.block_lt_of_cell? _ _ hw78007_2; first | rwa [add_block] at this | exact this) GW78001.out) | (rw [add_block]; exact Nat.ne_of_lt (Nat.lt_of_lt_of_le (by have := World.block_lt_of_cell? _ _ hw78007_2; first | rwa [add_block] at this | exact this) GW78001.out)) | (show (Addr.add _ _).block ≠ _; rw [add_block]; exact Nat.ne_of_lt (Nat.lt_of_lt_of_le (by have := World.block_lt_of_cell? _ _ hw78007_2; first | rwa [add_block] at this | exact this) GW78001.out)) | (dsimp only; exact Nat.ne_of_lt (Nat.lt_of_lt_of_le (by have := World.block_lt_of_cell? _ _ hw78007_2; first | rwa [add_block] at this | exact this) GW78001.out))) _).trans (((cell_far (p := ⟨gb78001, _, none⟩) (by first | exact Nat.ne_of_lt (Nat.lt_of_lt_of_le (by have := World.block_lt_of_cell? _ _ hw78007_2; first | rwa [add_block] at this | exact this) GW78001.out) | (rw [add_block]; exact Nat.ne_of_lt (Nat.lt_of_lt_of_le (by have := World.block_lt_of_cell? _ _ hw78007_2; first | rwa [add_block] at this | exact this) GW78001.out)) | (show (Addr.add _ _).block ≠ _; rw [add_block]; exact Nat.ne_of_lt (Nat.lt_of_lt_of_le (by have := World.block_lt_of_cell? _ _ hw78007_2; first | rwa [add_block] at this | exact this) GW78001.out)) | (dsimp only; exact Nat.ne_of_lt (Nat.lt_of_lt_of_le (by have := World.block_lt_of_cell? _ _ hw78007_2; first | rwa [add_block] at this | exact this) GW78001.out))) _).trans (((cell_far (p := ⟨gb78001, _, none⟩) (by first | exact Nat.ne_of_lt (Nat.lt_of_lt_of_le (by have := World.block_lt_of_cell? _ _ hw78007_2; first | rwa [add_block] at this | exact this) GW78001.out) | (rw [add_block]; exact Nat.ne_of_lt (Nat.lt_of_lt_of_le (by have := World.block_lt_of_cell? _ _ hw78007_2; first | rwa [add_block] at this | exact this) GW78001.out)) | (show (Addr.add _ _).block ≠ _; rw [add_block]; exact Nat.ne_of_lt (Nat.lt_of_lt_of_le (by have := World.block_lt_of_cell? _ _ hw78007_2; first | rwa [add_block] at this | exact this) GW78001.out)) | (dsimp only; exact Nat.ne_of_lt (Nat.lt_of_lt_of_le (by have := World.block_lt_of_cell? _ _ hw78007_2; first | rwa [add_block] at this | exact this) GW78001.out))) _).trans (((cell_far (p := ⟨gb78001, _, none⟩) (by first | exact Nat.ne_of_lt (Nat.lt_of_lt_of_le (by have := World.block_lt_of_cell? _ _ hw78007_2; first | rwa [add_block] at this | exact this) GW78001.out) | (rw [add_block]; exact Nat.ne_of_lt (Nat.lt_of_lt_of_le (by have := World.block_lt_of_cell? _ _ hw78007_2; first | rwa [add_block] at this | exact this) GW78001.out)) | (show (Addr.add _ _).block ≠ _; rw [add_block]; exact Nat.ne_of_lt (Nat.lt_of_lt_of_le (by have := World.block_lt_of_cell? _ _ hw78007_2; first | rwa [add_block] at this | exact this) GW78001.out)) | (dsimp only; exact Nat.ne_of_lt (Nat.lt_of_lt_of_le (by have := World.block_lt_of_cell? _ _ hw78007_2; first | rwa [add_block] at this | exact this) GW78001.out))) _).trans (hHeld.2.2.2.2.2.1)))))))), ((cell_far (p := ⟨gb78001, _, none⟩) (by first | exact Nat.ne_of_lt (Nat.lt_of_lt_of_le (by have := World.block_lt_of_cell? _ _ hw78008_0; first | rwa [add_block] at this | exact this) GW78001.out) | (rw [add_block]; exact Nat.ne_of_lt (Nat.lt_of_lt_of_le (by have := World.block_lt_of_cell? _ _ hw78008_0; first | rwa [add_block] at this | exact this) GW78001.out)) | (show (Addr.add _ _).block ≠ _; rw [add_block]; exact Nat.ne_of_lt (Nat.lt_of_lt_of_le (by have := World.block_lt_of_cell? _ _ hw78008_0; first | rwa [add_block] at this | exact this) GW78001.out)) | (dsimp only; exact Nat.ne_of_lt (Nat.lt_of_lt_of_le (by have := World.block_lt_of_cell? _ _ hw78008_0; first | rwa [add_block] at this | exact this) GW78001.out))) _).trans (((cell_far (p := ⟨gb78001, _, none⟩) (by first | exact Nat.ne_of_lt (Nat.lt_of_lt_of_le (by have := World.block_lt_of_cell? _ _ hw78008_0; first | rwa [add_block] at this | exact this) GW78001.out) | (rw [add_block]; exact Nat.ne_of_lt (Nat.lt_of_lt_of_le (by have := World.block_lt_of_cell? _ _ hw78008_0; first | rwa [add_block] at this | exact this) GW78001.out)) | (show (Addr.add _ _).block ≠ _; rw [add_block]; exact Nat.ne_of_lt (Nat.lt_of_lt_of_le (by have := World.block_lt_of_cell? _ _ hw78008_0; first | rwa [add_block] at this | exact this) GW78001.out)) | (dsimp only; exact Nat.ne_of_lt (Nat.lt_of_lt_of_le (by have := World.block_lt_of_cell? _ _ hw78008_0; first | rwa [add_block] at this | exact this) GW78001.out))) _).trans (((cell_far (p := ⟨gb78001, _, none⟩) (by first | exact Nat.ne_of_lt (Nat.lt_of_lt_of_le (by have := World.block_lt_of_cell? _ _ hw78008_0; first | rwa [add_block] at this | exact this) GW78001.out) | (rw [add_block]; exact Nat.ne_of_lt (Nat.lt_of_lt_of_le (by have := World.block_lt_of_cell? _ _ hw78008_0; first | rwa [add_block] at this | exact this) GW78001.out)) | (show (Addr.add _ _).block ≠ _; rw [add_block]; exact Nat.ne_of_lt (Nat.lt_of_lt_of_le (by have := World.block_lt_of_cell? _ _ hw78008_0; first | rwa [add_block] at this | exact this) GW78001.out)) | (dsimp only; exact Nat.ne_of_lt (Nat.lt_of_lt_of_le (by have := World.block_lt_of_cell? _ _ hw78008_0; first | rwa [add_block] at this | exact this) GW78001.out))) _).trans (((cell_far (p := ⟨gb78001, _, none⟩) (by first | exact Nat.ne_of_lt (Nat.lt_of_lt_of_le (by have := World.block_lt_of_cell? _ _ hw78008_0; first | rwa [add_block] at this | exact this) GW78001.out) | (rw [add_block]; exact Nat.ne_of_lt (Nat.lt_of_lt_of_le (by have := World.block_lt_of_cell? _ _ hw78008_0; first | rwa [add_block] at this | exact this) GW78001.out)) | (show (Addr.add _ _).block ≠ _; rw [add_block]; exact Nat.ne_of_lt (Nat.lt_of_lt_of_le (by have := World.block_lt_of_cell? _ _ hw78008_0; first | rwa [add_block] at this | exact this) GW78001.out)) | (dsimp only; exact Nat.ne_of_lt (Nat.lt_of_lt_of_le (by have := World.block_lt_of_cell? _ _ hw78008_0; first | rwa [add_block] at this | exact this) GW78001.out))) _).trans (hHeld.2.2.2.2.2.2.1)))))))), ((cell_far (p := ⟨gb78001, _, none⟩) (by first | exact Nat.ne_of_lt (Nat.lt_of_lt_of_le (by have := World.block_lt_of_cell? _ _ hw78008_1; first | rwa [add_block] at this | exact this) GW78001.out) | (rw [add_block]; exact Nat.ne_of_lt (Nat.lt_of_lt_of_le (by have := World.block_lt_of_cell? _ _ hw78008_1; first | rwa [add_block] at this | exact this) GW78001.out)) | (show (Addr.add _ _).block ≠ _; rw [add_block]; exact Nat.ne_of_lt (Nat.lt_of_lt_of_le (by have := World.block_lt_of_cell? _ _ hw78008_1; first | rwa [add_block] at this | exact this) GW78001.out)) | (dsimp only; exact Nat.ne_of_lt (Nat.lt_of_lt_of_le (by have := World.block_lt_of_cell? _ _ hw78008_1; first | rwa [add_block] at this | exact this) GW78001.out))) _).trans (((cell_far (p := ⟨gb78001, _, none⟩) (by first | exact Nat.ne_of_lt (Nat.lt_of_lt_of_le (by have := World.block_lt_of_cell? _ _ hw78008_1; first | rwa [add_block] at this | exact this) GW78001.out) | (rw [add_block]; exact Nat.ne_of_lt (Nat.lt_of_lt_of_le (by have := World.block_lt_of_cell? _ _ hw78008_1; first | rwa [add_block] at this | exact this) GW78001.out)) | (show (Addr.add _ _).block ≠ _; rw [add_block]; exact Nat.ne_of_lt (Nat.lt_of_lt_of_le (by have := World.block_lt_of_cell? _ _ hw78008_1; first | rwa [add_block] at this | exact this) GW78001.out)) | (dsimp only; exact Nat.ne_of_lt (Nat.lt_of_lt_of_le (by have := World.block_lt_of_cell? _ _ hw78008_1; first | rwa [add_block] at this | exact this) GW78001.out))) _).trans (((cell_far (p := ⟨gb78001, _, none⟩) (by first | exact Nat.ne_of_lt (Nat.lt_of_lt_of_le (by have := World.block_lt_of_cell? _ _ hw78008_1; first | rwa [add_block] at this | exact this) GW78001.out) | (rw [add_block]; exact Nat.ne_of_lt (Nat.lt_of_lt_of_le (by have := World.block_lt_of_cell? _ _ hw78008_1; first | rwa [add_block] at this | exact this) GW78001.out)) | (show (Addr.add _ _).block ≠ _; rw [add_block]; exact Nat.ne_of_lt (Nat.lt_of_lt_of_le (by have := World.block_lt_of_cell? _ _ hw78008_1; first | rwa [add_block] at this | exact this) GW78001.out)) | (dsimp only; exact Nat.ne_of_lt (Nat.lt_of_lt_of_le (by have := World.block_lt_of_cell? _ _ hw78008_1; first | rwa [add_block] at this | exact this) GW78001.out))) _).trans (((cell_far (p := ⟨gb78001, _, none⟩) (by first | exact Nat.ne_of_lt (Nat.lt_of_lt_of_le (by have := World.block_lt_of_cell? _ _ hw78008_1; first | rwa [add_block] at this | exact this) GW78001.out) | (rw [add_block]; exact Nat.ne_of_lt (Nat.lt_of_lt_of_le (by have := World.block_lt_of_cell? _ _ hw78008_1; first | rwa [add_block] at this | exact this) GW78001.out)) | (show (Addr.add _ _).block ≠ _; rw [add_block]; exact Nat.ne_of_lt (Nat.lt_of_lt_of_le (by have := World.block_lt_of_cell? _ _ hw78008_1; first | rwa [add_block] at this | exact this) GW78001.out)) | (dsimp only; exact Nat.ne_of_lt (Nat.lt_of_lt_of_le (by have := World.block_lt_of_cell? _ _ hw78008_1; first | rwa [add_block] at this | exact this) GW78001.out))) _).trans (hHeld.2.2.2.2.2.2.2.1)))))))), ((cell_far (p := ⟨gb78001, _, none⟩) (by first | exact Nat.ne_of_lt (Nat.lt_of_lt_of_le (by have := World.block_lt_of_cell? _ _ hw78008_2; first | rwa [add_block] at this | exact this) GW78001.out) | (rw [add_block]; exact Nat.ne_of_lt (Nat.lt_of_lt_of_le (by have := World.block_lt_of_cell? _ _ hw78008_2; first | rwa [add_block] at this | exact this) GW78001.out)) | (show (Addr.add _ _).block ≠ _; rw [add_block]; exact Nat.ne_of_lt (Nat.lt_of_lt_of_le (by have := World.block_lt_of_cell? _ _ hw78008_2; first | rwa [add_block] at this | exact this) GW78001.out)) | (dsimp only; exact Nat.ne_of_lt (Nat.lt_of_lt_of_le (by have := World.block_lt_of_cell? _ _ hw78008_2; first | rwa [add_block] at this | exact this) GW78001.out))) _).trans (((cell_far (p := ⟨gb78001, _, none⟩) (by first | exact Nat.ne_of_lt (Nat.lt_of_lt_of_le (by have := World.block_lt_of_cell? _ _ hw78008_2; first | rwa [add_block] at this | exact this) GW78001.out) | (rw [add_block]; exact Nat.ne_of_lt (Nat.lt_of_lt_of_le (by have := World.block_lt_of_cell? _ _ hw78008_2; first | rwa [add_block] at this | exact this) GW78001.out)) | (show (Addr.add _ _).block ≠ _; rw [add_block]; exact Nat.ne_of_lt (Nat.lt_of_lt_of_le (by have := World.block_lt_of_cell? _ _ hw78008_2; first | rwa [add_block] at this | exact this) GW78001.out)) | (dsimp only; exact Nat.ne_of_lt (Nat.lt_of_lt_of_le (by have := World.block_lt_of_cell? _ _ hw78008_2; first | rwa [add_block] at this | exact this) GW78001.out))) _).trans (((cell_far (p := ⟨gb78001, _, none⟩) (by first | exact Nat.ne_of_lt (Nat.lt_of_lt_of_le (by have := World.block_lt_of_cell? _ _ hw78008_2; first | rwa [add_block] at this | exact this) GW78001.out) | (rw [add_block]; exact Nat.ne_of_lt (Nat.lt_of_lt_of_le (by have := World.block_lt_of_cell? _ _ hw78008_2; first | rwa [add_block] at this | exact this) GW78001.out)) | (show (Addr.add _ _).block ≠ _; rw [add_block]; exact Nat.ne_of_lt (Nat.lt_of_lt_of_le (by have := World.block_lt_of_cell? _ _ hw78008_2; first | rwa [add_block] at this | exact this) GW78001.out)) | (dsimp only; exact Nat.ne_of_lt (Nat.lt_of_lt_of_le (by have := World.block_lt_of_cell? _ _ hw78008_2; first | rwa [add_block] at this | exact this) GW78001.out))) _).trans (((cell_far (p := ⟨gb78001, _, none⟩) (by first | exact Nat.ne_of_lt (Nat.lt_of_lt_of_le (by have := World.block_lt_of_cell? _ _ hw78008_2; first | rwa [add_block] at this | exact this) GW78001.out) | (rw [add_block]; exact Nat.ne_of_lt (Nat.lt_of_lt_of_le (by have := World.block_lt_of_cell? _ _ hw78008_2; first | rwa [add_block] at this | exact this) GW78001.out)) | (show (Addr.add _ _).block ≠ _; rw [add_block]; exact Nat.ne_of_lt (Nat.lt_of_lt_of_le (by have := World.block_lt_of_cell? _ _ hw78008_2; first | rwa [add_block] at this | exact this) GW78001.out)) | (dsimp only; exact Nat.ne_of_lt (Nat.lt_of_lt_of_le (by have := World.block_lt_of_cell? _ _ hw78008_2; first | rwa [add_block] at this | exact this) GW78001.out))) _).trans (hHeld.2.2.2.2.2.2.2.2))))))))⟩ (fun hHeld => ?_)
                clear hK K
                refine done_ (done_of HT_.out (by kernel_rfl)) ?_
                try go_wp2
                refine bodyPost_ret (results_cell_row rfl _ _ gb78001 60 #[.int .i64 x3_1, .int .i64 ((rd_T47 l0 0).f0), .int .i64 (wrap64 (x4_1 - x3_1)), .int .i64 (wrap64 ((wrap64 (((rd_T47 l0 (ji9)).f0) - ((rd_T47 l0 0).f0))) + 1))] (0, 0) _ rfl (by (with_reducible repeat (first | refine blk_drewN ?_ _ | refine blk_drew ?_ | refine blk_alloc ?_ _)); refine blk_put (cs := #[.int .i64 x3_1, .int .i64 ((rd_T47 l0 0).f0), .int .i64 (wrap64 (x4_1 - x3_1)), .int .i64 0]) ?_ 3 _ rfl; (with_reducible repeat (first | refine blk_drewN ?_ _ | refine blk_drew ?_ | refine blk_alloc ?_ _)); refine blk_put (cs := #[.int .i64 x3_1, .int .i64 ((rd_T47 l0 0).f0), .int .i64 0, .int .i64 0]) ?_ 2 _ rfl; (with_reducible repeat (first | refine blk_drewN ?_ _ | refine blk_drew ?_ | refine blk_alloc ?_ _)); refine blk_put (cs := #[.int .i64 x3_1, .int .i64 0, .int .i64 0, .int .i64 0]) ?_ 1 _ rfl; (with_reducible repeat (first | refine blk_drewN ?_ _ | refine blk_drew ?_ | refine blk_alloc ?_ _)); refine blk_put (cs := #[.int .i64 0, .int .i64 0, .int .i64 0, .int .i64 0]) ?_ 0 _ rfl; (with_reducible repeat (first | refine blk_drewN ?_ _ | refine blk_drew ?_ | refine blk_alloc ?_ _)); exact BK78001.out) Try.underlying60 rfl (by kernel_rfl)) rfl ?_
                exact ⟨by first | rfl | (simp [errW_none, errW_some] <;> rfl) | (simp only [← hji9]; first | rfl | (simp [errW_none, errW_some] <;> rfl)) | (simp [*, errW_none, errW_some] <;> rfl), by repeat (first | (with_reducible first | exact HB.out | apply below_alloc | apply pw_below_drewN | apply below_drew1 | refine below_set ?_ GE78001.out) | exact HB.out)⟩
              · rw [if_neg c11] at H
                exact absurd H (by simp)
            · rw [if_neg c10] at H
              exact absurd H (by simp)
          · rw [if_neg c8] at H
            exact absurd H (by simp)
  · rw [if_neg c2] at H
    exact absurd H (by simp)

end Go.Proofs.Ytbgohbinonkhfaa.Q

namespace Go.Proofs.Ytbgohbinonkhfaa.Q
open Go.RowKit Go.Proofs.YtbgohbinonkhfaaW.PrintWords Go.Proofs.YtbgohbinonkhfaaW.PrintLast Go.Proofs.YtbgohbinonkhfaaW.PrintMore
attribute [local go_sem] max2_int min2_int max_two min_two max_three min_three max_four min_four
set_option linter.unusedVariables false
set_option linter.unusedSimpArgs false
/-! ### spec_ChangedBoxes: function 32 -/
noncomputable def spec_ChangedBoxes.l0 : Nat → List (S60) → List (List (S47)) → Int → Option ((List (S60)))
  | 0, _, _, _ => none
  | k + 1, x5, x6, x7 => if x7 < (x6.length : Int) then (if 0 ≤ x7 then ((spec_boundsOf.f k (rd_L13 x6 x7)).bind fun bt33014 => (if x5.length < 4398046511104 then (spec_ChangedBoxes.l0 k (x5 ++ [(⟨bt33014.1, bt33014.2.1, bt33014.2.2.1, bt33014.2.2.2⟩ : S60)]) x6 (wrap64 (x7 + 1))) else (none))) else (none)) else (some x5)
noncomputable def spec_ChangedBoxes.f (k : Nat) (a0_0 : Int) (a0_1 : Int) (a0_2 : Int) (l0_3 : List Int) (a1_0 : Int) (a1_1 : Int) (a1_2 : Int) (l1_3 : List Int) : Option ((List (S60))) := (spec_sameShape.f k a0_0 a0_1 a0_2 l0_3 a1_0 a1_1 a1_2 l1_3).bind fun t33006 => (if t33006 = true then ((spec_changed.f k a0_0 a0_1 a0_2 l0_3 a1_0 a1_1 a1_2 l1_3).bind fun t33007 => ((spec_parts.f k t33007).bind fun t33010 => (spec_ChangedBoxes.l0 k (([] : List (S60))) t33010 0))) else (some ([] : List (S60))))
theorem spec_ChangedBoxes.mono_l : ∀ k, (∀ y0 y1 y2, LeO (spec_ChangedBoxes.l0 k y0 y1 y2) (spec_ChangedBoxes.l0 (k + 1) y0 y1 y2))
  | 0 => fun _ _ _ r h => by simp [spec_ChangedBoxes.l0] at h
  | k + 1 => by
    have ih0 := spec_ChangedBoxes.mono_l k
    · intro y0 y1 y2
      unfold spec_ChangedBoxes.l0
      repeat' first
      | (with_reducible exact ih0 _ _ _)
      | (with_reducible exact spec_boundsOf.mono _ _)
      | (with_reducible exact spec_changed.mono _ _ _ _ _ _ _ _ _)
      | (with_reducible exact spec_parts.mono _ _)
      | (with_reducible exact spec_sameShape.mono _ _ _ _ _ _ _ _ _)
      | (with_reducible exact LeO.refl _)
      | (with_reducible exact LeO.none _)
      | (with_reducible refine LeO.ite ?_ ?_)
      | (with_reducible refine LeO.bind ?_ (fun _ => ?_))
      | exact ih0 _ _ _
      | exact spec_boundsOf.mono _ _
      | exact spec_changed.mono _ _ _ _ _ _ _ _ _
      | exact spec_parts.mono _ _
      | exact spec_sameShape.mono _ _ _ _ _ _ _ _ _
      | exact LeO.none _
      | refine LeO.ite ?_ ?_
      | refine LeO.bind ?_ (fun _ => ?_)
theorem spec_ChangedBoxes.mono : ∀ a0 a1 a2 a3 a4 a5 a6 a7 k, LeO (spec_ChangedBoxes.f k a0 a1 a2 a3 a4 a5 a6 a7) (spec_ChangedBoxes.f (k + 1) a0 a1 a2 a3 a4 a5 a6 a7) := by
  intro a0 a1 a2 a3 a4 a5 a6 a7 k
  have ih0 := spec_ChangedBoxes.mono_l k
  unfold spec_ChangedBoxes.f
  repeat' first
      | (with_reducible exact ih0 _ _ _)
      | (with_reducible exact spec_boundsOf.mono _ _)
      | (with_reducible exact spec_changed.mono _ _ _ _ _ _ _ _ _)
      | (with_reducible exact spec_parts.mono _ _)
      | (with_reducible exact spec_sameShape.mono _ _ _ _ _ _ _ _ _)
      | (with_reducible exact LeO.refl _)
      | (with_reducible exact LeO.none _)
      | (with_reducible refine LeO.ite ?_ ?_)
      | (with_reducible refine LeO.bind ?_ (fun _ => ?_))
      | exact ih0 _ _ _
      | exact spec_boundsOf.mono _ _
      | exact spec_changed.mono _ _ _ _ _ _ _ _ _
      | exact spec_parts.mono _ _
      | exact spec_sameShape.mono _ _ _ _ _ _ _ _ _
      | exact LeO.none _
      | refine LeO.ite ?_ ?_
      | refine LeO.bind ?_ (fun _ => ?_)
set_option maxHeartbeats 8000000 in
set_option maxRecDepth 100000 in
theorem spec_ChangedBoxes.calls (k : Nat) (a0_0 : Int) (a0_1 : Int) (a0_2 : Int) (A0_3 : Option Addr) (c0_3 : Nat) (l0_3 : List Int) (a1_0 : Int) (a1_1 : Int) (a1_2 : Int) (A1_3 : Option Addr) (c1_3 : Nat) (l1_3 : List Int) (r : List (S60)) (w : World) (hr0_3 : Kd.C (Kd.int .i64) w A0_3 l0_3.length l0_3) (hc0_3 : l0_3.length ≤ c0_3) (hr1_3 : Kd.C (Kd.int .i64) w A1_3 l1_3.length l1_3) (hc1_3 : l1_3.length ≤ c1_3) (h : spec_ChangedBoxes.f k a0_0 a0_1 a0_2 l0_3 a1_0 a1_1 a1_2 l1_3 = some r) :
    Calls Try.prog 32 #[.agg #[.int .i64 a0_0, .int .i64 a0_1, .int .i64 a0_2, .slice A0_3 l0_3.length c0_3], .agg #[.int .i64 a1_0, .int .i64 a1_1, .int .i64 a1_2, .slice A1_3 l1_3.length c1_3]] w fun e w' => ∃ v0_ : Value, e = .returned (v0_) ∧ Kd.R k60 60 w' w.heap.size (fun _ => True) v0_ r ∧ Below w.heap.size w w' := by
  have hu28 := Try.underlying28
  have HR0_3 := Aside0.mk hr0_3
  have HC0_3 := Aside0.mk hc0_3
  clear hr0_3 hc0_3
  have HR1_3 := Aside0.mk hr1_3
  have HC1_3 := Aside0.mk hc1_3
  clear hr1_3 hc1_3
  have HB := Aside0.mk (Below.refl w.heap.size w)
  have H : ((spec_sameShape.f k a0_0 a0_1 a0_2 l0_3 a1_0 a1_1 a1_2 l1_3).bind fun t33006 => (if t33006 = true then ((spec_changed.f k a0_0 a0_1 a0_2 l0_3 a1_0 a1_1 a1_2 l1_3).bind fun t33007 => ((spec_parts.f k t33007).bind fun t33010 => (spec_ChangedBoxes.l0 k (([] : List (S60))) t33010 0))) else (some ([] : List (S60))))) = some r := h
  clear h
  obtain ⟨y33003, hy33003⟩ : ∃ y_ : List (S60), y_ = (([] : List (S60))) := ⟨_, rfl⟩
  replace H : ((spec_sameShape.f k a0_0 a0_1 a0_2 l0_3 a1_0 a1_1 a1_2 l1_3).bind fun t33006 => (if t33006 = true then ((spec_changed.f k a0_0 a0_1 a0_2 l0_3 a1_0 a1_1 a1_2 l1_3).bind fun t33007 => ((spec_parts.f k t33007).bind fun t33010 => (spec_ChangedBoxes.l0 k y33003 t33010 0))) else (some ([] : List (S60))))) = some r := by first | (rw [hy33003]; with_reducible exact H) | (have H2_ := (Option.bind_some _ _).symm.trans H; rw [hy33003]; with_reducible exact H2_) | (have H2_ := (Option.bind_some _ _).symm.trans H; with_reducible exact H2_) | with_reducible exact H | (rw [hy33003]; exact H) | exact H
  have Ny33003 := Aside0.mk hy33003
  clear hy33003
  replace H := Option.bind_eq_some_iff.mp H
  obtain ⟨t33006, A30, H⟩ := H
  replace H : (if t33006 = true then ((spec_changed.f k a0_0 a0_1 a0_2 l0_3 a1_0 a1_1 a1_2 l1_3).bind fun t33007 => ((spec_parts.f k t33007).bind fun t33010 => (spec_ChangedBoxes.l0 k y33003 t33010 0))) else (some ([] : List (S60)))) = some r := H
  have A3 := Aside0.mk A30
  clear A30
  by_cases c4 : t33006 = true
  · subst c4
    have H1 : ((spec_changed.f k a0_0 a0_1 a0_2 l0_3 a1_0 a1_1 a1_2 l1_3).bind fun t33007 => ((spec_parts.f k t33007).bind fun t33010 => (spec_ChangedBoxes.l0 k y33003 t33010 0))) = some r := by rw [if_pos rfl] at H; exact H
    clear H
    have H := H1
    clear H1
    replace H := Option.bind_eq_some_iff.mp H
    obtain ⟨t33007, A50, H⟩ := H
    replace H : ((spec_parts.f k t33007).bind fun t33010 => (spec_ChangedBoxes.l0 k y33003 t33010 0)) = some r := H
    have A5 := Aside0.mk A50
    clear A50
    replace H := Option.bind_eq_some_iff.mp H
    obtain ⟨t33010, A60, H⟩ := H
    replace H : (spec_ChangedBoxes.l0 k y33003 t33010 0) = some r := H
    have A6 := Aside0.mk A60
    clear A60
    have H' := Aside0.mk H
    clear H
    go_enter Try.func32, Try.ntmps32
    go_wp2_with (first | ((with_reducible refine gate_dst (N := 2) rfl ?_); refine box_event ?hg (N := 2) ?hd (cs := #[.int .i64 a0_0, .int .i64 a0_1, .int .i64 a0_2, .slice A0_3 l0_3.length c0_3]) (t := 28) ?hr ?_; (case hd => rfl); (case hg => rfl); (case hr => first | (go_simp; done) | (go_simp; rfl)); intro gb33001 hg w7 hbox hb; have n0_ := Aside0.mk (below_step (by repeat (first | (with_reducible first | exact HB.out | apply below_alloc | apply pw_below_drewN | apply below_drew1) | exact HB.out)) hb); have n1_ := Aside0.mk (hbox); have n2_ := Aside0.mk ((by rw [hg]; exact (below_size (by repeat (first | (with_reducible first | exact HB.out | apply below_alloc | apply pw_below_drewN | apply below_drew1) | exact HB.out))) : w.heap.size ≤ gb33001)); have n3_ := Aside0.mk ((by rw [hg]; exact (below_size (by repeat (first | (with_reducible first | exact HB.out | apply below_alloc | apply pw_below_drewN | apply below_drew1) | exact HB.out))) : w.heap.size ≤ gb33001)); clear HB; have HB := n0_; have BK33001 := n1_; have GW33001 := n2_; have GE33001 := n3_; clear n0_ n1_ n2_ n3_; clear hb hbox hg) | ((with_reducible refine gate_dst (N := 3) rfl ?_); refine box_event ?hg (N := 3) ?hd (cs := #[.int .i64 a1_0, .int .i64 a1_1, .int .i64 a1_2, .slice A1_3 l1_3.length c1_3]) (t := 28) ?hr ?_; (case hd => rfl); (case hg => rfl); (case hr => first | (go_simp; done) | (go_simp; rfl)); intro gb33002 hg w8 hbox hb; have n0_ := Aside0.mk (blk_below (g := gb33001) (o := .cells #[.int .i64 a0_0, .int .i64 a0_1, .int .i64 a0_2, .slice A0_3 l0_3.length c0_3] 28 (0, 0)) (by (with_reducible repeat (first | refine blk_drewN ?_ _ | refine blk_drew ?_ | refine blk_alloc ?_ _)); exact BK33001.out) hb); have n1_ := Aside0.mk (below_step (by repeat (first | (with_reducible first | exact HB.out | apply below_alloc | apply pw_below_drewN | apply below_drew1 | refine below_set ?_ GE33001.out) | exact HB.out)) hb); have n2_ := Aside0.mk (hbox); have n3_ := Aside0.mk ((by rw [hg]; exact (below_size (by repeat (first | (with_reducible first | exact HB.out | apply below_alloc | apply pw_below_drewN | apply below_drew1 | refine below_set ?_ GE33001.out) | exact HB.out))) : w.heap.size ≤ gb33002)); have n4_ := Aside0.mk ((by rw [hg]; exact (below_size (by repeat (first | (with_reducible first | exact HB.out | apply below_alloc | apply pw_below_drewN | apply below_drew1 | refine below_set ?_ GE33001.out) | exact HB.out))) : w.heap.size ≤ gb33002)); have n5_ := Aside0.mk ((by rw [hg]; exact Nat.ne_of_lt (blk_lt (g := gb33001) (o := .cells #[.int .i64 a0_0, .int .i64 a0_1, .int .i64 a0_2, .slice A0_3 l0_3.length c0_3] 28 (0, 0)) (by (with_reducible repeat (first | refine blk_drewN ?_ _ | refine blk_drew ?_ | refine blk_alloc ?_ _)); exact BK33001.out)) : gb33001 ≠ gb33002)); have n6_ := Aside0.mk ((by rw [hg]; exact Nat.ne_of_gt (blk_lt (g := gb33001) (o := .cells #[.int .i64 a0_0, .int .i64 a0_1, .int .i64 a0_2, .slice A0_3 l0_3.length c0_3] 28 (0, 0)) (by (with_reducible repeat (first | refine blk_drewN ?_ _ | refine blk_drew ?_ | refine blk_alloc ?_ _)); exact BK33001.out)) : gb33002 ≠ gb33001)); clear BK33001; clear HB; have BK33001 := n0_; have HB := n1_; have BK33002 := n2_; have GW33002 := n3_; have GE33002 := n4_; have NB33001_33002 := n5_; have NB33002_33001 := n6_; clear n0_ n1_ n2_ n3_ n4_ n5_ n6_; clear hb hbox hg) | ((with_reducible refine gate_dst (N := 8) rfl ?_); refine Kd.R_lit k60 _ 60 ?hg (N := 8) ?hd (xs := ([] : List (S60))) (inner := []) (ok := fun _ => True) (okp := fun _ => True) ?hr ?hp (fun _ hk => hk) trivial (Below.refl _ _) (Nat.le_refl _) (by simp) ?_; (case hd => rfl); (case hg => rfl); (case hr => first | (go_simp; done) | (go_simp; rfl)); (case hp => exact (Reps.none _ _)); intro v33004 w9 ho10 hb hg_ hnew_; clear hg_ hnew_; (first | rw [← Ny33003.out] at ho10 | (simp only [Int.reduceToNat] at ho10; rw [← Ny33003.out] at ho10)); have n0_ := Aside0.mk (Kd.R_lower ho10 (below_size (by repeat (first | (with_reducible first | exact HB.out | apply below_alloc | apply pw_below_drewN | apply below_drew1 | refine below_set ?_ GE33001.out | refine below_set ?_ GE33002.out) | exact HB.out)))); have n1_ := Aside0.mk (blk_below (g := gb33001) (o := .cells #[.int .i64 a0_0, .int .i64 a0_1, .int .i64 a0_2, .slice A0_3 l0_3.length c0_3] 28 (0, 0)) (by (with_reducible repeat (first | refine blk_drewN ?_ _ | refine blk_drew ?_ | refine blk_alloc ?_ _)); exact BK33001.out) hb); have n2_ := Aside0.mk (blk_below (g := gb33002) (o := .cells #[.int .i64 a1_0, .int .i64 a1_1, .int .i64 a1_2, .slice A1_3 l1_3.length c1_3] 28 (0, 0)) (by (with_reducible repeat (first | refine blk_drewN ?_ _ | refine blk_drew ?_ | refine blk_alloc ?_ _)); exact BK33002.out) hb); have n3_ := Aside0.mk (below_step (by repeat (first | (with_reducible first | exact HB.out | apply below_alloc | apply pw_below_drewN | apply below_drew1 | refine below_set ?_ GE33001.out | refine below_set ?_ GE33002.out) | exact HB.out)) hb); clear BK33001; clear BK33002; clear HB; have HO33005 := n0_; have BK33001 := n1_; have BK33002 := n2_; have HB := n3_; clear n0_ n1_ n2_ n3_; clear hb ho10; have hnb11 := NB33001_33002.out; have hnc11 := NB33002_33001.out; have hcz12_0 : w9.cell? ⟨gb33001, 0, none⟩ = some (.int .i64 a0_0) := (blk_cell BK33001.out 0).trans rfl; have hcz12_1 : w9.cell? ⟨gb33001, 1, none⟩ = some (.int .i64 a0_1) := (blk_cell BK33001.out 1).trans rfl; have hcz12_2 : w9.cell? ⟨gb33001, 2, none⟩ = some (.int .i64 a0_2) := (blk_cell BK33001.out 2).trans rfl; have hcz12_3 : w9.cell? ⟨gb33001, 3, none⟩ = some (.slice A0_3 l0_3.length c0_3) := (blk_cell BK33001.out 3).trans rfl; have hfz12_0 := blk_frozen BK33001.out 0; have hfz12_1 := blk_frozen BK33001.out 1; have hfz12_2 := blk_frozen BK33001.out 2; have hfz12_3 := blk_frozen BK33001.out 3; have hcz13_0 : w9.cell? ⟨gb33002, 0, none⟩ = some (.int .i64 a1_0) := (blk_cell BK33002.out 0).trans rfl; have hcz13_1 : w9.cell? ⟨gb33002, 1, none⟩ = some (.int .i64 a1_1) := (blk_cell BK33002.out 1).trans rfl; have hcz13_2 : w9.cell? ⟨gb33002, 2, none⟩ = some (.int .i64 a1_2) := (blk_cell BK33002.out 2).trans rfl; have hcz13_3 : w9.cell? ⟨gb33002, 3, none⟩ = some (.slice A1_3 l1_3.length c1_3) := (blk_cell BK33002.out 3).trans rfl; have hfz13_0 := blk_frozen BK33002.out 0; have hfz13_1 := blk_frozen BK33002.out 1; have hfz13_2 := blk_frozen BK33002.out 2; have hfz13_3 := blk_frozen BK33002.out 3) | ((with_reducible refine gate_callee (f := 45) rfl ?_); refine goesL_ (some 11) rfl rfl Try.func45 (by kernel_rfl) rfl #[.agg #[.int .i64 a0_0, .int .i64 a0_1, .int .i64 a0_2, .slice A0_3 l0_3.length c0_3], .agg #[.int .i64 a1_0, .int .i64 a1_1, .int .i64 a1_2, .slice A1_3 l1_3.length c1_3]] rfl (by (try simp only [List.map_toArray, List.map_cons, List.map_nil]); first | done | rfl | (simp only [List.length_drop, List.length_take]; rfl)) ?_; (with_reducible refine (spec_sameShape.calls k a0_0 a0_1 a0_2 _ _ l0_3 a1_0 a1_1 a1_2 _ _ l1_3 true _ ?side1 ?side2 ?side3 ?side4 A3.out).mono ?_); (case side1 => repeat (first | exact (Kd.C_below HR0_3.out HB.out) | (with_reducible refine Kd.C_alloc ?_ _) | (with_reducible refine Kd.C_drewN ?_ _) | (with_reducible refine Kd.C_drew ?_))); (case side2 => exact HC0_3.out); (case side3 => repeat (first | exact (Kd.C_below HR1_3.out HB.out) | (with_reducible refine Kd.C_alloc ?_ _) | (with_reducible refine Kd.C_drewN ?_ _) | (with_reducible refine Kd.C_drew ?_))); (case side4 => exact HC1_3.out); rintro e w14 ⟨rfl, hb⟩; refine ⟨_, rfl, ?_⟩; have n0_ := Aside0.mk (Kd.R_below (by (with_reducible repeat (first | apply Kd.R_alloc | apply Kd.R_drewN | apply Kd.R_drew)); exact HO33005.out) hb); have n1_ := Aside0.mk (blk_below (g := gb33001) (o := .cells #[.int .i64 a0_0, .int .i64 a0_1, .int .i64 a0_2, .slice A0_3 l0_3.length c0_3] 28 (0, 0)) (by (with_reducible repeat (first | refine blk_drewN ?_ _ | refine blk_drew ?_ | refine blk_alloc ?_ _)); exact BK33001.out) hb); have n2_ := Aside0.mk (blk_below (g := gb33002) (o := .cells #[.int .i64 a1_0, .int .i64 a1_1, .int .i64 a1_2, .slice A1_3 l1_3.length c1_3] 28 (0, 0)) (by (with_reducible repeat (first | refine blk_drewN ?_ _ | refine blk_drew ?_ | refine blk_alloc ?_ _)); exact BK33002.out) hb); have n3_ := Aside0.mk (below_step (by repeat (first | (with_reducible first | exact HB.out | apply below_alloc | apply pw_below_drewN | apply below_drew1 | refine below_set ?_ GE33001.out | refine below_set ?_ GE33002.out) | exact HB.out)) hb); clear HO33005; clear BK33001; clear BK33002; clear HB; have HO33005 := n0_; have BK33001 := n1_; have BK33002 := n2_; have HB := n3_; clear n0_ n1_ n2_ n3_; (try clear hb); (try clear hb2); (try clear hk); (try clear hi); have hcz15_0 : w14.cell? ⟨gb33001, 0, none⟩ = some (.int .i64 a0_0) := (blk_cell BK33001.out 0).trans rfl; have hcz15_1 : w14.cell? ⟨gb33001, 1, none⟩ = some (.int .i64 a0_1) := (blk_cell BK33001.out 1).trans rfl; have hcz15_2 : w14.cell? ⟨gb33001, 2, none⟩ = some (.int .i64 a0_2) := (blk_cell BK33001.out 2).trans rfl; have hcz15_3 : w14.cell? ⟨gb33001, 3, none⟩ = some (.slice A0_3 l0_3.length c0_3) := (blk_cell BK33001.out 3).trans rfl; have hfz15_0 := blk_frozen BK33001.out 0; have hfz15_1 := blk_frozen BK33001.out 1; have hfz15_2 := blk_frozen BK33001.out 2; have hfz15_3 := blk_frozen BK33001.out 3; have hcz16_0 : w14.cell? ⟨gb33002, 0, none⟩ = some (.int .i64 a1_0) := (blk_cell BK33002.out 0).trans rfl; have hcz16_1 : w14.cell? ⟨gb33002, 1, none⟩ = some (.int .i64 a1_1) := (blk_cell BK33002.out 1).trans rfl; have hcz16_2 : w14.cell? ⟨gb33002, 2, none⟩ = some (.int .i64 a1_2) := (blk_cell BK33002.out 2).trans rfl; have hcz16_3 : w14.cell? ⟨gb33002, 3, none⟩ = some (.slice A1_3 l1_3.length c1_3) := (blk_cell BK33002.out 3).trans rfl; have hfz16_0 := blk_frozen BK33002.out 0; have hfz16_1 := blk_frozen BK33002.out 1; have hfz16_2 := blk_frozen BK33002.out 2; have hfz16_3 := blk_frozen BK33002.out 3) | ((with_reducible refine gate_callee (f := 46) rfl ?_); refine goesL_ (some 15) rfl rfl Try.func46 (by kernel_rfl) rfl #[.agg #[.int .i64 a0_0, .int .i64 a0_1, .int .i64 a0_2, .slice A0_3 l0_3.length c0_3], .agg #[.int .i64 a1_0, .int .i64 a1_1, .int .i64 a1_2, .slice A1_3 l1_3.length c1_3]] rfl (by (try simp only [List.map_toArray, List.map_cons, List.map_nil]); first | done | rfl | (simp only [List.length_drop, List.length_take]; rfl)) ?_; (with_reducible refine (spec_changed.calls k a0_0 a0_1 a0_2 _ _ l0_3 a1_0 a1_1 a1_2 _ _ l1_3 t33007 _ ?side1 ?side2 ?side3 ?side4 A5.out).mono ?_); (case side1 => repeat (first | exact (Kd.C_below HR0_3.out HB.out) | (with_reducible refine Kd.C_alloc ?_ _) | (with_reducible refine Kd.C_drewN ?_ _) | (with_reducible refine Kd.C_drew ?_))); (case side2 => exact HC0_3.out); (case side3 => repeat (first | exact (Kd.C_below HR1_3.out HB.out) | (with_reducible refine Kd.C_alloc ?_ _) | (with_reducible refine Kd.C_drewN ?_ _) | (with_reducible refine Kd.C_drew ?_))); (case side4 => exact HC1_3.out); rintro e w17 ⟨v33008, rfl, ho0, hb⟩; refine ⟨_, rfl, ?_⟩; have n0_ := Aside0.mk (Kd.R_below (by (with_reducible repeat (first | apply Kd.R_alloc | apply Kd.R_drewN | apply Kd.R_drew)); exact HO33005.out) hb); have n1_ := Aside0.mk (Kd.R_lower ho0 (below_size (by repeat (first | (with_reducible first | exact HB.out | apply below_alloc | apply pw_below_drewN | apply below_drew1 | refine below_set ?_ GE33001.out | refine below_set ?_ GE33002.out) | exact HB.out)))); have n2_ := Aside0.mk (blk_below (g := gb33001) (o := .cells #[.int .i64 a0_0, .int .i64 a0_1, .int .i64 a0_2, .slice A0_3 l0_3.length c0_3] 28 (0, 0)) (by (with_reducible repeat (first | refine blk_drewN ?_ _ | refine blk_drew ?_ | refine blk_alloc ?_ _)); exact BK33001.out) hb); have n3_ := Aside0.mk (blk_below (g := gb33002) (o := .cells #[.int .i64 a1_0, .int .i64 a1_1, .int .i64 a1_2, .slice A1_3 l1_3.length c1_3] 28 (0, 0)) (by (with_reducible repeat (first | refine blk_drewN ?_ _ | refine blk_drew ?_ | refine blk_alloc ?_ _)); exact BK33002.out) hb); have n4_ := Aside0.mk (below_step (by repeat (first | (with_reducible first | exact HB.out | apply below_alloc | apply pw_below_drewN | apply below_drew1 | refine below_set ?_ GE33001.out | refine below_set ?_ GE33002.out) | exact HB.out)) hb); clear HO33005; clear BK33001; clear BK33002; clear HB; have HO33005 := n0_; have HO33009 := n1_; have BK33001 := n2_; have BK33002 := n3_; have HB := n4_; clear n0_ n1_ n2_ n3_ n4_; (try clear hb); (try clear hb2); (try clear hk); (try clear hi); (try clear ho0); obtain ⟨Ao18, co18, eo18⟩ := Kd.R_slice HO33009.out; subst eo18) | ((with_reducible refine gate_callee (f := 76) rfl ?_); refine goesL_ (some 16) rfl rfl Try.func76 (by kernel_rfl) rfl #[.slice Ao18 t33007.length co18] rfl (by (try simp only [List.map_toArray, List.map_cons, List.map_nil]); first | done | rfl | (simp only [List.length_drop, List.length_take]; rfl)) ?_; (with_reducible refine (spec_parts.calls k _ _ t33007 t33010 _ ?side1 ?side2 A6.out).mono ?_); (case side1 => repeat (first | exact (Kd.R_reads' HO33009.out).2.2 | (with_reducible refine Kd.C_alloc ?_ _) | (with_reducible refine Kd.C_drewN ?_ _) | (with_reducible refine Kd.C_drew ?_))); (case side2 => exact (Kd.R_reads' HO33009.out).2.1); rintro e w19 ⟨v33011, rfl, ho0, hb⟩; refine ⟨_, rfl, ?_⟩; have n0_ := Aside0.mk (Kd.R_below (by (with_reducible repeat (first | apply Kd.R_alloc | apply Kd.R_drewN | apply Kd.R_drew)); exact HO33005.out) hb); have n1_ := Aside0.mk (Kd.R_below (by (with_reducible repeat (first | apply Kd.R_alloc | apply Kd.R_drewN | apply Kd.R_drew)); exact HO33009.out) hb); have n2_ := Aside0.mk (Kd.S_lower (Kd.S_new' ho0 (Kd.R_lt (by (with_reducible repeat (first | apply Kd.R_alloc | apply Kd.R_drewN | apply Kd.R_drew)); exact HO33009.out))) (below_size (by repeat (first | (with_reducible first | exact HB.out | apply below_alloc | apply pw_below_drewN | apply below_drew1 | refine below_set ?_ GE33001.out | refine below_set ?_ GE33002.out) | exact HB.out)))); have n3_ := Aside0.mk (blk_below (g := gb33001) (o := .cells #[.int .i64 a0_0, .int .i64 a0_1, .int .i64 a0_2, .slice A0_3 l0_3.length c0_3] 28 (0, 0)) (by (with_reducible repeat (first | refine blk_drewN ?_ _ | refine blk_drew ?_ | refine blk_alloc ?_ _)); exact BK33001.out) hb); have n4_ := Aside0.mk (blk_below (g := gb33002) (o := .cells #[.int .i64 a1_0, .int .i64 a1_1, .int .i64 a1_2, .slice A1_3 l1_3.length c1_3] 28 (0, 0)) (by (with_reducible repeat (first | refine blk_drewN ?_ _ | refine blk_drew ?_ | refine blk_alloc ?_ _)); exact BK33002.out) hb); have n5_ := Aside0.mk (below_step (by repeat (first | (with_reducible first | exact HB.out | apply below_alloc | apply pw_below_drewN | apply below_drew1 | refine below_set ?_ GE33001.out | refine below_set ?_ GE33002.out) | exact HB.out)) hb); clear HO33005; clear HO33009; clear BK33001; clear BK33002; clear HB; have HO33005 := n0_; have HO33009 := n1_; have HO33012 := n2_; have BK33001 := n3_; have BK33002 := n4_; have HB := n5_; clear n0_ n1_ n2_ n3_ n4_ n5_; (try clear hb); (try clear hb2); (try clear hk); (try clear hi); (try clear ho0)))
    go_loopg [5, 7] k (fun kq v5 v7 w' => ∃ (x5_1 : List (S60)) (x7_1 : Int), v7 = .int .i64 x7_1 ∧ Aside0 (spec_ChangedBoxes.l0 kq x5_1 t33010 x7_1 = some r) ∧ Aside0 (kq ≤ k) ∧ Aside0 (Kd.R k60 60 w' w.heap.size (fun _ => True) v5 x5_1) ∧ Aside0 (Kd.S (Kd.slice 47 k47) 26 w' w.heap.size (fun _ => True) v33011 t33010) ∧ Aside0 (w'.heap[gb33001]? = some (.cells #[.int .i64 a0_0, .int .i64 a0_1, .int .i64 a0_2, (.slice A0_3 l0_3.length c0_3)] 28 (0, 0))) ∧ Aside0 (w'.heap[gb33002]? = some (.cells #[.int .i64 a1_0, .int .i64 a1_1, .int .i64 a1_2, (.slice A1_3 l1_3.length c1_3)] 28 (0, 0))) ∧ Aside0 (Below w.heap.size w w'))
    case atStart => exact ⟨(y33003), (0), (by first | rfl | (simp; done) | (simp [*]; done)), H', ⟨Nat.le_refl _⟩, ⟨by (with_reducible repeat (first | apply Kd.R_alloc | apply Kd.R_drewN | apply Kd.R_drew)); exact HO33005.out⟩, ⟨by (with_reducible repeat (first | apply Kd.S_alloc | apply Kd.S_drewN | apply Kd.S_drew)); exact Kd.S_mono HO33012.out (fun _ hk => trivial)⟩, ⟨by (with_reducible repeat (first | refine blk_drewN ?_ _ | refine blk_drew ?_ | refine blk_alloc ?_ _)); exact BK33001.out⟩, ⟨by (with_reducible repeat (first | refine blk_drewN ?_ _ | refine blk_drew ?_ | refine blk_alloc ?_ _)); exact BK33002.out⟩, ⟨by repeat (first | (with_reducible first | exact HB.out | apply below_alloc | apply pw_below_drewN | apply below_drew1 | refine below_set ?_ GE33001.out | refine below_set ?_ GE33002.out) | exact HB.out)⟩⟩
    case round =>
      clear H'
      try clear c1
      try clear p2
      try clear c3
      try clear c4
      try clear c7
      try clear c11
      try clear hcz12_0
      try clear hcz12_1
      try clear hcz12_2
      try clear hcz12_3
      try clear hcz13_0
      try clear hcz13_1
      try clear hcz13_2
      try clear hcz13_3
      try clear hcz15_0
      try clear hcz15_1
      try clear hcz15_2
      try clear hcz15_3
      try clear hcz16_0
      try clear hcz16_1
      try clear hcz16_2
      try clear hcz16_3
      try clear hfz12_0
      try clear hfz12_1
      try clear hfz12_2
      try clear hfz12_3
      try clear hfz13_0
      try clear hfz13_1
      try clear hfz13_2
      try clear hfz13_3
      try clear hfz15_0
      try clear hfz15_1
      try clear hfz15_2
      try clear hfz15_3
      try clear hfz16_0
      try clear hfz16_1
      try clear hfz16_2
      try clear hfz16_3
      obtain ⟨x5_1, x7_1, rfl, HA, HK1, HO_5, HO_6, BK33001, BK33002, HB⟩ := hrel
      cases gk with
      | zero => exact absurd HA.out (by simp [spec_ChangedBoxes.l0])
      | succ k1 =>
        have H := HA.out
        clear HA
        simp only [spec_ChangedBoxes.l0] at H
        by_cases c20 : x7_1 < (t33010.length : Int)
        · rw [if_pos c20] at H
          have c20b0 : decide (x7_1 < (t33010.length : Int)) = true := decide_eq_true c20
          clear c20
          by_cases c21 : 0 ≤ x7_1
          · rw [if_pos c21] at H
            have c21b0 : decide (0 ≤ x7_1) = true := decide_eq_true c21
            clear c21
            replace H := Option.bind_eq_some_iff.mp H
            obtain ⟨⟨t33014, t33015, t33016, t33017⟩, A220, H⟩ := H
            replace H : (if x5_1.length < 4398046511104 then (spec_ChangedBoxes.l0 k1 (x5_1 ++ [(⟨t33014, t33015, t33016, t33017⟩ : S60)]) t33010 (wrap64 (x7_1 + 1))) else (none)) = some r := H
            have A22 := Aside0.mk A220
            clear A220
            by_cases c23 : x5_1.length < 4398046511104
            · rw [if_pos c23] at H
              have LMc23 := Aside0.mk c23
              clear c23
              obtain ⟨y33018, hy33018⟩ : ∃ y_ : List (S60), y_ = (x5_1 ++ [(⟨t33014, t33015, t33016, t33017⟩ : S60)]) := ⟨_, rfl⟩
              replace H : (spec_ChangedBoxes.l0 k1 y33018 t33010 (wrap64 (x7_1 + 1))) = some r := by first | (rw [hy33018]; with_reducible exact H) | (have H2_ := (Option.bind_some _ _).symm.trans H; rw [hy33018]; with_reducible exact H2_) | (have H2_ := (Option.bind_some _ _).symm.trans H; with_reducible exact H2_) | with_reducible exact H | (rw [hy33018]; exact H) | exact H
              have Ny33018 := Aside0.mk hy33018
              clear hy33018
              have H' := Aside0.mk H
              clear H
              obtain ⟨Ao24, co24, eo24⟩ := Kd.S_slice HO_6.out
              subst eo24
              have p33013 : 0 ≤ (x7_1 : Int) := of_decide_eq_true (by first | (with_reducible assumption) | assumption)
              have q33013 : x7_1 < (t33010.length : Int) := of_decide_eq_true (by first | (with_reducible assumption) | assumption)
              obtain ⟨ad33013, A33013_0, c33013_0, e33013, hx33013_0, hl33013_0, hi33013_0⟩ := at_L13 (Kd.S_reads' HO_6.out).2.2 x7_1 p33013 q33013
              cases e33013
              obtain ⟨ce33013, hce33013, hMe33013, hcc33013⟩ := Kd.S_get HO_6.out [] x7_1 p33013 (by first | exact q33013 | exact of_decide_eq_true (by first | (with_reducible assumption) | assumption) | (have e_ := (Kd.S_reads' HO_6.out).1; omega))
              obtain ⟨ve33013_0, rfl, ge33013_0⟩ := hMe33013
              have hv33013_0 := hcc33013 0 _ rfl
              rw [Nat.add_zero, show ((Kd.slice 47 k47)).sz = 1 from rfl, Nat.mul_one] at hv33013_0
              replace hv33013_0 := Option.some.inj (hv33013_0.symm.trans hx33013_0)
              rw [hv33013_0] at ge33013_0
              have HL33013_0 := Aside0.mk (show Kd.R k47 47 _ _ _ _ (rd_L13 t33010 x7_1) from ge33013_0)
              clear hv33013_0 ge33013_0
              clear hcc33013 hce33013
              have HR33013_0 := Aside0.mk hi33013_0
              have HC33013_0 := Aside0.mk hl33013_0
              clear hi33013_0 hl33013_0
              replace p33013 := eq_true p33013
              replace q33013 := eq_true q33013
              go_wp2_with (first | ((with_reducible refine gate_callee (f := 77) rfl ?_); refine goesL_ (some 28) rfl rfl Try.func77 (by kernel_rfl) rfl #[.slice A33013_0 (rd_L13 t33010 x7_1).length c33013_0] rfl (by (try simp only [List.map_toArray, List.map_cons, List.map_nil]); first | done | rfl | (simp only [List.length_drop, List.length_take]; rfl)) ?_; (with_reducible refine (spec_boundsOf.calls k1 _ _ (rd_L13 t33010 x7_1) t33014 t33015 t33016 t33017 _ ?side1 ?side2 A22.out).mono ?_); (case side1 => repeat (first | exact (by repeat (first | (with_reducible exact HR33013_0.out) | (with_reducible refine Kd.C_alloc ?_ _) | (with_reducible refine Kd.C_drewN ?_ _) | (with_reducible refine Kd.C_drew ?_) | exact HR33013_0.out)) | (with_reducible refine Kd.C_alloc ?_ _) | (with_reducible refine Kd.C_drewN ?_ _) | (with_reducible refine Kd.C_drew ?_))); (case side2 => exact HC33013_0.out); rintro e w25 ⟨rfl, hb⟩; refine ⟨_, rfl, ?_⟩; have n0_ := Aside0.mk (Kd.R_below (by (with_reducible repeat (first | apply Kd.R_alloc | apply Kd.R_drewN | apply Kd.R_drew)); exact HO_5.out) hb); have n1_ := Aside0.mk (Kd.S_below (by (with_reducible repeat (first | apply Kd.S_alloc | apply Kd.S_drewN | apply Kd.S_drew)); exact HO_6.out) hb); have n2_ := Aside0.mk (Kd.R_below (by (with_reducible repeat (first | apply Kd.R_alloc | apply Kd.R_drewN | apply Kd.R_drew)); exact HL33013_0.out) hb); have n3_ := Aside0.mk (blk_below (g := gb33001) (o := .cells #[.int .i64 a0_0, .int .i64 a0_1, .int .i64 a0_2, .slice A0_3 l0_3.length c0_3] 28 (0, 0)) (by (with_reducible repeat (first | refine blk_drewN ?_ _ | refine blk_drew ?_ | refine blk_alloc ?_ _)); exact BK33001.out) hb); have n4_ := Aside0.mk (blk_below (g := gb33002) (o := .cells #[.int .i64 a1_0, .int .i64 a1_1, .int .i64 a1_2, .slice A1_3 l1_3.length c1_3] 28 (0, 0)) (by (with_reducible repeat (first | refine blk_drewN ?_ _ | refine blk_drew ?_ | refine blk_alloc ?_ _)); exact BK33002.out) hb); have n5_ := Aside0.mk (Kd.C_below (by repeat (first | (with_reducible exact HR33013_0.out) | (with_reducible refine Kd.C_alloc ?_ _) | (with_reducible refine Kd.C_drewN ?_ _) | (with_reducible refine Kd.C_drew ?_) | exact HR33013_0.out)) hb); have n6_ := Aside0.mk (below_step (by repeat (first | (with_reducible first | exact HB.out | apply below_alloc | apply pw_below_drewN | apply below_drew1 | refine below_set ?_ GE33001.out | refine below_set ?_ GE33002.out) | exact HB.out)) hb); clear HO_5; clear HO_6; clear HL33013_0; clear BK33001; clear BK33002; clear HR33013_0; clear HB; have HO_5 := n0_; have HO_6 := n1_; have HL33013_0 := n2_; have BK33001 := n3_; have BK33002 := n4_; have HR33013_0 := n5_; have HB := n6_; clear n0_ n1_ n2_ n3_ n4_ n5_ n6_; (try clear hb); (try clear hb2); (try clear hk); (try clear hi)) | ((with_reducible refine gate_builtin (b := .append) (xs := #[.tmp 23, .tmp 29]) rfl ?_); at_builtin; refine Kd.R_append k60 (w0 := w) w.heap.size rfl (.tmp 23) (.tmp 29) 53 60 (.agg #[(.int .i64 0), (.int .i64 0), (.int .i64 0), (.int .i64 0)]) 32 rfl Try.underlying53 info60 rfl (by decide) (by omega) u5 x5_1 (⟨t33014, t33015, t33016, t33017⟩ : S60) [.int .i64 t33014, .int .i64 t33015, .int .i64 t33016, .int .i64 t33017] (fun _ => True) (fun _ => False) rfl rfl ?aP (fun _ hk => hk.elim) ?aF ?aO ?aB ?aS ?aL ?_; (case aP => exact k60_mkM _ _ _ (⟨t33014, t33015, t33016, t33017⟩ : S60)); (case aB => exact (by repeat (first | (with_reducible first | exact HB.out | apply below_alloc | apply pw_below_drewN | apply below_drew1 | refine below_set ?_ GE33001.out | refine below_set ?_ GE33002.out) | exact HB.out))); (case aF => exact (fun _ _ => trivial)); (case aO => exact (by (with_reducible repeat (first | apply Kd.R_alloc | apply Kd.R_drewN | apply Kd.R_drew)); exact HO_5.out)); (case aS => exact (below_size (by repeat (first | (with_reducible first | exact HB.out | apply below_alloc | apply pw_below_drewN | apply below_drew1 | refine below_set ?_ GE33001.out | refine below_set ?_ GE33002.out) | exact HB.out)))); (case aL => have := LMc23.out; omega); intro v33019 w26 ho hb hg hat; rw [← Ny33018.out] at ho; have n0_ := Aside0.mk (Kd.S_over' (by (with_reducible repeat (first | apply Kd.S_alloc | apply Kd.S_drewN | apply Kd.S_drew)); exact HO_6.out) (Kd.R_typed (by (with_reducible repeat (first | apply Kd.R_alloc | apply Kd.R_drewN | apply Kd.R_drew)); exact HO_5.out)) (by decide) hg); have n1_ := Aside0.mk (blk_grown (g := gb33001) (o := .cells #[.int .i64 a0_0, .int .i64 a0_1, .int .i64 a0_2, .slice A0_3 l0_3.length c0_3] 28 (0, 0)) (by (with_reducible repeat (first | refine blk_drewN ?_ _ | refine blk_drew ?_ | refine blk_alloc ?_ _)); exact BK33001.out) hg (Kd.R_ne HO_5.out BK33001.out (by decide))); have n2_ := Aside0.mk (blk_grown (g := gb33002) (o := .cells #[.int .i64 a1_0, .int .i64 a1_1, .int .i64 a1_2, .slice A1_3 l1_3.length c1_3] 28 (0, 0)) (by (with_reducible repeat (first | refine blk_drewN ?_ _ | refine blk_drew ?_ | refine blk_alloc ?_ _)); exact BK33002.out) hg (Kd.R_ne HO_5.out BK33002.out (by decide))); have n3_ := Aside0.mk (Kd.R_over' (by (with_reducible repeat (first | apply Kd.R_alloc | apply Kd.R_drewN | apply Kd.R_drew)); exact HL33013_0.out) (Kd.R_typed (by (with_reducible repeat (first | apply Kd.R_alloc | apply Kd.R_drewN | apply Kd.R_drew)); exact HO_5.out)) (by decide) hg); have n4_ := Aside0.mk (hb); have n5_ := Aside0.mk (ho); clear HO_6; clear BK33001; clear BK33002; clear HL33013_0; clear HB; clear HO_5; have HO_6 := n0_; have BK33001 := n1_; have BK33002 := n2_; have HL33013_0 := n3_; have HB := n4_; have HO33020 := n5_; clear n0_ n1_ n2_ n3_ n4_ n5_; clear ho hb hg hat))
              go_roundg k1
              case measure => have := HK1.out; omega
              case rel => exact ⟨(y33018), (wrap64 (x7_1 + 1)), (by first | rfl | (simp; done) | (simp [*]; done)), H', ⟨by have := HK1.out; omega⟩, ⟨by (with_reducible repeat (first | apply Kd.R_alloc | apply Kd.R_drewN | apply Kd.R_drew)); exact HO33020.out⟩, ⟨by (with_reducible repeat (first | apply Kd.S_alloc | apply Kd.S_drewN | apply Kd.S_drew)); exact HO_6.out⟩, ⟨by (with_reducible repeat (first | refine blk_drewN ?_ _ | refine blk_drew ?_ | refine blk_alloc ?_ _)); exact BK33001.out⟩, ⟨by (with_reducible repeat (first | refine blk_drewN ?_ _ | refine blk_drew ?_ | refine blk_alloc ?_ _)); exact BK33002.out⟩, ⟨by repeat (first | (with_reducible first | exact HB.out | apply below_alloc | apply pw_below_drewN | apply below_drew1 | refine below_set ?_ GE33001.out | refine below_set ?_ GE33002.out) | exact HB.out)⟩⟩
            · rw [if_neg c23] at H
              exact absurd H (by simp)
          · rw [if_neg c21] at H
            exact absurd H (by simp)
        · rw [if_neg c20] at H
          have c20b0 : decide (x7_1 < (t33010.length : Int)) = false := decide_eq_false c20
          clear c20
          obtain rfl := Option.some.inj H
          obtain ⟨Ao27, co27, eo27⟩ := Kd.S_slice HO_6.out
          subst eo27
          go_wp2
          go_ret
          exact ⟨_, by first | rfl | (simp [errW_none, errW_some] <;> rfl) | (simp [*, errW_none, errW_some] <;> rfl), by (with_reducible repeat (first | apply Kd.R_alloc | apply Kd.R_drewN | apply Kd.R_drew)); exact HO_5.out, by repeat (first | (with_reducible first | exact HB.out | apply below_alloc | apply pw_below_drewN | apply below_drew1 | refine below_set ?_ GE33001.out | refine below_set ?_ GE33002.out) | exact HB.out)⟩
  · replace c4 := Bool.eq_false_iff.mpr c4
    subst c4
    have H1 : (some ([] : List (S60))) = some r := by rw [if_neg (show ¬ (false = true) by decide)] at H; exact H
    clear H
    have H := H1
    clear H1
    obtain rfl := Option.some.inj H
    go_enter Try.func32, Try.ntmps32
    go_wp2_with (first | ((with_reducible refine gate_dst (N := 2) rfl ?_); refine box_event ?hg (N := 2) ?hd (cs := #[.int .i64 a0_0, .int .i64 a0_1, .int .i64 a0_2, .slice A0_3 l0_3.length c0_3]) (t := 28) ?hr ?_; (case hd => rfl); (case hg => rfl); (case hr => first | (go_simp; done) | (go_simp; rfl)); intro gb33001 hg w28 hbox hb; have n0_ := Aside0.mk (below_step (by repeat (first | (with_reducible first | exact HB.out | apply below_alloc | apply pw_below_drewN | apply below_drew1) | exact HB.out)) hb); have n1_ := Aside0.mk (hbox); have n2_ := Aside0.mk ((by rw [hg]; exact (below_size (by repeat (first | (with_reducible first | exact HB.out | apply below_alloc | apply pw_below_drewN | apply below_drew1) | exact HB.out))) : w.heap.size ≤ gb33001)); have n3_ := Aside0.mk ((by rw [hg]; exact (below_size (by repeat (first | (with_reducible first | exact HB.out | apply below_alloc | apply pw_below_drewN | apply below_drew1) | exact HB.out))) : w.heap.size ≤ gb33001)); clear HB; have HB := n0_; have BK33001 := n1_; have GW33001 := n2_; have GE33001 := n3_; clear n0_ n1_ n2_ n3_; clear hb hbox hg) | ((with_reducible refine gate_dst (N := 3) rfl ?_); refine box_event ?hg (N := 3) ?hd (cs := #[.int .i64 a1_0, .int .i64 a1_1, .int .i64 a1_2, .slice A1_3 l1_3.length c1_3]) (t := 28) ?hr ?_; (case hd => rfl); (case hg => rfl); (case hr => first | (go_simp; done) | (go_simp; rfl)); intro gb33002 hg w29 hbox hb; have n0_ := Aside0.mk (blk_below (g := gb33001) (o := .cells #[.int .i64 a0_0, .int .i64 a0_1, .int .i64 a0_2, .slice A0_3 l0_3.length c0_3] 28 (0, 0)) (by (with_reducible repeat (first | refine blk_drewN ?_ _ | refine blk_drew ?_ | refine blk_alloc ?_ _)); exact BK33001.out) hb); have n1_ := Aside0.mk (below_step (by repeat (first | (with_reducible first | exact HB.out | apply below_alloc | apply pw_below_drewN | apply below_drew1 | refine below_set ?_ GE33001.out) | exact HB.out)) hb); have n2_ := Aside0.mk (hbox); have n3_ := Aside0.mk ((by rw [hg]; exact (below_size (by repeat (first | (with_reducible first | exact HB.out | apply below_alloc | apply pw_below_drewN | apply below_drew1 | refine below_set ?_ GE33001.out) | exact HB.out))) : w.heap.size ≤ gb33002)); have n4_ := Aside0.mk ((by rw [hg]; exact (below_size (by repeat (first | (with_reducible first | exact HB.out | apply below_alloc | apply pw_below_drewN | apply below_drew1 | refine below_set ?_ GE33001.out) | exact HB.out))) : w.heap.size ≤ gb33002)); have n5_ := Aside0.mk ((by rw [hg]; exact Nat.ne_of_lt (blk_lt (g := gb33001) (o := .cells #[.int .i64 a0_0, .int .i64 a0_1, .int .i64 a0_2, .slice A0_3 l0_3.length c0_3] 28 (0, 0)) (by (with_reducible repeat (first | refine blk_drewN ?_ _ | refine blk_drew ?_ | refine blk_alloc ?_ _)); exact BK33001.out)) : gb33001 ≠ gb33002)); have n6_ := Aside0.mk ((by rw [hg]; exact Nat.ne_of_gt (blk_lt (g := gb33001) (o := .cells #[.int .i64 a0_0, .int .i64 a0_1, .int .i64 a0_2, .slice A0_3 l0_3.length c0_3] 28 (0, 0)) (by (with_reducible repeat (first | refine blk_drewN ?_ _ | refine blk_drew ?_ | refine blk_alloc ?_ _)); exact BK33001.out)) : gb33002 ≠ gb33001)); clear BK33001; clear HB; have BK33001 := n0_; have HB := n1_; have BK33002 := n2_; have GW33002 := n3_; have GE33002 := n4_; have NB33001_33002 := n5_; have NB33002_33001 := n6_; clear n0_ n1_ n2_ n3_ n4_ n5_ n6_; clear hb hbox hg) | ((with_reducible refine gate_dst (N := 8) rfl ?_); refine Kd.R_lit k60 _ 60 ?hg (N := 8) ?hd (xs := ([] : List (S60))) (inner := []) (ok := fun _ => True) (okp := fun _ => True) ?hr ?hp (fun _ hk => hk) trivial (Below.refl _ _) (Nat.le_refl _) (by simp) ?_; (case hd => rfl); (case hg => rfl); (case hr => first | (go_simp; done) | (go_simp; rfl)); (case hp => exact (Reps.none _ _)); intro v33004 w30 ho31 hb hg_ hnew_; clear hg_ hnew_; (first | rw [← Ny33003.out] at ho31 | (simp only [Int.reduceToNat] at ho31; rw [← Ny33003.out] at ho31)); have n0_ := Aside0.mk (Kd.R_lower ho31 (below_size (by repeat (first | (with_reducible first | exact HB.out | apply below_alloc | apply pw_below_drewN | apply below_drew1 | refine below_set ?_ GE33001.out | refine below_set ?_ GE33002.out) | exact HB.out)))); have n1_ := Aside0.mk (blk_below (g := gb33001) (o := .cells #[.int .i64 a0_0, .int .i64 a0_1, .int .i64 a0_2, .slice A0_3 l0_3.length c0_3] 28 (0, 0)) (by (with_reducible repeat (first | refine blk_drewN ?_ _ | refine blk_drew ?_ | refine blk_alloc ?_ _)); exact BK33001.out) hb); have n2_ := Aside0.mk (blk_below (g := gb33002) (o := .cells #[.int .i64 a1_0, .int .i64 a1_1, .int .i64 a1_2, .slice A1_3 l1_3.length c1_3] 28 (0, 0)) (by (with_reducible repeat (first | refine blk_drewN ?_ _ | refine blk_drew ?_ | refine blk_alloc ?_ _)); exact BK33002.out) hb); have n3_ := Aside0.mk (below_step (by repeat (first | (with_reducible first | exact HB.out | apply below_alloc | apply pw_below_drewN | apply below_drew1 | refine below_set ?_ GE33001.out | refine below_set ?_ GE33002.out) | exact HB.out)) hb); clear BK33001; clear BK33002; clear HB; have HO33005 := n0_; have BK33001 := n1_; have BK33002 := n2_; have HB := n3_; clear n0_ n1_ n2_ n3_; clear hb ho31; have hnb32 := NB33001_33002.out; have hnc32 := NB33002_33001.out; have hcz33_0 : w30.cell? ⟨gb33001, 0, none⟩ = some (.int .i64 a0_0) := (blk_cell BK33001.out 0).trans rfl; have hcz33_1 : w30.cell? ⟨gb33001, 1, none⟩ = some (.int .i64 a0_1) := (blk_cell BK33001.out 1).trans rfl; have hcz33_2 : w30.cell? ⟨gb33001, 2, none⟩ = some (.int .i64 a0_2) := (blk_cell BK33001.out 2).trans rfl; have hcz33_3 : w30.cell? ⟨gb33001, 3, none⟩ = some (.slice A0_3 l0_3.length c0_3) := (blk_cell BK33001.out 3).trans rfl; have hfz33_0 := blk_frozen BK33001.out 0; have hfz33_1 := blk_frozen BK33001.out 1; have hfz33_2 := blk_frozen BK33001.out 2; have hfz33_3 := blk_frozen BK33001.out 3; have hcz34_0 : w30.cell? ⟨gb33002, 0, none⟩ = some (.int .i64 a1_0) := (blk_cell BK33002.out 0).trans rfl; have hcz34_1 : w30.cell? ⟨gb33002, 1, none⟩ = some (.int .i64 a1_1) := (blk_cell BK33002.out 1).trans rfl; have hcz34_2 : w30.cell? ⟨gb33002, 2, none⟩ = some (.int .i64 a1_2) := (blk_cell BK33002.out 2).trans rfl; have hcz34_3 : w30.cell? ⟨gb33002, 3, none⟩ = some (.slice A1_3 l1_3.length c1_3) := (blk_cell BK33002.out 3).trans rfl; have hfz34_0 := blk_frozen BK33002.out 0; have hfz34_1 := blk_frozen BK33002.out 1; have hfz34_2 := blk_frozen BK33002.out 2; have hfz34_3 := blk_frozen BK33002.out 3) | ((with_reducible refine gate_callee (f := 45) rfl ?_); refine goesL_ (some 11) rfl rfl Try.func45 (by kernel_rfl) rfl #[.agg #[.int .i64 a0_0, .int .i64 a0_1, .int .i64 a0_2, .slice A0_3 l0_3.length c0_3], .agg #[.int .i64 a1_0, .int .i64 a1_1, .int .i64 a1_2, .slice A1_3 l1_3.length c1_3]] rfl (by (try simp only [List.map_toArray, List.map_cons, List.map_nil]); first | done | rfl | (simp only [List.length_drop, List.length_take]; rfl)) ?_; (with_reducible refine (spec_sameShape.calls k a0_0 a0_1 a0_2 _ _ l0_3 a1_0 a1_1 a1_2 _ _ l1_3 false _ ?side1 ?side2 ?side3 ?side4 A3.out).mono ?_); (case side1 => repeat (first | exact (Kd.C_below HR0_3.out HB.out) | (with_reducible refine Kd.C_alloc ?_ _) | (with_reducible refine Kd.C_drewN ?_ _) | (with_reducible refine Kd.C_drew ?_))); (case side2 => exact HC0_3.out); (case side3 => repeat (first | exact (Kd.C_below HR1_3.out HB.out) | (with_reducible refine Kd.C_alloc ?_ _) | (with_reducible refine Kd.C_drewN ?_ _) | (with_reducible refine Kd.C_drew ?_))); (case side4 => exact HC1_3.out); rintro e w35 ⟨rfl, hb⟩; refine ⟨_, rfl, ?_⟩; have n0_ := Aside0.mk (Kd.R_below (by (with_reducible repeat (first | apply Kd.R_alloc | apply Kd.R_drewN | apply Kd.R_drew)); exact HO33005.out) hb); have n1_ := Aside0.mk (blk_below (g := gb33001) (o := .cells #[.int .i64 a0_0, .int .i64 a0_1, .int .i64 a0_2, .slice A0_3 l0_3.length c0_3] 28 (0, 0)) (by (with_reducible repeat (first | refine blk_drewN ?_ _ | refine blk_drew ?_ | refine blk_alloc ?_ _)); exact BK33001.out) hb); have n2_ := Aside0.mk (blk_below (g := gb33002) (o := .cells #[.int .i64 a1_0, .int .i64 a1_1, .int .i64 a1_2, .slice A1_3 l1_3.length c1_3] 28 (0, 0)) (by (with_reducible repeat (first | refine blk_drewN ?_ _ | refine blk_drew ?_ | refine blk_alloc ?_ _)); exact BK33002.out) hb); have n3_ := Aside0.mk (below_step (by repeat (first | (with_reducible first | exact HB.out | apply below_alloc | apply pw_below_drewN | apply below_drew1 | refine below_set ?_ GE33001.out | refine below_set ?_ GE33002.out) | exact HB.out)) hb); clear HO33005; clear BK33001; clear BK33002; clear HB; have HO33005 := n0_; have BK33001 := n1_; have BK33002 := n2_; have HB := n3_; clear n0_ n1_ n2_ n3_; (try clear hb); (try clear hb2); (try clear hk); (try clear hi)))
    go_ret
    exact ⟨_, by first | rfl | (simp [errW_none, errW_some] <;> rfl) | (simp [*, errW_none, errW_some] <;> rfl), by first | exact Kd.R_nil _ _ _ _ _ | exact Kd.N_nil _ _ _ _ _ | exact Kd.V_nil _ _ _ _ _ | exact Kd.Q_nil _ _ _ _ _ | exact Kd.S_nil _ _ _ _ _, by repeat (first | (with_reducible first | exact HB.out | apply below_alloc | apply pw_below_drewN | apply below_drew1 | refine below_set ?_ GE33001.out | refine below_set ?_ GE33002.out) | exact HB.out)⟩

end Go.Proofs.Ytbgohbinonkhfaa.Q

/- (impl.Image).at: the numbers of a pixel, in the memory of the image. -/
namespace Go.Proofs.Ytbgohbinonkhfaa.Q
open Go.RowKit Go.Proofs.YtbgohbinonkhfaaW.PrintWords Go.Proofs.YtbgohbinonkhfaaW.PrintLast Go.Proofs.YtbgohbinonkhfaaW.PrintMore
attribute [local go_sem] max2_int min2_int max_two min_two max_three min_three max_four min_four
set_option linter.unusedVariables false
set_option linter.unusedSimpArgs false
open Go.Proofs.Ytbgohbinonkhfaa.Pure

/-- the numbers from j on, p of them -/
def pixT (d : List Int) (j p : Int) : List Int := (d.take (wrap64 (j + p) : Int).toNat).drop (j : Int).toNat
set_option maxHeartbeats 1600000 in
set_option maxRecDepth 100000 in
theorem at_calls (a b p : Int) (A : Option Addr) (c : Nat) (d : List Int) (x y j : Int) (hc : d.length ≤ c) (hj : wrap64 ((wrap64 ((wrap64 (y * a)) + x)) * p) = j) (h0 : 0 ≤ j) (h1 : j ≤ wrap64 (j + p)) (h2 : wrap64 (j + p) ≤ (d.length : Int)) :
    ∃ (A' : Option Addr) (c' : Nat), (pixT d j p).length ≤ c' ∧ ∀ w : World, Kd.C (Kd.int .i64) w A d.length d → (Kd.C (Kd.int .i64) w A' (pixT d j p).length (pixT d j p) ∧
      Calls Try.prog 59 #[.agg #[.int .i64 a, .int .i64 b, .int .i64 p, .slice A d.length c], .int .i64 x, .int .i64 y] w fun e w' => e = .returned (.slice A' (pixT d j p).length c') ∧ Below w.heap.size w w') := by
  obtain ⟨i0, hi0, _, hsz, _⟩ := info_parts info3
  obtain ⟨A', hcut, hA, hC⟩ := print_mid_of (P := Try.prog) (Value.int .i64) 0 22 3 .i64 .i64 Try.underlying22 hi0 hsz A c d j (wrap64 (j + p)) h0 h1 h2 hc
  refine ⟨A', c - j.toNat, hC, fun w hr => ⟨Kd.C_of_reads (h1 := fun _ => rfl) (hA _ (Kd.reads_of_C hr)), ?_⟩⟩
  have hu := Try.underlying28
  have hjw : (IntKind.i64.wrap ((wrap64 ((wrap64 (y * a)) + x)) * p)) = j := (i64_w _).trans hj
  have d0 : decide (0 ≤ j) = true := decide_eq_true h0
  have d1 : decide (j ≤ wrap64 (j + p)) = true := decide_eq_true h1
  have d2 : decide (wrap64 (j + p) ≤ (d.length : Int)) = true := decide_eq_true h2
  have e0 := eq_true h0
  have e1 := eq_true h1
  have e2 := eq_true h2
  clear hA hC hi0 hsz hr hj
  go_enter Try.func59, Try.ntmps59
  go_wp2_with (first | ((with_reducible refine gate_dst (N := 3) rfl ?_); refine box_event ?hg (N := 3) ?hd (cs := #[.int .i64 a, .int .i64 b, .int .i64 p, .slice A d.length c]) (t := 28) ?hr ?_; (case hd => rfl); (case hg => rfl); (case hr => first | (go_simp; done) | (go_simp; rfl)); intro gb hg w9 hbox hb; have HB := Aside0.mk (below_step (Below.refl w.heap.size w) hb); have BK := Aside0.mk hbox; have hcz0 : w9.cell? ⟨gb, 0, none⟩ = some (.int .i64 a) := (blk_cell BK.out 0).trans rfl; have hcz1 : w9.cell? ⟨gb, 1, none⟩ = some (.int .i64 b) := (blk_cell BK.out 1).trans rfl; have hcz2 : w9.cell? ⟨gb, 2, none⟩ = some (.int .i64 p) := (blk_cell BK.out 2).trans rfl; have hcz3 : w9.cell? ⟨gb, 3, none⟩ = some (.slice A d.length c) := (blk_cell BK.out 3).trans rfl; clear hbox hb hg))
  go_ret
  exact ⟨by rw [show (pixT d j p).length = (wrap64 (j + p)).toNat - j.toNat from by unfold pixT; rw [List.length_drop, List.length_take, Nat.min_eq_left (by omega)]]; rfl, HB.out⟩
end Go.Proofs.Ytbgohbinonkhfaa.Q

namespace Go.Proofs.Ytbgohbinonkhfaa.Q
open Go.RowKit Go.Proofs.YtbgohbinonkhfaaW.PrintWords Go.Proofs.YtbgohbinonkhfaaW.PrintLast Go.Proofs.YtbgohbinonkhfaaW.PrintMore
attribute [local go_sem] max2_int min2_int max_two min_two max_three min_three max_four min_four
set_option linter.unusedVariables false
set_option linter.unusedSimpArgs false
/-! ### slices_Equal_int_int: function 94 -/
def slices_Equal_int_int.l0 : Nat → List Int → List Int → Int → Int → Option (Bool)
  | 0, _, _, _, _ => none
  | k + 1, x0, x1, x12, x13 => if x13 < x12 then (if 0 ≤ x13 then (if x13 < (x0.length : Int) then (if x13 < (x1.length : Int) then (if (rd x0 x13) = (rd x1 x13) then (slices_Equal_int_int.l0 k x0 x1 x12 (wrap64 (x13 + 1))) else (some false)) else (none)) else (none)) else (none)) else (some true)
def slices_Equal_int_int.f (k : Nat) (l0 : List Int) (l1 : List Int) : Option (Bool) := if (l0.length : Int) = (l1.length : Int) then (slices_Equal_int_int.l0 k l0 l1 (l0.length : Int) 0) else (some false)
theorem slices_Equal_int_int.mono_l : ∀ k, (∀ y0 y1 y2 y3, LeO (slices_Equal_int_int.l0 k y0 y1 y2 y3) (slices_Equal_int_int.l0 (k + 1) y0 y1 y2 y3))
  | 0 => fun _ _ _ _ r h => by simp [slices_Equal_int_int.l0] at h
  | k + 1 => by
    have ih0 := slices_Equal_int_int.mono_l k
    · intro y0 y1 y2 y3
      unfold slices_Equal_int_int.l0
      repeat' first
      | (with_reducible exact ih0 _ _ _ _)
      | (with_reducible exact LeO.refl _)
      | (with_reducible exact LeO.none _)
      | (with_reducible refine LeO.ite ?_ ?_)
      | (with_reducible refine LeO.bind ?_ (fun _ => ?_))
      | exact ih0 _ _ _ _
      | exact LeO.none _
      | refine LeO.ite ?_ ?_
      | refine LeO.bind ?_ (fun _ => ?_)
theorem slices_Equal_int_int.mono : ∀ a0 a1 k, LeO (slices_Equal_int_int.f k a0 a1) (slices_Equal_int_int.f (k + 1) a0 a1) := by
  intro a0 a1 k
  have ih0 := slices_Equal_int_int.mono_l k
  unfold slices_Equal_int_int.f
  repeat' first
      | (with_reducible exact ih0 _ _ _ _)
      | (with_reducible exact LeO.refl _)
      | (with_reducible exact LeO.none _)
      | (with_reducible refine LeO.ite ?_ ?_)
      | (with_reducible refine LeO.bind ?_ (fun _ => ?_))
      | exact ih0 _ _ _ _
      | exact LeO.none _
      | refine LeO.ite ?_ ?_
      | refine LeO.bind ?_ (fun _ => ?_)
set_option maxHeartbeats 8000000 in
set_option maxRecDepth 100000 in
theorem slices_Equal_int_int.calls (k : Nat) (A0 : Option Addr) (c0 : Nat) (l0 : List Int) (A1 : Option Addr) (c1 : Nat) (l1 : List Int) (r : Bool) (w : World) (hr0 : Kd.C (Kd.int .i64) w A0 l0.length l0) (hc0 : l0.length ≤ c0) (hr1 : Kd.C (Kd.int .i64) w A1 l1.length l1) (hc1 : l1.length ≤ c1) (h : slices_Equal_int_int.f k l0 l1 = some r) :
    Calls Try.prog 94 #[.slice A0 l0.length c0, .slice A1 l1.length c1] w fun e w' => e = .returned (.bool r) ∧ Drawn0 w w' := by
  have HR0 := Aside0.mk hr0
  have HC0 := Aside0.mk hc0
  clear hr0 hc0
  have HR1 := Aside0.mk hr1
  have HC1 := Aside0.mk hc1
  clear hr1 hc1
  have H : (if (l0.length : Int) = (l1.length : Int) then (slices_Equal_int_int.l0 k l0 l1 (l0.length : Int) 0) else (some false)) = some r := h
  clear h
  by_cases c3 : (l0.length : Int) = (l1.length : Int)
  · rw [if_pos c3] at H
    have c3b0 : ((l0.length : Int) == (l1.length : Int)) = true := beq_iff_eq.mpr c3
    have c3b1 : ((l0.length : Int) != (l1.length : Int)) = false := bne_eq_false_iff_eq.mpr c3
    have c3b2 : (l0.length == l1.length) = true := by first | simpa using c3 | (simp at c3 ⊢; omega)
    clear c3
    have H' := Aside0.mk H
    clear H
    go_enter Try.func94, Try.ntmps94
    go_wp2
    repeat (go_quiet (fail); try go_wp2)
    go_loopg [13] k (fun kq v13 w' => ∃ (x13_1 : Int), v13 = .int .i64 x13_1 ∧ Aside0 (slices_Equal_int_int.l0 kq l0 l1 (l0.length : Int) x13_1 = some r) ∧ Aside0 (kq ≤ k) ∧ Drawn0 w w')
    case atStart => exact ⟨(0), (by first | rfl | (simp; done) | (simp [*]; done)), H', ⟨Nat.le_refl _⟩, by repeat (first | exact Drawn0.refl _ | apply Drawn0.step)⟩
    case round =>
      clear H'
      try clear c1
      try clear p2
      try clear c3
      try clear c3b0
      try clear c3b1
      try clear c3b2
      obtain ⟨x13_1, rfl, HA, HK1, ⟨m1, rfl⟩⟩ := hrel
      cases gk with
      | zero => exact absurd HA.out (by simp [slices_Equal_int_int.l0])
      | succ k1 =>
        have H := HA.out
        clear HA
        simp only [slices_Equal_int_int.l0] at H
        by_cases c4 : x13_1 < (l0.length : Int)
        · rw [if_pos c4] at H
          have c4b0 : decide (x13_1 < (l0.length : Int)) = true := decide_eq_true c4
          clear c4
          by_cases c5 : 0 ≤ x13_1
          · rw [if_pos c5] at H
            have c5b0 : decide (0 ≤ x13_1) = true := decide_eq_true c5
            clear c5
            by_cases c6 : x13_1 < (l0.length : Int)
            · rw [if_pos c6] at H
              have c6b0 : decide (x13_1 < (l0.length : Int)) = true := decide_eq_true c6
              clear c6
              by_cases c7 : x13_1 < (l1.length : Int)
              · rw [if_pos c7] at H
                have c7b0 : decide (x13_1 < (l1.length : Int)) = true := decide_eq_true c7
                clear c7
                by_cases c8 : (rd l0 x13_1) = (rd l1 x13_1)
                · rw [if_pos c8] at H
                  have c8b0 : ((rd l0 x13_1) == (rd l1 x13_1)) = true := beq_iff_eq.mpr c8
                  have c8b1 : ((rd l0 x13_1) != (rd l1 x13_1)) = false := bne_eq_false_iff_eq.mpr c8
                  clear c8
                  have H' := Aside0.mk H
                  clear H
                  have p95001 : 0 ≤ (x13_1 : Int) := of_decide_eq_true (by first | (with_reducible assumption) | assumption)
                  have q95001 : x13_1 < (l0.length : Int) := of_decide_eq_true (by first | (with_reducible assumption) | assumption)
                  obtain ⟨ad95001, e95001, hx95001_0⟩ := Kd.at_int HR0.out x13_1 p95001 q95001
                  cases e95001
                  replace p95001 := eq_true p95001
                  replace q95001 := eq_true q95001
                  have p95002 : 0 ≤ (x13_1 : Int) := of_decide_eq_true (by first | (with_reducible assumption) | assumption)
                  have q95002 : x13_1 < (l1.length : Int) := of_decide_eq_true (by first | (with_reducible assumption) | assumption)
                  obtain ⟨ad95002, e95002, hx95002_0⟩ := Kd.at_int HR1.out x13_1 p95002 q95002
                  cases e95002
                  replace p95002 := eq_true p95002
                  replace q95002 := eq_true q95002
                  go_wp2
                  repeat (go_quiet (fail); try go_wp2)
                  go_roundg k1
                  case measure => have := HK1.out; omega
                  case rel => exact ⟨(wrap64 (x13_1 + 1)), (by first | rfl | (simp; done) | (simp [*]; done)), H', ⟨by have := HK1.out; omega⟩, by repeat (first | exact Drawn0.refl _ | apply Drawn0.step)⟩
                · rw [if_neg c8] at H
                  have c8b0 : ((rd l0 x13_1) == (rd l1 x13_1)) = false := beq_eq_false_iff_ne.mpr c8
                  have c8b1 : ((rd l0 x13_1) != (rd l1 x13_1)) = true := bne_iff_ne.mpr c8
                  obtain rfl := Option.some.inj H
                  have p95001 : 0 ≤ (x13_1 : Int) := of_decide_eq_true (by first | (with_reducible assumption) | assumption)
                  have q95001 : x13_1 < (l0.length : Int) := of_decide_eq_true (by first | (with_reducible assumption) | assumption)
                  obtain ⟨ad95001, e95001, hx95001_0⟩ := Kd.at_int HR0.out x13_1 p95001 q95001
                  cases e95001
                  replace p95001 := eq_true p95001
                  replace q95001 := eq_true q95001
                  have p95002 : 0 ≤ (x13_1 : Int) := of_decide_eq_true (by first | (with_reducible assumption) | assumption)
                  have q95002 : x13_1 < (l1.length : Int) := of_decide_eq_true (by first | (with_reducible assumption) | assumption)
                  obtain ⟨ad95002, e95002, hx95002_0⟩ := Kd.at_int HR1.out x13_1 p95002 q95002
                  cases e95002
                  replace p95002 := eq_true p95002
                  replace q95002 := eq_true q95002
                  go_wp2
                  repeat (go_quiet (fail); try go_wp2)
                  go_ret
                  exact ⟨by first | rfl | (simp; done) | (simp [*]; done), by repeat (first | exact Drawn0.refl _ | apply Drawn0.step)⟩
              · rw [if_neg c7] at H
                exact absurd H (by simp)
            · rw [if_neg c6] at H
              exact absurd H (by simp)
          · rw [if_neg c5] at H
            exact absurd H (by simp)
        · rw [if_neg c4] at H
          have c4b0 : decide (x13_1 < (l0.length : Int)) = false := decide_eq_false c4
          clear c4
          obtain rfl := Option.some.inj H
          go_wp2
          repeat (go_quiet (fail); try go_wp2)
          go_ret
          exact ⟨by first | rfl | (simp; done) | (simp [*]; done), by repeat (first | exact Drawn0.refl _ | apply Drawn0.step)⟩
  · rw [if_neg c3] at H
    have c3b0 : ((l0.length : Int) == (l1.length : Int)) = false := beq_eq_false_iff_ne.mpr c3
    have c3b1 : ((l0.length : Int) != (l1.length : Int)) = true := bne_iff_ne.mpr c3
    have c3b2 : (l0.length == l1.length) = false := by first | simpa using c3 | (simp at c3 ⊢; omega)
    obtain rfl := Option.some.inj H
    go_enter Try.func94, Try.ntmps94
    go_wp2
    repeat (go_quiet (fail); try go_wp2)
    go_ret
    exact ⟨by first | rfl | (simp; done) | (simp [*]; done), by repeat (first | exact Drawn0.refl _ | apply Drawn0.step)⟩

end Go.Proofs.Ytbgohbinonkhfaa.Q

namespace Go.Proofs.Ytbgohbinonkhfaa.Q
open Go.RowKit Go.Proofs.YtbgohbinonkhfaaW.PrintWords Go.Proofs.YtbgohbinonkhfaaW.PrintLast Go.Proofs.YtbgohbinonkhfaaW.PrintMore
attribute [local go_sem] max2_int min2_int max_two min_two max_three min_three max_four min_four
set_option linter.unusedVariables false
set_option linter.unusedSimpArgs false
/-! ### impl_isSide: function 108 -/
def impl_isSide.f (a0 : Int) : Option (Bool) := if a0 ≥ 1 then (some (decide (a0 ≤ 16))) else (some false)
set_option maxHeartbeats 8000000 in
set_option maxRecDepth 100000 in
theorem impl_isSide.calls (a0 : Int) (r : Bool) (w : World) (h : impl_isSide.f a0 = some r) :
    Calls Try.prog 108 #[.int .i64 a0] w fun e w' => e = .returned (.bool r) ∧ Drawn0 w w' := by
  have H : (if a0 ≥ 1 then (some (decide (a0 ≤ 16))) else (some false)) = some r := h
  clear h
  by_cases c2 : a0 ≥ 1
  · rw [if_pos c2] at H
    have c2b0 : decide (1 ≤ a0) = true := decide_eq_true c2
    clear c2
    obtain rfl := Option.some.inj H
    go_enter Try.func108, Try.ntmps108
    go_wp2
    go_ret
    exact ⟨by first | rfl | (simp; done) | (simp [*]; done), by repeat (first | exact Drawn0.refl _ | apply Drawn0.step)⟩
  · rw [if_neg c2] at H
    have c2b0 : decide (1 ≤ a0) = false := decide_eq_false c2
    clear c2
    obtain rfl := Option.some.inj H
    go_enter Try.func108, Try.ntmps108
    go_wp2
    go_ret
    exact ⟨by first | rfl | (simp; done) | (simp [*]; done), by repeat (first | exact Drawn0.refl _ | apply Drawn0.step)⟩

end Go.Proofs.Ytbgohbinonkhfaa.Q

namespace Go.Proofs.Ytbgohbinonkhfaa.Q
open Go.RowKit Go.Proofs.YtbgohbinonkhfaaW.PrintWords Go.Proofs.YtbgohbinonkhfaaW.PrintLast Go.Proofs.YtbgohbinonkhfaaW.PrintMore
attribute [local go_sem] max2_int min2_int max_two min_two max_three min_three max_four min_four
set_option linter.unusedVariables false
set_option linter.unusedSimpArgs false
/-! ### impl_isShape: function 91 -/
def impl_isShape.f (a0 : Int) (a1 : Int) (a2 : Int) : Option (Bool) := (impl_isSide.f a0).bind fun t92001 => (if t92001 = true then ((impl_isSide.f a1).bind fun t92002 => (if t92002 = true then (if a2 ≥ 1 then (some (decide (a2 ≤ 4))) else (some false)) else (some false))) else (some false))
set_option maxHeartbeats 8000000 in
set_option maxRecDepth 100000 in
theorem impl_isShape.calls (a0 : Int) (a1 : Int) (a2 : Int) (r : Bool) (w : World) (h : impl_isShape.f a0 a1 a2 = some r) :
    Calls Try.prog 91 #[.int .i64 a0, .int .i64 a1, .int .i64 a2] w fun e w' => e = .returned (.bool r) ∧ Drawn0 w w' := by
  have H : ((impl_isSide.f a0).bind fun t92001 => (if t92001 = true then ((impl_isSide.f a1).bind fun t92002 => (if t92002 = true then (if a2 ≥ 1 then (some (decide (a2 ≤ 4))) else (some false)) else (some false))) else (some false))) = some r := h
  clear h
  replace H := Option.bind_eq_some_iff.mp H
  obtain ⟨t92001, A40, H⟩ := H
  replace H : (if t92001 = true then ((impl_isSide.f a1).bind fun t92002 => (if t92002 = true then (if a2 ≥ 1 then (some (decide (a2 ≤ 4))) else (some false)) else (some false))) else (some false)) = some r := H
  have A4 := Aside0.mk A40
  clear A40
  by_cases c5 : t92001 = true
  · subst c5
    have H1 : ((impl_isSide.f a1).bind fun t92002 => (if t92002 = true then (if a2 ≥ 1 then (some (decide (a2 ≤ 4))) else (some false)) else (some false))) = some r := by rw [if_pos rfl] at H; exact H
    clear H
    have H := H1
    clear H1
    replace H := Option.bind_eq_some_iff.mp H
    obtain ⟨t92002, A60, H⟩ := H
    replace H : (if t92002 = true then (if a2 ≥ 1 then (some (decide (a2 ≤ 4))) else (some false)) else (some false)) = some r := H
    have A6 := Aside0.mk A60
    clear A60
    by_cases c7 : t92002 = true
    · subst c7
      have H1 : (if a2 ≥ 1 then (some (decide (a2 ≤ 4))) else (some false)) = some r := by rw [if_pos rfl] at H; exact H
      clear H
      have H := H1
      clear H1
      by_cases c8 : a2 ≥ 1
      · rw [if_pos c8] at H
        have c8b0 : decide (1 ≤ a2) = true := decide_eq_true c8
        clear c8
        obtain rfl := Option.some.inj H
        go_enter Try.func91, Try.ntmps91
        go_wp2_with (first | ((with_reducible refine gate_callee (f := 108) rfl ?_); refine goesL_ (some 8) rfl rfl Try.func108 (by kernel_rfl) rfl #[.int .i64 a0] rfl (by (try simp only [List.map_toArray, List.map_cons, List.map_nil]); first | done | rfl | (simp only [List.length_drop, List.length_take]; rfl)) ?_; (with_reducible refine (impl_isSide.calls a0 true _ A4.out).mono ?_); rintro e w' ⟨rfl, ⟨nd, rfl⟩⟩; refine ⟨_, rfl, ?_⟩) | (go_at_call 108; (with_reducible refine (impl_isSide.calls a1 true _ A6.out).mono ?_); rintro e w' ⟨rfl, ⟨nd, rfl⟩⟩))
        go_ret
        exact ⟨by first | rfl | (simp; done) | (simp [*]; done), by repeat (first | exact Drawn0.refl _ | apply Drawn0.step)⟩
      · rw [if_neg c8] at H
        have c8b0 : decide (1 ≤ a2) = false := decide_eq_false c8
        clear c8
        obtain rfl := Option.some.inj H
        go_enter Try.func91, Try.ntmps91
        go_wp2_with (first | ((with_reducible refine gate_callee (f := 108) rfl ?_); refine goesL_ (some 8) rfl rfl Try.func108 (by kernel_rfl) rfl #[.int .i64 a0] rfl (by (try simp only [List.map_toArray, List.map_cons, List.map_nil]); first | done | rfl | (simp only [List.length_drop, List.length_take]; rfl)) ?_; (with_reducible refine (impl_isSide.calls a0 true _ A4.out).mono ?_); rintro e w' ⟨rfl, ⟨nd, rfl⟩⟩; refine ⟨_, rfl, ?_⟩) | (go_at_call 108; (with_reducible refine (impl_isSide.calls a1 true _ A6.out).mono ?_); rintro e w' ⟨rfl, ⟨nd, rfl⟩⟩))
        go_ret
        exact ⟨by first | rfl | (simp; done) | (simp [*]; done), by repeat (first | exact Drawn0.refl _ | apply Drawn0.step)⟩
    · replace c7 := Bool.eq_false_iff.mpr c7
      subst c7
      have H1 : (some false) = some r := by rw [if_neg (show ¬ (false = true) by decide)] at H; exact H
      clear H
      have H := H1
      clear H1
      obtain rfl := Option.some.inj H
      go_enter Try.func91, Try.ntmps91
      go_wp2_with (first | ((with_reducible refine gate_callee (f := 108) rfl ?_); refine goesL_ (some 8) rfl rfl Try.func108 (by kernel_rfl) rfl #[.int .i64 a0] rfl (by (try simp only [List.map_toArray, List.map_cons, List.map_nil]); first | done | rfl | (simp only [List.length_drop, List.length_take]; rfl)) ?_; (with_reducible refine (impl_isSide.calls a0 true _ A4.out).mono ?_); rintro e w' ⟨rfl, ⟨nd, rfl⟩⟩; refine ⟨_, rfl, ?_⟩) | (go_at_call 108; (with_reducible refine (impl_isSide.calls a1 false _ A6.out).mono ?_); rintro e w' ⟨rfl, ⟨nd, rfl⟩⟩))
      go_ret
      exact ⟨by first | rfl | (simp; done) | (simp [*]; done), by repeat (first | exact Drawn0.refl _ | apply Drawn0.step)⟩
  · replace c5 := Bool.eq_false_iff.mpr c5
    subst c5
    have H1 : (some false) = some r := by rw [if_neg (show ¬ (false = true) by decide)] at H; exact H
    clear H
    have H := H1
    clear H1
    obtain rfl := Option.some.inj H
    go_enter Try.func91, Try.ntmps91
    go_wp2_with (first | ((with_reducible refine gate_callee (f := 108) rfl ?_); refine goesL_ (some 8) rfl rfl Try.func108 (by kernel_rfl) rfl #[.int .i64 a0] rfl (by (try simp only [List.map_toArray, List.map_cons, List.map_nil]); first | done | rfl | (simp only [List.length_drop, List.length_take]; rfl)) ?_; (with_reducible refine (impl_isSide.calls a0 false _ A4.out).mono ?_); rintro e w' ⟨rfl, ⟨nd, rfl⟩⟩; refine ⟨_, rfl, ?_⟩))
    go_ret
    exact ⟨by first | rfl | (simp; done) | (simp [*]; done), by repeat (first | exact Drawn0.refl _ | apply Drawn0.step)⟩

end Go.Proofs.Ytbgohbinonkhfaa.Q

/- slices.IndexFunc over whole numbers: where the first element lies for which the function value's answer is true. -/
namespace Go.Proofs.Ytbgohbinonkhfaa.Q
open Go.RowKit Go.Proofs.YtbgohbinonkhfaaW.PrintWords Go.Proofs.YtbgohbinonkhfaaW.PrintLast Go.Proofs.YtbgohbinonkhfaaW.PrintMore
attribute [local go_sem] max2_int min2_int max_two min_two max_three min_three max_four min_four
set_option linter.unusedVariables false
set_option linter.unusedSimpArgs false

set_option maxHeartbeats 1000000 in
theorem idxFunc_int (g : Nat) (lb : Array Value) (p : Int → Bool) (A : Option Addr) (c : Nat) (l : List Int) (w : World)
    (eg : ∀ args W, (callFunc g args).run Try.prog W = .ok (.enter g args) W)
    (hp : ∀ (W : World) (x : Int), Below w.heap.size w W → Calls Try.prog g (#[.int .i64 x] ++ lb) W fun e W' => e = .returned (.bool (p x)) ∧ Drawn0 W W')
    (hr : Kd.C (Kd.int .i64) w A l.length l) :
    Calls Try.prog 111 #[.slice A l.length c, .func (.func g) #[] lb] w fun e w' => e = .returned (.int .i64 (idxF p l)) ∧ Drawn0 w w' := by
  have hm : l.length ≤ 9223372036854775807 := hr.2.1
  have HP := Aside0.mk hp
  have HR := Aside0.mk hr
  clear hp hr
  go_enter Try.func111, Try.ntmps111
  go_wp2
  go_loopw [8] (fun v8 W => ∃ k : Nat, v8 = .int .i64 k ∧ k ≤ l.length ∧ SawNone p l k ∧ Drawn0 w W) (fun v8 _ => l.length - (intOf v8).toNat)
  case atStart => exact ⟨0, rfl, by omega, fun j hj => by omega, Drawn0.refl _⟩
  case round =>
    obtain ⟨k, rfl, hk, hs, hd⟩ := hrel
    by_cases hlt : k < l.length
    · obtain ⟨ad, e, hx⟩ := Kd.at_int HR.out (k : Int) (by omega) (by omega)
      cases e
      rw [rd_get l k hlt, Int.toNat_natCast] at hx
      replace hx := (hd.below.cell (World.block_lt_of_cell? w _ hx)).trans hx
      by_cases hv : p l[k] = true
      · have HV := Aside0.mk hv
        clear hv
        go_wp2_with (first | (go_at_fn g; refine (HP.out _ _ hd.below).mono ?_; rintro e w' ⟨rfl, hd2⟩; rw [HV.out]))
        go_ret
        exact ⟨by rw [idxF_at p l k hlt hs HV.out]; rfl, dtrans hd hd2⟩
      · replace hv : p l[k] = false := by simpa using hv
        have hs' := hs.succ hlt hv
        have HV := Aside0.mk hv
        clear hv
        go_wp2_with (first | (go_at_fn g; refine (HP.out _ _ hd.below).mono ?_; rintro e w' ⟨rfl, hd2⟩; rw [HV.out]))
        go_roundw
        case rel => exact ⟨k + 1, by go_num, by omega, hs', dtrans hd hd2⟩
        case measure => simp [intOf]; omega
    · go_wp2
      go_ret
      have : k = l.length := by omega
      subst this
      exact ⟨by rw [idxF_none p l hs]; rfl, hd⟩
end Go.Proofs.Ytbgohbinonkhfaa.Q

/- slices.ContainsFunc over whole numbers. -/
namespace Go.Proofs.Ytbgohbinonkhfaa.Q
open Go.RowKit Go.Proofs.YtbgohbinonkhfaaW.PrintWords Go.Proofs.YtbgohbinonkhfaaW.PrintLast Go.Proofs.YtbgohbinonkhfaaW.PrintMore
attribute [local go_sem] max2_int min2_int max_two min_two max_three min_three max_four min_four
set_option linter.unusedVariables false
set_option linter.unusedSimpArgs false

set_option maxHeartbeats 1000000 in
theorem containsFunc_int (g : Nat) (lb : Array Value) (p : Int → Bool) (A : Option Addr) (c : Nat) (l : List Int) (w : World)
    (eg : ∀ args W, (callFunc g args).run Try.prog W = .ok (.enter g args) W)
    (hp : ∀ (W : World) (x : Int), Below w.heap.size w W → Calls Try.prog g (#[.int .i64 x] ++ lb) W fun e W' => e = .returned (.bool (p x)) ∧ Drawn0 W W')
    (hr : Kd.C (Kd.int .i64) w A l.length l) :
    Calls Try.prog 109 #[.slice A l.length c, .func (.func g) #[] lb] w fun e w' => e = .returned (.bool (l.any p)) ∧ Drawn0 w w' := by
  have HP := Aside0.mk hp
  have HR := Aside0.mk hr
  clear hp hr
  go_enter Try.func109, Try.ntmps109
  go_wp2_with (first | (go_at_call 111; refine (idxFunc_int g lb p _ _ _ _ eg HP.out HR.out).mono ?_; rintro e w' ⟨rfl, hd⟩))
  go_ret
  exact ⟨ret_bool (by first | exact idxF_any p l | (rw [← idxF_any p l])), hd⟩
end Go.Proofs.Ytbgohbinonkhfaa.Q

/- impl.areBytes: every number is in 0..255. -/
namespace Go.Proofs.Ytbgohbinonkhfaa.Q
open Go.RowKit Go.Proofs.YtbgohbinonkhfaaW.PrintWords Go.Proofs.YtbgohbinonkhfaaW.PrintLast Go.Proofs.YtbgohbinonkhfaaW.PrintMore
attribute [local go_sem] max2_int min2_int max_two min_two max_three min_three max_four min_four
set_option linter.unusedVariables false
set_option linter.unusedSimpArgs false

def notByte (n : Int) : Bool := decide (n < 0) || decide (n > 255)
def impl_areBytes.f (l0 : List Int) : Option Bool := some (!l0.any notByte)

theorem areBytes1 (n : Int) (w : World) : Calls Try.prog 110 #[.int .i64 n] w fun e w' => e = .returned (.bool (notByte n)) ∧ Drawn0 w w' := by
  by_cases h1 : n < 0 <;> by_cases h2 : n > 255
  all_goals
    go_enter Try.func110, Try.ntmps110
    go_wp2
    go_ret
    exact ⟨by simp [notByte, *], Drawn0.refl _⟩

set_option maxHeartbeats 1000000 in
theorem impl_areBytes.calls (A0 : Option Addr) (c0 : Nat) (l0 : List Int) (r : Bool) (w : World) (hr0 : Kd.C (Kd.int .i64) w A0 l0.length l0) (hc0 : l0.length ≤ c0) (h : impl_areBytes.f l0 = some r) :
    Calls Try.prog 92 #[.slice A0 l0.length c0] w fun e w' => e = .returned (.bool r) ∧ Drawn0 w w' := by
  obtain rfl := Option.some.inj h
  clear h
  have HR := Aside0.mk hr0
  clear hr0
  have eg : ∀ args W, (callFunc 110 args).run Try.prog W = .ok (.enter 110 args) W := enters_of Try.func110 (by kernel_rfl) rfl
  go_enter Try.func92, Try.ntmps92
  go_wp2_with (first | (go_at_call 109; refine (containsFunc_int 110 #[] notByte _ _ _ _ eg (fun W x _ => areBytes1 x W) HR.out).mono ?_; rintro e w' ⟨rfl, hd⟩))
  go_ret
  exact ⟨rfl, hd⟩
end Go.Proofs.Ytbgohbinonkhfaa.Q

namespace Go.Proofs.Ytbgohbinonkhfaa.Q
open Go.RowKit Go.Proofs.YtbgohbinonkhfaaW.PrintWords Go.Proofs.YtbgohbinonkhfaaW.PrintLast Go.Proofs.YtbgohbinonkhfaaW.PrintMore
attribute [local go_sem] max2_int min2_int max_two min_two max_three min_three max_four min_four
set_option linter.unusedVariables false
set_option linter.unusedSimpArgs false
/-! ### impl_isImage: function 48 -/
def impl_isImage.f (a0_0 : Int) (a0_1 : Int) (a0_2 : Int) (l0_3 : List Int) : Option (Bool) := (impl_isShape.f a0_0 a0_1 a0_2).bind fun t49002 => (if t49002 = true then (if (l0_3.length : Int) = (wrap64 ((wrap64 (a0_0 * a0_1)) * a0_2)) then ((impl_areBytes.f l0_3).bind fun t49003 => (some t49003)) else (some false)) else (some false))
set_option maxHeartbeats 8000000 in
set_option maxRecDepth 100000 in
theorem impl_isImage.calls (a0_0 : Int) (a0_1 : Int) (a0_2 : Int) (A0_3 : Option Addr) (c0_3 : Nat) (l0_3 : List Int) (r : Bool) (w : World) (hr0_3 : Kd.C (Kd.int .i64) w A0_3 l0_3.length l0_3) (hc0_3 : l0_3.length ≤ c0_3) (h : impl_isImage.f a0_0 a0_1 a0_2 l0_3 = some r) :
    Calls Try.prog 48 #[.agg #[.int .i64 a0_0, .int .i64 a0_1, .int .i64 a0_2, .slice A0_3 l0_3.length c0_3]] w fun e w' => e = .returned (.bool r) ∧ Below w.heap.size w w' := by
  have hu28 := Try.underlying28
  have HR0_3 := Aside0.mk hr0_3
  have HC0_3 := Aside0.mk hc0_3
  clear hr0_3 hc0_3
  have HB := Aside0.mk (Below.refl w.heap.size w)
  have H : ((impl_isShape.f a0_0 a0_1 a0_2).bind fun t49002 => (if t49002 = true then (if (l0_3.length : Int) = (wrap64 ((wrap64 (a0_0 * a0_1)) * a0_2)) then ((impl_areBytes.f l0_3).bind fun t49003 => (some t49003)) else (some false)) else (some false))) = some r := h
  clear h
  replace H := Option.bind_eq_some_iff.mp H
  obtain ⟨t49002, A20, H⟩ := H
  replace H : (if t49002 = true then (if (l0_3.length : Int) = (wrap64 ((wrap64 (a0_0 * a0_1)) * a0_2)) then ((impl_areBytes.f l0_3).bind fun t49003 => (some t49003)) else (some false)) else (some false)) = some r := H
  have A2 := Aside0.mk A20
  clear A20
  by_cases c3 : t49002 = true
  · subst c3
    have H1 : (if (l0_3.length : Int) = (wrap64 ((wrap64 (a0_0 * a0_1)) * a0_2)) then ((impl_areBytes.f l0_3).bind fun t49003 => (some t49003)) else (some false)) = some r := by rw [if_pos rfl] at H; exact H
    clear H
    have H := H1
    clear H1
    by_cases c4 : (l0_3.length : Int) = (wrap64 ((wrap64 (a0_0 * a0_1)) * a0_2))
    · rw [if_pos c4] at H
      have c4b0 : ((l0_3.length : Int) == (wrap64 ((wrap64 (a0_0 * a0_1)) * a0_2))) = true := beq_iff_eq.mpr c4
      have c4b1 : ((l0_3.length : Int) != (wrap64 ((wrap64 (a0_0 * a0_1)) * a0_2))) = false := bne_eq_false_iff_eq.mpr c4
      clear c4
      replace H := Option.bind_eq_some_iff.mp H
      obtain ⟨t49003, A50, H⟩ := H
      replace H : (some t49003) = some r := H
      have A5 := Aside0.mk A50
      clear A50
      obtain rfl := Option.some.inj H
      go_enter Try.func48, Try.ntmps48
      go_wp2_with (first | ((with_reducible refine gate_dst (N := 1) rfl ?_); (try (refine gate_guard (by rfl) ?_; dsimp only)); refine box_event ?hg (N := 1) ?hd (cs := #[.int .i64 a0_0, .int .i64 a0_1, .int .i64 a0_2, .slice A0_3 l0_3.length c0_3]) (t := 28) ?hr ?_; (case hd => rfl); (case hg => rfl); (case hr => first | (go_simp; done) | (go_simp; rfl)); intro gb49001 hg w6 hbox hb; have n0_ := Aside0.mk (below_step (by repeat (first | (with_reducible first | exact HB.out | apply below_alloc | apply pw_below_drewN | apply below_drew1) | exact HB.out)) hb); have n1_ := Aside0.mk (hbox); have n2_ := Aside0.mk ((by rw [hg]; exact (below_size (by repeat (first | (with_reducible first | exact HB.out | apply below_alloc | apply pw_below_drewN | apply below_drew1) | exact HB.out))) : w.heap.size ≤ gb49001)); have n3_ := Aside0.mk ((by rw [hg]; exact (below_size (by repeat (first | (with_reducible first | exact HB.out | apply below_alloc | apply pw_below_drewN | apply below_drew1) | exact HB.out))) : w.heap.size ≤ gb49001)); clear HB; have HB := n0_; have BK49001 := n1_; have GW49001 := n2_; have GE49001 := n3_; clear n0_ n1_ n2_ n3_; clear hb hbox hg; have hcz7_0 : w6.cell? ⟨gb49001, 0, none⟩ = some (.int .i64 a0_0) := (blk_cell BK49001.out 0).trans rfl; have hcz7_1 : w6.cell? ⟨gb49001, 1, none⟩ = some (.int .i64 a0_1) := (blk_cell BK49001.out 1).trans rfl; have hcz7_2 : w6.cell? ⟨gb49001, 2, none⟩ = some (.int .i64 a0_2) := (blk_cell BK49001.out 2).trans rfl; have hcz7_3 : w6.cell? ⟨gb49001, 3, none⟩ = some (.slice A0_3 l0_3.length c0_3) := (blk_cell BK49001.out 3).trans rfl; have hfz7_0 := blk_frozen BK49001.out 0; have hfz7_1 := blk_frozen BK49001.out 1; have hfz7_2 := blk_frozen BK49001.out 2; have hfz7_3 := blk_frozen BK49001.out 3) | ((with_reducible refine gate_callee (f := 91) rfl ?_); refine goesL_ (some 9) rfl rfl Try.func91 (by kernel_rfl) rfl #[.int .i64 a0_0, .int .i64 a0_1, .int .i64 a0_2] rfl (by (try simp only [List.map_toArray, List.map_cons, List.map_nil]); first | done | rfl | (simp only [List.length_drop, List.length_take]; rfl)) ?_; (with_reducible refine (impl_isShape.calls a0_0 a0_1 a0_2 true _ A2.out).mono ?_); rintro e w' ⟨rfl, ⟨nd, rfl⟩⟩; refine ⟨_, rfl, ?_⟩) | (go_at_call 92; (with_reducible refine (impl_areBytes.calls _ _ l0_3 t49003 _ ?side1 ?side2 A5.out).mono ?_); (case side1 => repeat (first | exact (Kd.C_below HR0_3.out (by repeat (first | (with_reducible first | exact HB.out | apply below_alloc | apply pw_below_drewN | apply below_drew1 | refine below_set ?_ GE49001.out) | exact HB.out))) | (with_reducible refine Kd.C_alloc ?_ _) | (with_reducible refine Kd.C_drewN ?_ _) | (with_reducible refine Kd.C_drew ?_))); (case side2 => exact HC0_3.out); rintro e w' ⟨rfl, ⟨nd, rfl⟩⟩))
      go_ret
      exact ⟨by first | rfl | (simp [errW_none, errW_some] <;> rfl) | (simp [*, errW_none, errW_some] <;> rfl), by repeat (first | (with_reducible first | exact HB.out | apply below_alloc | apply pw_below_drewN | apply below_drew1 | refine below_set ?_ GE49001.out) | exact HB.out)⟩
    · rw [if_neg c4] at H
      have c4b0 : ((l0_3.length : Int) == (wrap64 ((wrap64 (a0_0 * a0_1)) * a0_2))) = false := beq_eq_false_iff_ne.mpr c4
      have c4b1 : ((l0_3.length : Int) != (wrap64 ((wrap64 (a0_0 * a0_1)) * a0_2))) = true := bne_iff_ne.mpr c4
      obtain rfl := Option.some.inj H
      go_enter Try.func48, Try.ntmps48
      go_wp2_with (first | ((with_reducible refine gate_dst (N := 1) rfl ?_); (try (refine gate_guard (by rfl) ?_; dsimp only)); refine box_event ?hg (N := 1) ?hd (cs := #[.int .i64 a0_0, .int .i64 a0_1, .int .i64 a0_2, .slice A0_3 l0_3.length c0_3]) (t := 28) ?hr ?_; (case hd => rfl); (case hg => rfl); (case hr => first | (go_simp; done) | (go_simp; rfl)); intro gb49001 hg w8 hbox hb; have n0_ := Aside0.mk (below_step (by repeat (first | (with_reducible first | exact HB.out | apply below_alloc | apply pw_below_drewN | apply below_drew1) | exact HB.out)) hb); have n1_ := Aside0.mk (hbox); have n2_ := Aside0.mk ((by rw [hg]; exact (below_size (by repeat (first | (with_reducible first | exact HB.out | apply below_alloc | apply pw_below_drewN | apply below_drew1) | exact HB.out))) : w.heap.size ≤ gb49001)); have n3_ := Aside0.mk ((by rw [hg]; exact (below_size (by repeat (first | (with_reducible first | exact HB.out | apply below_alloc | apply pw_below_drewN | apply below_drew1) | exact HB.out))) : w.heap.size ≤ gb49001)); clear HB; have HB := n0_; have BK49001 := n1_; have GW49001 := n2_; have GE49001 := n3_; clear n0_ n1_ n2_ n3_; clear hb hbox hg; have hcz9_0 : w8.cell? ⟨gb49001, 0, none⟩ = some (.int .i64 a0_0) := (blk_cell BK49001.out 0).trans rfl; have hcz9_1 : w8.cell? ⟨gb49001, 1, none⟩ = some (.int .i64 a0_1) := (blk_cell BK49001.out 1).trans rfl; have hcz9_2 : w8.cell? ⟨gb49001, 2, none⟩ = some (.int .i64 a0_2) := (blk_cell BK49001.out 2).trans rfl; have hcz9_3 : w8.cell? ⟨gb49001, 3, none⟩ = some (.slice A0_3 l0_3.length c0_3) := (blk_cell BK49001.out 3).trans rfl; have hfz9_0 := blk_frozen BK49001.out 0; have hfz9_1 := blk_frozen BK49001.out 1; have hfz9_2 := blk_frozen BK49001.out 2; have hfz9_3 := blk_frozen BK49001.out 3) | ((with_reducible refine gate_callee (f := 91) rfl ?_); refine goesL_ (some 9) rfl rfl Try.func91 (by kernel_rfl) rfl #[.int .i64 a0_0, .int .i64 a0_1, .int .i64 a0_2] rfl (by (try simp only [List.map_toArray, List.map_cons, List.map_nil]); first | done | rfl | (simp only [List.length_drop, List.length_take]; rfl)) ?_; (with_reducible refine (impl_isShape.calls a0_0 a0_1 a0_2 true _ A2.out).mono ?_); rintro e w' ⟨rfl, ⟨nd, rfl⟩⟩; refine ⟨_, rfl, ?_⟩))
      go_ret
      exact ⟨by first | rfl | (simp [errW_none, errW_some] <;> rfl) | (simp [*, errW_none, errW_some] <;> rfl), by repeat (first | (with_reducible first | exact HB.out | apply below_alloc | apply pw_below_drewN | apply below_drew1 | refine below_set ?_ GE49001.out) | exact HB.out)⟩
  · replace c3 := Bool.eq_false_iff.mpr c3
    subst c3
    have H1 : (some false) = some r := by rw [if_neg (show ¬ (false = true) by decide)] at H; exact H
    clear H
    have H := H1
    clear H1
    obtain rfl := Option.some.inj H
    go_enter Try.func48, Try.ntmps48
    go_wp2_with (first | ((with_reducible refine gate_dst (N := 1) rfl ?_); (try (refine gate_guard (by rfl) ?_; dsimp only)); refine box_event ?hg (N := 1) ?hd (cs := #[.int .i64 a0_0, .int .i64 a0_1, .int .i64 a0_2, .slice A0_3 l0_3.length c0_3]) (t := 28) ?hr ?_; (case hd => rfl); (case hg => rfl); (case hr => first | (go_simp; done) | (go_simp; rfl)); intro gb49001 hg w10 hbox hb; have n0_ := Aside0.mk (below_step (by repeat (first | (with_reducible first | exact HB.out | apply below_alloc | apply pw_below_drewN | apply below_drew1) | exact HB.out)) hb); have n1_ := Aside0.mk (hbox); have n2_ := Aside0.mk ((by rw [hg]; exact (below_size (by repeat (first | (with_reducible first | exact HB.out | apply below_alloc | apply pw_below_drewN | apply below_drew1) | exact HB.out))) : w.heap.size ≤ gb49001)); have n3_ := Aside0.mk ((by rw [hg]; exact (below_size (by repeat (first | (with_reducible first | exact HB.out | apply below_alloc | apply pw_below_drewN | apply below_drew1) | exact HB.out))) : w.heap.size ≤ gb49001)); clear HB; have HB := n0_; have BK49001 := n1_; have GW49001 := n2_; have GE49001 := n3_; clear n0_ n1_ n2_ n3_; clear hb hbox hg; have hcz11_0 : w10.cell? ⟨gb49001, 0, none⟩ = some (.int .i64 a0_0) := (blk_cell BK49001.out 0).trans rfl; have hcz11_1 : w10.cell? ⟨gb49001, 1, none⟩ = some (.int .i64 a0_1) := (blk_cell BK49001.out 1).trans rfl; have hcz11_2 : w10.cell? ⟨gb49001, 2, none⟩ = some (.int .i64 a0_2) := (blk_cell BK49001.out 2).trans rfl; have hcz11_3 : w10.cell? ⟨gb49001, 3, none⟩ = some (.slice A0_3 l0_3.length c0_3) := (blk_cell BK49001.out 3).trans rfl; have hfz11_0 := blk_frozen BK49001.out 0; have hfz11_1 := blk_frozen BK49001.out 1; have hfz11_2 := blk_frozen BK49001.out 2; have hfz11_3 := blk_frozen BK49001.out 3) | ((with_reducible refine gate_callee (f := 91) rfl ?_); refine goesL_ (some 9) rfl rfl Try.func91 (by kernel_rfl) rfl #[.int .i64 a0_0, .int .i64 a0_1, .int .i64 a0_2] rfl (by (try simp only [List.map_toArray, List.map_cons, List.map_nil]); first | done | rfl | (simp only [List.length_drop, List.length_take]; rfl)) ?_; (with_reducible refine (impl_isShape.calls a0_0 a0_1 a0_2 false _ A2.out).mono ?_); rintro e w' ⟨rfl, ⟨nd, rfl⟩⟩; refine ⟨_, rfl, ?_⟩))
    go_ret
    exact ⟨by first | rfl | (simp [errW_none, errW_some] <;> rfl) | (simp [*, errW_none, errW_some] <;> rfl), by repeat (first | (with_reducible first | exact HB.out | apply below_alloc | apply pw_below_drewN | apply below_drew1 | refine below_set ?_ GE49001.out) | exact HB.out)⟩

end Go.Proofs.Ytbgohbinonkhfaa.Q

/- Images: valid ones, as the program and the reference have it; copies of lists of numbers. -/
namespace Go.Proofs.Ytbgohbinonkhfaa.Pure
open Go.RowKit Go.Proofs.Ytbgohbinonkhfaa.Q Go.Proofs.YtbgohbinonkhfaaW.PrintWords Go.Proofs.YtbgohbinonkhfaaW.PrintLast Go.Proofs.YtbgohbinonkhfaaW.PrintMore
set_option linter.unusedVariables false
set_option linter.unusedSimpArgs false

def byteI (n : Int) : Bool := decide (0 ≤ n) && decide (n ≤ 255)
def shapeI (w h p : Int) : Bool := decide (1 ≤ w ∧ w ≤ 16 ∧ 1 ≤ h ∧ h ≤ 16 ∧ 1 ≤ p ∧ p ≤ 4)
theorem shapeI_iff (w h p : Int) : shapeI w h p = true ↔ 1 ≤ w ∧ w ≤ 16 ∧ 1 ≤ h ∧ h ≤ 16 ∧ 1 ≤ p ∧ p ≤ 4 := by simp [shapeI]
def validI (w h p : Int) (d : List Int) : Bool := shapeI w h p && (decide ((d.length : Int) = w * h * p) && d.all byteI)
theorem validI_iff (w h p : Int) (d : List Int) : validI w h p d = true ↔ (1 ≤ w ∧ w ≤ 16 ∧ 1 ≤ h ∧ h ≤ 16 ∧ 1 ≤ p ∧ p ≤ 4) ∧ (d.length : Int) = w * h * p ∧ ∀ n ∈ d, 0 ≤ n ∧ n ≤ 255 := by
  simp [validI, shapeI_iff, byteI, and_assoc]
theorem shape_prod {w h p : Int} (hs : 1 ≤ w ∧ w ≤ 16 ∧ 1 ≤ h ∧ h ≤ 16 ∧ 1 ≤ p ∧ p ≤ 4) : 0 ≤ w * h ∧ w * h ≤ 256 ∧ 0 ≤ w * h * p ∧ w * h * p ≤ 1024 := by
  have h1 : 0 ≤ w * h := Int.mul_nonneg (by omega) (by omega)
  have h2 : w * h ≤ 16 * 16 := Int.mul_le_mul (by omega) (by omega) (by omega) (by omega)
  have h3 : 0 ≤ w * h * p := Int.mul_nonneg h1 (by omega)
  have h4 : w * h * p ≤ 256 * 4 := Int.mul_le_mul (by omega) (by omega) (by omega) (by omega)
  omega
theorem shape_wrap {w h p : Int} (hs : 1 ≤ w ∧ w ≤ 16 ∧ 1 ≤ h ∧ h ≤ 16 ∧ 1 ≤ p ∧ p ≤ 4) : wrap64 (wrap64 (w * h) * p) = w * h * p := by
  have := shape_prod hs
  rw [w64 (x := w * h) (by omega) (by omega), w64 (by omega) (by omega)]
theorem impl_isSide_eq (a : Int) : impl_isSide.f a = some (decide (1 ≤ a ∧ a ≤ 16)) := by
  unfold impl_isSide.f
  by_cases c : a ≥ 1
  · rw [if_pos c]; congr 1; rw [decide_eq_decide]; omega
  · rw [if_neg c, decide_eq_false (by omega)]
theorem impl_isShape_eq (w h p : Int) : impl_isShape.f w h p = some (shapeI w h p) := by
  unfold impl_isShape.f shapeI
  rw [impl_isSide_eq, impl_isSide_eq]
  simp only [Option.bind_some]
  by_cases c1 : 1 ≤ w ∧ w ≤ 16
  · rw [if_pos (by simpa using c1)]
    by_cases c2 : 1 ≤ h ∧ h ≤ 16
    · rw [if_pos (by simpa using c2)]
      by_cases c3 : p ≥ 1
      · rw [if_pos c3]; congr 1; rw [decide_eq_decide]; omega
      · rw [if_neg c3, decide_eq_false (by omega)]
    · rw [if_neg (by simpa using c2), decide_eq_false (by omega)]
  · rw [if_neg (by simpa using c1), decide_eq_false (by omega)]
theorem areBytesI_eq (l : List Int) : impl_areBytes.f l = some (l.all byteI) := by
  unfold impl_areBytes.f
  congr 1
  rw [List.not_any_eq_all_not]
  congr 1
  funext n
  unfold notByte byteI
  rw [Bool.eq_iff_iff]
  simp
theorem impl_isImage_eq (w h p : Int) (d : List Int) : impl_isImage.f w h p d = some (validI w h p d) := by
  unfold impl_isImage.f validI
  rw [impl_isShape_eq, areBytesI_eq]
  simp only [Option.bind_some]
  by_cases c : shapeI w h p = true
  · rw [if_pos c, shape_wrap ((shapeI_iff w h p).1 c), c]
    by_cases e : (d.length : Int) = w * h * p
    · rw [if_pos e, decide_eq_true e]; rfl
    · rw [if_neg e, decide_eq_false e]; rfl
  · rw [if_neg c, Bool.eq_false_iff.2 c]; rfl
theorem spec_inRangeI_eq (n a b : Int) : spec_inRange.f n a b = some (decide (a ≤ n) && decide (n ≤ b)) := by
  unfold spec_inRange.f
  by_cases c : a ≤ n
  · rw [if_pos c, decide_eq_true c, Bool.true_and]
  · rw [if_neg c, decide_eq_false c, Bool.false_and]
theorem spec_validShape_eq (w h p : Int) : spec_validShape.f w h p = some (shapeI w h p) := by
  unfold spec_validShape.f shapeI
  rw [spec_inRangeI_eq, spec_inRangeI_eq, spec_inRangeI_eq]
  simp only [Option.bind_some]
  by_cases c1 : 1 ≤ w ∧ w ≤ 16
  · rw [if_pos (by simpa using c1)]
    by_cases c2 : 1 ≤ h ∧ h ≤ 16
    · rw [if_pos (by simpa using c2)]; congr 1; rw [Bool.eq_iff_iff]; simp; omega
    · rw [if_neg (by simpa using c2), decide_eq_false (by omega)]
  · rw [if_neg (by simpa using c1), decide_eq_false (by omega)]
theorem spec_allInI_ev (l : List Int) (hl : l.length ≤ 1000000000000) : Ev (fun k => spec_allIn.f k l 0 255) (l.all byteI) := by
  have key := ev_up l.length (fun k i (_ : Unit) => spec_allIn.l0 k l 0 255 (i : Int)) (fun _ _ => True) (fun i _ => (l.drop i).all byteI)
    (by
      intro i s hi _
      have hd : (l.drop i).all byteI = (byteI l[i] && (l.drop (i + 1)).all byteI) := by rw [List.drop_eq_getElem_cons hi, List.all_cons]
      cases hb : byteI l[i] with
      | true =>
        right
        refine ⟨(), fun k => ?_, trivial, by rw [hd, hb, Bool.true_and]⟩
        simp only [spec_allIn.l0]
        rw [if_pos (by omega), if_pos (by omega), rd_nat l i hi, spec_inRangeI_eq]
        simp only [Option.bind_some]
        rw [if_pos (show (decide (0 ≤ l[i]) && decide (l[i] ≤ 255)) = true from hb), w64n i (by omega)]
      | false =>
        left
        rw [hd, hb, Bool.false_and]
        refine Ev.step (f := fun _ => some false) (fun k => ?_) (Ev.now false)
        simp only [spec_allIn.l0]
        rw [if_pos (by omega), if_pos (by omega), rd_nat l i hi, spec_inRangeI_eq]
        simp only [Option.bind_some]
        rw [if_neg (Bool.eq_false_iff.1 (show (decide (0 ≤ l[i]) && decide (l[i] ≤ 255)) = false from hb))])
    (by
      intro s _
      rw [List.drop_length]
      refine Ev.step (f := fun _ => some true) (fun k => ?_) (Ev.now true)
      simp only [spec_allIn.l0]
      rw [if_neg (by omega)])
    l.length 0 () (by omega) trivial
  unfold spec_allIn.f
  simpa using key
theorem spec_validImage_ev (w h p : Int) (d : List Int) (hl : d.length ≤ 1000000000000) : Ev (fun k => spec_validImage.f k w h p d) (validI w h p d) := by
  unfold spec_validImage.f validI
  refine ev_now (spec_validShape_eq w h p) ?_
  by_cases c : shapeI w h p = true
  · refine ev_pos c ?_
    rw [shape_wrap ((shapeI_iff w h p).1 c), c, Bool.true_and]
    by_cases e : (d.length : Int) = w * h * p
    · refine ev_pos e ?_
      rw [decide_eq_true e, Bool.true_and]
      exact ev_bind (spec_allInI_ev d hl) (Ev.now _)
    · refine ev_neg e ?_
      rw [decide_eq_false e]
      exact Ev.now _
  · refine ev_neg c ?_
    rw [Bool.eq_false_iff.2 c]
    exact Ev.now _
end Go.Proofs.Ytbgohbinonkhfaa.Pure

/- A pixel's numbers, and where they lie. -/
namespace Go.Proofs.Ytbgohbinonkhfaa.Pure
open Go.RowKit Go.Proofs.Ytbgohbinonkhfaa.Q Go.Proofs.YtbgohbinonkhfaaW.PrintWords Go.Proofs.YtbgohbinonkhfaaW.PrintLast Go.Proofs.YtbgohbinonkhfaaW.PrintMore
set_option linter.unusedVariables false
set_option linter.unusedSimpArgs false

/-- where a pixel's numbers begin -/
def pixJ (a p : Int) (x y : Nat) : Int := wrap64 ((wrap64 ((wrap64 ((y : Int) * a)) + (x : Int))) * p)
theorem pixJ_is {a b p : Int} {d : List Int} (hv : validI a b p d = true) {x y : Nat} (hx : (x : Int) < a) (hy : (y : Int) < b) : 0 ≤ pixJ a p x y ∧ pixJ a p x y ≤ 1024 ∧ pixJ a p x y = ((y : Int) * a + x) * p ∧ pixJ a p x y + p ≤ (d.length : Int) := by
  have h := (validI_iff a b p d).1 hv
  have hp := shape_prod h.1
  have h1 : 0 ≤ (y : Int) * a := Int.mul_nonneg (by omega) (by omega)
  have h2 : (y : Int) * a ≤ (b - 1) * a := Int.mul_le_mul_of_nonneg_right (by omega) (by omega)
  have h3 : (b - 1) * a = a * b - a := by rw [Int.sub_mul, Int.mul_comm b a]; omega
  have h4 : 0 ≤ ((y : Int) * a + x) * p := Int.mul_nonneg (by omega) (by omega)
  have h5 : ((y : Int) * a + x) * p ≤ (a * b - 1) * p := Int.mul_le_mul_of_nonneg_right (by omega) (by omega)
  have h6 : (a * b - 1) * p = a * b * p - p := by rw [Int.sub_mul]; omega
  have e : pixJ a p x y = ((y : Int) * a + x) * p := by
    unfold pixJ
    rw [w64 (x := (y : Int) * a) (by omega) (by omega), w64 (x := (y : Int) * a + (x : Int)) (by omega) (by omega), w64 (by omega) (by omega)]
  omega
theorem pixT_len (d : List Int) (j p : Int) : (pixT d j p).length ≤ d.length := by
  unfold pixT
  rw [List.length_drop, List.length_take]
  omega
end Go.Proofs.Ytbgohbinonkhfaa.Pure

/- impl.changed: the region of the pixels at which two images differ. -/
namespace Go.Proofs.Ytbgohbinonkhfaa.Q
open Go.RowKit Go.Proofs.YtbgohbinonkhfaaW.PrintWords Go.Proofs.YtbgohbinonkhfaaW.PrintLast Go.Proofs.YtbgohbinonkhfaaW.PrintMore
attribute [local go_sem] max2_int min2_int max_two min_two max_three min_three max_four min_four
set_option linter.unusedVariables false
set_option linter.unusedSimpArgs false
open Go.Proofs.Ytbgohbinonkhfaa.Pure

theorem yieldsC_img {ops : Array Oper} {S : World → Prop} {op : Oper} {a : Act} (hw : Region.wanted op (yielded ops a.tmps) = true) (x : Operand) (ho : op.op = .load 28 x)
    (B : Nat) (hx : a.eval x = .pointer (some ⟨B, 0, none⟩)) (cs : Array Value) (hS : ∀ w, S w → w.heap[B]? = some (.cells cs 28 (0, 0))) (hn : cs.size = 4) : YieldsIf Try.prog ops S op (.agg cs) a :=
  .inl ⟨hw, fun w hw' => by
    unfold execOp
    simp only [ho, hx, Instr.loadAt, Instr.sureAddr, Sem.run_bind, Sem.run_pure, Result.andThen_ok, run_loadVar_row w B 28 28 cs (0, 0) _ (hS w hw') Try.underlying28 rfl (by rw [hn]; kernel_rfl)]⟩
theorem yieldsC_int {ops : Array Oper} {S : World → Prop} {op : Oper} {a : Act} (hw : Region.wanted op (yielded ops a.tmps) = true) (x : Operand) (ho : op.op = .load 3 x)
    (ad : Addr) (hx : a.eval x = .pointer (some ad)) (v : Int) (hS : ∀ w, S w → w.cell? ad = some (.int .i64 v)) : YieldsIf Try.prog ops S op (.int .i64 v) a :=
  .inl ⟨hw, fun w hw' => by
    have h := hS w hw'
    unfold execOp
    simp only [ho, hx]
    go_simp⟩
theorem equalI (l m : List Int) (hl : l.length ≤ 1000000) (k : Nat) (hk : l.length < k) : slices_Equal_int_int.f k l m = some (decide (l = m)) := by
  unfold slices_Equal_int_int.f
  by_cases hn : l.length = m.length
  · rw [if_pos (by omega)]
    have key := loop_up 0 l.length (fun k i (_ : Unit) => slices_Equal_int_int.l0 k l m (l.length : Int) (i : Int)) (fun _ _ => True) (fun i _ => decide (l.drop i = m.drop i))
      (by
        intro i s k hi _ _
        have e1 := List.drop_eq_getElem_cons hi
        have e2 := List.drop_eq_getElem_cons (show i < m.length by omega)
        by_cases c : l[i] = m[i]'(by omega)
        · refine .inr ⟨(), ?_, trivial, ?_⟩
          · simp only [slices_Equal_int_int.l0]
            rw [if_pos (by omega), if_pos (by omega), if_pos (by omega), if_pos (by omega), rd_nat l i hi, rd_nat m i (by omega), if_pos c, w64n i (by omega)]
          · rw [e1, e2, decide_eq_decide, List.cons.injEq]
            exact ⟨fun h => ⟨c, h⟩, fun h => h.2⟩
        · left
          simp only [slices_Equal_int_int.l0]
          rw [if_pos (by omega), if_pos (by omega), if_pos (by omega), if_pos (by omega), rd_nat l i hi, rd_nat m i (by omega), if_neg c, e1, e2, decide_eq_false (by rw [List.cons.injEq]; exact fun h => c h.1)])
      (by
        intro s k _ _
        simp only [slices_Equal_int_int.l0]
        rw [if_neg (by omega), List.drop_length, hn, List.drop_length]
        rfl)
      l.length 0 () k (by omega) trivial (by omega)
    simpa using key
  · rw [if_neg (by omega), decide_eq_false (fun h => hn (by rw [h]))]
def chg (a b p : Int) (d1 d2 : List Int) (x y : Nat) : Bool := decide ((x : Int) < a) && (decide ((y : Int) < b) && !(decide (pixT d1 (pixJ a p x y) p = pixT d2 (pixJ a p x y) p)))
theorem chg_in (a b p : Int) (d1 d2 : List Int) (x y : Nat) (hx : (x : Int) < a) (hy : (y : Int) < b) : chg a b p d1 d2 x y = !(decide (pixT d1 (pixJ a p x y) p = pixT d2 (pixJ a p x y) p)) := by
  unfold chg; rw [decide_eq_true hx, decide_eq_true hy, Bool.true_and, Bool.true_and]

set_option maxHeartbeats 4000000 in
set_option maxRecDepth 100000 in
theorem changed1_calls (a b p : Int) (A1 A2 : Option Addr) (c1 c2 : Nat) (d1 d2 : List Int) (hv1 : validI a b p d1 = true) (hv2 : validI a b p d2 = true) (hc1 : d1.length ≤ c1) (hc2 : d2.length ≤ c2) (x y : Nat) (hx : x < 16) (hy : y < 16) (B1 B2 : Nat) (w : World)
    (h1 : w.heap[B1]? = some (.cells #[.int .i64 a, .int .i64 b, .int .i64 p, .slice A1 d1.length c1] 28 (0, 0))) (h2 : w.heap[B2]? = some (.cells #[.int .i64 a, .int .i64 b, .int .i64 p, .slice A2 d2.length c2] 28 (0, 0)))
    (hr1 : Kd.C (Kd.int .i64) w A1 d1.length d1) (hr2 : Kd.C (Kd.int .i64) w A2 d2.length d2) :
    Calls Try.prog 93 #[.int .i64 (x : Int), .int .i64 (y : Int), .pointer (some ⟨B1, 0, none⟩), .pointer (some ⟨B2, 0, none⟩)] w fun e w' => e = .returned (.bool (chg a b p d1 d2 x y)) ∧ Below w.heap.size w w' := by
  have HB1 := Aside0.mk h1
  have HB2 := Aside0.mk h2
  have HR1 := Aside0.mk hr1
  have HR2 := Aside0.mk hr2
  by_cases cx : (x : Int) < a
  · have dx : decide ((x : Int) < a) = true := decide_eq_true cx
    by_cases cy : (y : Int) < b
    · have dy : decide ((y : Int) < b) = true := decide_eq_true cy
      obtain ⟨j, hj⟩ : ∃ j, pixJ a p x y = j := ⟨_, rfl⟩
      have hb1 := pixJ_is hv1 cx cy
      have hb2 := pixJ_is hv2 cx cy
      have hpp := ((validI_iff a b p d1).1 hv1).1
      rw [hj] at hb1 hb2
      have hw : wrap64 (j + p) = j + p := w64 (by omega) (by omega)
      obtain ⟨P1, q1, hq1, HA1⟩ := at_calls a b p A1 c1 d1 (x : Int) (y : Int) j hc1 hj (by omega) (by omega) (by omega)
      obtain ⟨P2, q2, hq2, HA2⟩ := at_calls a b p A2 c2 d2 (x : Int) (y : Int) j hc2 hj (by omega) (by omega) (by omega)
      have HP1 := Aside0.mk (HA1 w hr1).1
      have HP2 := Aside0.mk (HA2 w hr2).1
      replace HA1 := Aside0.mk HA1
      replace HA2 := Aside0.mk HA2
      have hlen : (pixT d1 j p).length ≤ 1000000 := by
        unfold pixT
        rw [List.length_drop, List.length_take]
        omega
      have HQ := Aside0.mk (fun (W : World) (k1 : Kd.C (Kd.int .i64) W P1 (pixT d1 j p).length (pixT d1 j p)) (k2 : Kd.C (Kd.int .i64) W P2 (pixT d2 j p).length (pixT d2 j p)) => slices_Equal_int_int.calls _ P1 q1 (pixT d1 j p) P2 q2 (pixT d2 j p) _ W k1 hq1 k2 hq2 (equalI _ _ hlen ((pixT d1 j p).length + 1) (by omega)))
      have HJ := Aside0.mk hj
      have HX := Aside0.mk cx
      have HY := Aside0.mk cy
      clear hb1 hb2 hpp hw hq1 hq2 hlen hv1 hv2 hj cx cy h1 h2 hr1 hr2
      go_enter Try.func93, Try.ntmps93
      go_wp2
      refine wp_region_held_drew (S := fun W => Aside0 (Below w.heap.size w W)) (by kernel_rfl) ⟨below_drew (Below.refl _ _)⟩ (fun hH => ?_)
      obtain ⟨W0, hW0⟩ : ∃ W, W = w.drew := ⟨_, rfl⟩
      rw [← hW0] at hH ⊢
      clear hW0
      refine wpAnyH_take (i := 0) (v := .int .i64 (x : Int)) rfl (by kernel_rfl) (by kernel_rfl) (by kernel_rfl) (fun _ _ _ h => h) (.inl ⟨by kernel_rfl, fun W hW => by first | (go_simp; done) | (go_simp; intro h_; omega)⟩) hH ?_
      simp only [Act.put, List.setIfInBounds_toArray, List.set_cons_zero, List.set_cons_succ, List.getElem_toArray, List.getElem_cons_zero, List.getElem_cons_succ]
      refine wpAnyH_take (i := 1) (v := .pointer (some ⟨B1, 0, none⟩)) rfl (by kernel_rfl) (by kernel_rfl) (by kernel_rfl) (fun _ _ _ h => h) (.inl ⟨by kernel_rfl, fun W hW => by first | (go_simp; done) | (go_simp; intro h_; omega)⟩) hH ?_
      simp only [Act.put, List.setIfInBounds_toArray, List.set_cons_zero, List.set_cons_succ, List.getElem_toArray, List.getElem_cons_zero, List.getElem_cons_succ]
      refine wpAnyH_take (i := 2) rfl (by kernel_rfl) (by kernel_rfl) (by kernel_rfl) (fun _ _ _ h => h) (yieldsC_int (by kernel_rfl) _ rfl ⟨B1, 0, none⟩ rfl a (fun W hW => (blk_cell (blk_below HB1.out hW.out) 0).trans rfl)) hH ?_
      simp only [Act.put, List.setIfInBounds_toArray, List.set_cons_zero, List.set_cons_succ, List.getElem_toArray, List.getElem_cons_zero, List.getElem_cons_succ]
      refine wpAnyH_take (i := 3) (v := .bool true) rfl (by kernel_rfl) (by kernel_rfl) (by kernel_rfl) (fun _ _ _ h => h) (.inl ⟨by kernel_rfl, fun W hW => by first | (go_simp; done) | (go_simp; intro h_; omega)⟩) hH ?_
      simp only [Act.put, List.setIfInBounds_toArray, List.set_cons_zero, List.set_cons_succ, List.getElem_toArray, List.getElem_cons_zero, List.getElem_cons_succ]
      refine wpAnyH_take (i := 4) (v := .bool true) rfl (by kernel_rfl) (by kernel_rfl) (by kernel_rfl) (fun _ _ _ h => h) (.inl ⟨by kernel_rfl, fun W hW => by first | (go_simp; done) | (go_simp; intro h_; omega)⟩) hH ?_
      simp only [Act.put, List.setIfInBounds_toArray, List.set_cons_zero, List.set_cons_succ, List.getElem_toArray, List.getElem_cons_zero, List.getElem_cons_succ]
      refine wpAnyH_take (i := 5) (v := .int .i64 (y : Int)) rfl (by kernel_rfl) (by kernel_rfl) (by kernel_rfl) (fun _ _ _ h => h) (.inl ⟨by kernel_rfl, fun W hW => by first | (go_simp; done) | (go_simp; intro h_; omega)⟩) hH ?_
      simp only [Act.put, List.setIfInBounds_toArray, List.set_cons_zero, List.set_cons_succ, List.getElem_toArray, List.getElem_cons_zero, List.getElem_cons_succ]
      refine wpAnyH_take (i := 6) (v := .pointer (some ⟨B1, 1, none⟩)) rfl (by kernel_rfl) (by kernel_rfl) (by kernel_rfl) (fun _ _ _ h => h) (.inl ⟨by kernel_rfl, fun W hW => by first | (go_simp; done) | (go_simp; intro h_; omega)⟩) hH ?_
      simp only [Act.put, List.setIfInBounds_toArray, List.set_cons_zero, List.set_cons_succ, List.getElem_toArray, List.getElem_cons_zero, List.getElem_cons_succ]
      refine wpAnyH_take (i := 7) rfl (by kernel_rfl) (by kernel_rfl) (by kernel_rfl) (fun _ _ _ h => h) (yieldsC_int (by kernel_rfl) _ rfl ⟨B1, 1, none⟩ rfl b (fun W hW => (blk_cell (blk_below HB1.out hW.out) 1).trans rfl)) hH ?_
      simp only [Act.put, List.setIfInBounds_toArray, List.set_cons_zero, List.set_cons_succ, List.getElem_toArray, List.getElem_cons_zero, List.getElem_cons_succ]
      refine wpAnyH_take (i := 8) (v := .bool true) rfl (by kernel_rfl) (by kernel_rfl) (by kernel_rfl) (fun _ _ _ h => h) (.inl ⟨by kernel_rfl, fun W hW => by first | (go_simp; done) | (go_simp; intro h_; omega)⟩) hH ?_
      simp only [Act.put, List.setIfInBounds_toArray, List.set_cons_zero, List.set_cons_succ, List.getElem_toArray, List.getElem_cons_zero, List.getElem_cons_succ]
      refine wpAnyH_take (i := 9) (v := .bool true) rfl (by kernel_rfl) (by kernel_rfl) (by kernel_rfl) (fun _ _ _ h => h) (.inl ⟨by kernel_rfl, fun W hW => by first | (go_simp; done) | (go_simp; intro h_; omega)⟩) hH ?_
      simp only [Act.put, List.setIfInBounds_toArray, List.set_cons_zero, List.set_cons_succ, List.getElem_toArray, List.getElem_cons_zero, List.getElem_cons_succ]
      refine wpAnyH_take (i := 10) (v := .bool true) rfl (by kernel_rfl) (by kernel_rfl) (by kernel_rfl) (fun _ _ _ h => h) (.inl ⟨by kernel_rfl, fun W hW => by first | (go_simp; done) | (go_simp; intro h_; omega)⟩) hH ?_
      simp only [Act.put, List.setIfInBounds_toArray, List.set_cons_zero, List.set_cons_succ, List.getElem_toArray, List.getElem_cons_zero, List.getElem_cons_succ]
      refine wpAnyH_take (i := 11) rfl (by kernel_rfl) (by kernel_rfl) (by kernel_rfl) (fun _ _ _ h => h) (yieldsC_img (by kernel_rfl) _ rfl B1 rfl #[.int .i64 a, .int .i64 b, .int .i64 p, .slice A1 d1.length c1] (fun W hW => blk_below HB1.out hW.out) rfl) hH ?_
      simp only [Act.put, List.setIfInBounds_toArray, List.set_cons_zero, List.set_cons_succ, List.getElem_toArray, List.getElem_cons_zero, List.getElem_cons_succ]
      refine wpAnyH_take (i := 12) (v := .int .i64 (x : Int)) rfl (by kernel_rfl) (by kernel_rfl) (by kernel_rfl) (fun _ _ _ h => h) (.inl ⟨by kernel_rfl, fun W hW => by first | (go_simp; done) | (go_simp; intro h_; omega)⟩) hH ?_
      simp only [Act.put, List.setIfInBounds_toArray, List.set_cons_zero, List.set_cons_succ, List.getElem_toArray, List.getElem_cons_zero, List.getElem_cons_succ]
      refine wpAnyH_take (i := 13) (v := .int .i64 (y : Int)) rfl (by kernel_rfl) (by kernel_rfl) (by kernel_rfl) (fun _ _ _ h => h) (.inl ⟨by kernel_rfl, fun W hW => by first | (go_simp; done) | (go_simp; intro h_; omega)⟩) hH ?_
      simp only [Act.put, List.setIfInBounds_toArray, List.set_cons_zero, List.set_cons_succ, List.getElem_toArray, List.getElem_cons_zero, List.getElem_cons_succ]
      refine wpAnyH_take (i := 15) rfl (by kernel_rfl) (by kernel_rfl) (by kernel_rfl) (fun _ _ _ h => h) (yieldsC_img (by kernel_rfl) _ rfl B2 rfl #[.int .i64 a, .int .i64 b, .int .i64 p, .slice A2 d2.length c2] (fun W hW => blk_below HB2.out hW.out) rfl) hH ?_
      simp only [Act.put, List.setIfInBounds_toArray, List.set_cons_zero, List.set_cons_succ, List.getElem_toArray, List.getElem_cons_zero, List.getElem_cons_succ]
      refine wpAnyH_take (i := 16) (v := .int .i64 (x : Int)) rfl (by kernel_rfl) (by kernel_rfl) (by kernel_rfl) (fun _ _ _ h => h) (.inl ⟨by kernel_rfl, fun W hW => by first | (go_simp; done) | (go_simp; intro h_; omega)⟩) hH ?_
      simp only [Act.put, List.setIfInBounds_toArray, List.set_cons_zero, List.set_cons_succ, List.getElem_toArray, List.getElem_cons_zero, List.getElem_cons_succ]
      refine wpAnyH_take (i := 17) (v := .int .i64 (y : Int)) rfl (by kernel_rfl) (by kernel_rfl) (by kernel_rfl) (fun _ _ _ h => h) (.inl ⟨by kernel_rfl, fun W hW => by first | (go_simp; done) | (go_simp; intro h_; omega)⟩) hH ?_
      simp only [Act.put, List.setIfInBounds_toArray, List.set_cons_zero, List.set_cons_succ, List.getElem_toArray, List.getElem_cons_zero, List.getElem_cons_succ]
      refine wpAnyH_ready (rs := [14]) (by kernel_rfl) (by simp) ?_
      refine AllReadyH.cons (i := 14) rfl ?_ AllReadyH.nil
      intro K hK
      rw [if_pos (by rfl)]
      go_simp
      go_wp2_with (first | (go_at_call 59; (with_reducible refine ((HA1.out _ (Kd.C_below HR1.out hH.out)).2).mono ?_); rintro e W1 ⟨rfl, hb⟩))
      refine hK.out _ _ ⟨below_then hH.out hH.out.size hb⟩ (fun hH1 => ?_)
      clear hK K hb hH
      have hH := hH1
      clear hH1
      try simp only [Act.put, List.setIfInBounds_toArray, List.set_cons_zero, List.set_cons_succ, List.getElem_toArray, List.getElem_cons_zero, List.getElem_cons_succ]
      refine wpAnyH_ready (rs := [18]) (by kernel_rfl) (by simp) ?_
      refine AllReadyH.cons (i := 18) rfl ?_ AllReadyH.nil
      intro K hK
      rw [if_pos (by rfl)]
      go_simp
      go_wp2_with (first | (go_at_call 59; (with_reducible refine ((HA2.out _ (Kd.C_below HR2.out hH.out)).2).mono ?_); rintro e W1 ⟨rfl, hb⟩))
      refine hK.out _ _ ⟨below_then hH.out hH.out.size hb⟩ (fun hH1 => ?_)
      clear hK K hb hH
      have hH := hH1
      clear hH1
      try simp only [Act.put, List.setIfInBounds_toArray, List.set_cons_zero, List.set_cons_succ, List.getElem_toArray, List.getElem_cons_zero, List.getElem_cons_succ]
      refine wpAnyH_ready (rs := [19]) (by kernel_rfl) (by simp) ?_
      refine AllReadyH.cons (i := 19) rfl ?_ AllReadyH.nil
      intro K hK
      rw [if_pos (by rfl)]
      go_simp
      go_wp2_with (first | (go_at_call 94; (with_reducible refine (HQ.out _ (Kd.C_below HP1.out hH.out) (Kd.C_below HP2.out hH.out)).mono ?_); rintro e W1 ⟨rfl, hd_⟩; have hb := hd_.below; clear hd_))
      refine hK.out _ _ ⟨below_then hH.out hH.out.size hb⟩ (fun hH1 => ?_)
      clear hK K hb hH
      have hH := hH1
      clear hH1
      try simp only [Act.put, List.setIfInBounds_toArray, List.set_cons_zero, List.set_cons_succ, List.getElem_toArray, List.getElem_cons_zero, List.getElem_cons_succ]
      refine wpAnyH_take (i := 20) (v := .bool (!(decide (pixT d1 j p = pixT d2 j p)))) rfl (by kernel_rfl) (by kernel_rfl) (by kernel_rfl) (fun _ _ _ h => h) (.inl ⟨by kernel_rfl, fun W hW => by first | (go_simp; done) | (go_simp; intro h_; omega)⟩) hH ?_
      simp only [Act.put, List.setIfInBounds_toArray, List.set_cons_zero, List.set_cons_succ, List.getElem_toArray, List.getElem_cons_zero, List.getElem_cons_succ]
      refine wpAnyH_take (i := 21) (v := .bool (!(decide (pixT d1 j p = pixT d2 j p)))) rfl (by kernel_rfl) (by kernel_rfl) (by kernel_rfl) (fun _ _ _ h => h) (.inl ⟨by kernel_rfl, fun W hW => by first | (go_simp; done) | (go_simp; intro h_; omega)⟩) hH ?_
      simp only [Act.put, List.setIfInBounds_toArray, List.set_cons_zero, List.set_cons_succ, List.getElem_toArray, List.getElem_cons_zero, List.getElem_cons_succ]
      refine wpAnyH_take (i := 22) (v := .bool (!(decide (pixT d1 j p = pixT d2 j p)))) rfl (by kernel_rfl) (by kernel_rfl) (by kernel_rfl) (fun _ _ _ h => h) (.inl ⟨by kernel_rfl, fun W hW => by first | (go_simp; done) | (go_simp; intro h_; omega)⟩) hH ?_
      simp only [Act.put, List.setIfInBounds_toArray, List.set_cons_zero, List.set_cons_succ, List.getElem_toArray, List.getElem_cons_zero, List.getElem_cons_succ]
      refine wpAnyH_done (by kernel_rfl) ?_ _
      go_wp2
      go_ret
      exact ⟨by rw [chg_in a b p d1 d2 x y HX.out HY.out, HJ.out]; rfl, hH.out⟩
    · have dy : decide ((y : Int) < b) = false := decide_eq_false cy
      have e : chg a b p d1 d2 x y = false := by unfold chg; rw [dy, Bool.false_and, Bool.and_false]
      rw [e]
      have k0 := (blk_cell h1 0).trans rfl
      have k1 := (blk_cell h1 1).trans rfl
      clear hv1 hv2 cx cy h1 h2 hr1 hr2 e
      go_enter Try.func93, Try.ntmps93
      go_wp2
      go_quiet (fail)
      go_wp2
      go_ret
      exact ⟨rfl, pw_below_drewN (Below.refl _ _) _⟩
  · have dx : decide ((x : Int) < a) = false := decide_eq_false cx
    have e : chg a b p d1 d2 x y = false := by unfold chg; rw [dx, Bool.false_and]
    rw [e]
    have k0 := (blk_cell h1 0).trans rfl
    clear hv1 hv2 cx h1 h2 hr1 hr2 e
    go_enter Try.func93, Try.ntmps93
    go_wp2
    go_quiet (fail)
    go_wp2
    go_ret
    exact ⟨rfl, pw_below_drewN (Below.refl _ _) _⟩
set_option maxHeartbeats 1600000 in
set_option maxRecDepth 100000 in
theorem changed_calls (a b p : Int) (A1 A2 : Option Addr) (c1 c2 : Nat) (d1 d2 : List Int) (hv1 : validI a b p d1 = true) (hv2 : validI a b p d2 = true) (hc1 : d1.length ≤ c1) (hc2 : d2.length ≤ c2) (w : World) (hr1 : Kd.C (Kd.int .i64) w A1 d1.length d1) (hr2 : Kd.C (Kd.int .i64) w A2 d2.length d2) :
    Calls Try.prog 50 #[.agg #[.int .i64 a, .int .i64 b, .int .i64 p, .slice A1 d1.length c1], .agg #[.int .i64 a, .int .i64 b, .int .i64 p, .slice A2 d2.length c2]] w fun e w' => ∃ v0_ : Value, e = .returned (v0_) ∧ Kd.R k47 47 w' w.heap.size (fun _ => True) v0_ (runsL (gso (chg a b p d1 d2) 256)) ∧ Below w.heap.size w w' := by
  have HV1 := Aside0.mk hv1
  have HV2 := Aside0.mk hv2
  have HC1 := Aside0.mk hc1
  have HC2 := Aside0.mk hc2
  have HR1 := Aside0.mk hr1
  have HR2 := Aside0.mk hr2
  have HB0 := Aside0.mk (Below.refl w.heap.size w)
  clear hv1 hv2 hc1 hc2 hr1 hr2
  have hu := Try.underlying28
  go_enter Try.func50, Try.ntmps50
  go_wp2_with (first
    | ((with_reducible refine gate_dst (N := 2) rfl ?_); refine box_event ?hg (N := 2) ?hd (cs := #[.int .i64 a, .int .i64 b, .int .i64 p, .slice A1 d1.length c1]) (t := 28) ?hr ?_; (case hd => rfl); (case hg => rfl); (case hr => first | (go_simp; done) | (go_simp; rfl)); intro g1 hg_ w1 hbox hb; have HB1 := Aside0.mk (below_then HB0.out HB0.out.size hb); have K1 := Aside0.mk hbox; have Gg1 := Aside0.mk (show w.heap.size ≤ g1 from by rw [hg_]; exact HB0.out.size); clear hbox hb hg_)
    | ((with_reducible refine gate_dst (N := 3) rfl ?_); refine box_event ?hg (N := 3) ?hd (cs := #[.int .i64 a, .int .i64 b, .int .i64 p, .slice A2 d2.length c2]) (t := 28) ?hr ?_; (case hd => rfl); (case hg => rfl); (case hr => first | (go_simp; done) | (go_simp; rfl)); intro g2 hg_ w2 hbox hb; have HB2 := Aside0.mk (below_then HB1.out HB1.out.size hb); have K2 := Aside0.mk hbox; have K1b := Aside0.mk (blk_below K1.out hb); have Gg2 := Aside0.mk (show w.heap.size ≤ g2 from by rw [hg_]; exact HB1.out.size); have f0 : w2.cell? ⟨g1, 0, none⟩ = some (.int .i64 a) := (blk_cell K1b.out 0).trans rfl; have f1 : w2.cell? ⟨g1, 1, none⟩ = some (.int .i64 b) := (blk_cell K1b.out 1).trans rfl; have f2 : w2.cell? ⟨g1, 2, none⟩ = some (.int .i64 p) := (blk_cell K1b.out 2).trans rfl; have f3 : w2.cell? ⟨g1, 3, none⟩ = some (.slice A1 d1.length c1) := (blk_cell K1b.out 3).trans rfl; have e0 : w2.cell? ⟨g2, 0, none⟩ = some (.int .i64 a) := (blk_cell K2.out 0).trans rfl; have e1 : w2.cell? ⟨g2, 1, none⟩ = some (.int .i64 b) := (blk_cell K2.out 1).trans rfl; have e2 : w2.cell? ⟨g2, 2, none⟩ = some (.int .i64 p) := (blk_cell K2.out 2).trans rfl; have e3 : w2.cell? ⟨g2, 3, none⟩ = some (.slice A2 d2.length c2) := (blk_cell K2.out 3).trans rfl; clear hbox hb hg_)
    | (go_at_call 67; refine (gridBy_calls 93 #[.pointer (some ⟨g1, 0, none⟩), .pointer (some ⟨g2, 0, none⟩)] (chg a b p d1 d2) w2 (enters_of Try.func93 (by kernel_rfl) rfl) (fun W x y hx hy hW => changed1_calls a b p A1 A2 c1 c2 d1 d2 HV1.out HV2.out HC1.out HC2.out x y hx hy g1 g2 W (blk_below K1b.out hW) (blk_below K2.out hW) (Kd.C_below (Kd.C_below HR1.out HB2.out) hW) (Kd.C_below (Kd.C_below HR2.out HB2.out) hW))).mono ?_; rintro e w5 ⟨rfl, hb5⟩; have HB5 := Aside0.mk (below_then HB2.out HB2.out.size hb5); clear hb5)
    | (go_at_call 71; refine (runs_calls _ _).mono ?_; rintro e w6 ⟨v6, rfl, hr6, hb6⟩; have HR6 := Aside0.mk (Kd.R_lower hr6 HB5.out.size); have HB6 := Aside0.mk (below_then HB5.out HB5.out.size hb6); clear hb6 hr6))
  go_ret
  exact ⟨v6, rfl, HR6.out, HB6.out⟩
end Go.Proofs.Ytbgohbinonkhfaa.Q

namespace Go.Proofs.Ytbgohbinonkhfaa.Q
open Go.RowKit Go.Proofs.YtbgohbinonkhfaaW.PrintWords Go.Proofs.YtbgohbinonkhfaaW.PrintLast Go.Proofs.YtbgohbinonkhfaaW.PrintMore
attribute [local go_sem] max2_int min2_int max_two min_two max_three min_three max_four min_four
set_option linter.unusedVariables false
set_option linter.unusedSimpArgs false
/-! ### impl_alikeImages: function 49 -/
def impl_alikeImages.f (a0_0 : Int) (a0_1 : Int) (a0_2 : Int) (l0_3 : List Int) (a1_0 : Int) (a1_1 : Int) (a1_2 : Int) (l1_3 : List Int) : Option (Bool) := if a0_0 = a1_0 then (if a0_1 = a1_1 then (some (a0_2 == a1_2)) else (some false)) else (some false)
set_option maxHeartbeats 8000000 in
set_option maxRecDepth 100000 in
theorem impl_alikeImages.calls (a0_0 : Int) (a0_1 : Int) (a0_2 : Int) (A0_3 : Option Addr) (c0_3 : Nat) (l0_3 : List Int) (a1_0 : Int) (a1_1 : Int) (a1_2 : Int) (A1_3 : Option Addr) (c1_3 : Nat) (l1_3 : List Int) (r : Bool) (w : World) (hr0_3 : Kd.C (Kd.int .i64) w A0_3 l0_3.length l0_3) (hc0_3 : l0_3.length ≤ c0_3) (hr1_3 : Kd.C (Kd.int .i64) w A1_3 l1_3.length l1_3) (hc1_3 : l1_3.length ≤ c1_3) (h : impl_alikeImages.f a0_0 a0_1 a0_2 l0_3 a1_0 a1_1 a1_2 l1_3 = some r) :
    Calls Try.prog 49 #[.agg #[.int .i64 a0_0, .int .i64 a0_1, .int .i64 a0_2, .slice A0_3 l0_3.length c0_3], .agg #[.int .i64 a1_0, .int .i64 a1_1, .int .i64 a1_2, .slice A1_3 l1_3.length c1_3]] w fun e w' => e = .returned (.bool r) ∧ Below w.heap.size w w' := by
  have hu28 := Try.underlying28
  have HR0_3 := Aside0.mk hr0_3
  have HC0_3 := Aside0.mk hc0_3
  clear hr0_3 hc0_3
  have HR1_3 := Aside0.mk hr1_3
  have HC1_3 := Aside0.mk hc1_3
  clear hr1_3 hc1_3
  have HB := Aside0.mk (Below.refl w.heap.size w)
  have H : (if a0_0 = a1_0 then (if a0_1 = a1_1 then (some (a0_2 == a1_2)) else (some false)) else (some false)) = some r := h
  clear h
  by_cases c3 : a0_0 = a1_0
  · rw [if_pos c3] at H
    have c3b0 : (a0_0 == a1_0) = true := beq_iff_eq.mpr c3
    have c3b1 : (a0_0 != a1_0) = false := bne_eq_false_iff_eq.mpr c3
    clear c3
    by_cases c4 : a0_1 = a1_1
    · rw [if_pos c4] at H
      have c4b0 : (a0_1 == a1_1) = true := beq_iff_eq.mpr c4
      have c4b1 : (a0_1 != a1_1) = false := bne_eq_false_iff_eq.mpr c4
      clear c4
      obtain rfl := Option.some.inj H
      go_enter Try.func49, Try.ntmps49
      go_wp2_with (first | ((with_reducible refine gate_dst (N := 2) rfl ?_); refine box_event ?hg (N := 2) ?hd (cs := #[.int .i64 a0_0, .int .i64 a0_1, .int .i64 a0_2, .slice A0_3 l0_3.length c0_3]) (t := 28) ?hr ?_; (case hd => rfl); (case hg => rfl); (case hr => first | (go_simp; done) | (go_simp; rfl)); intro gb50001 hg w5 hbox hb; have n0_ := Aside0.mk (below_step (by repeat (first | (with_reducible first | exact HB.out | apply below_alloc | apply pw_below_drewN | apply below_drew1) | exact HB.out)) hb); have n1_ := Aside0.mk (hbox); have n2_ := Aside0.mk ((by rw [hg]; exact (below_size (by repeat (first | (with_reducible first | exact HB.out | apply below_alloc | apply pw_below_drewN | apply below_drew1) | exact HB.out))) : w.heap.size ≤ gb50001)); have n3_ := Aside0.mk ((by rw [hg]; exact (below_size (by repeat (first | (with_reducible first | exact HB.out | apply below_alloc | apply pw_below_drewN | apply below_drew1) | exact HB.out))) : w.heap.size ≤ gb50001)); clear HB; have HB := n0_; have BK50001 := n1_; have GW50001 := n2_; have GE50001 := n3_; clear n0_ n1_ n2_ n3_; clear hb hbox hg) | ((with_reducible refine gate_dst (N := 3) rfl ?_); refine box_event ?hg (N := 3) ?hd (cs := #[.int .i64 a1_0, .int .i64 a1_1, .int .i64 a1_2, .slice A1_3 l1_3.length c1_3]) (t := 28) ?hr ?_; (case hd => rfl); (case hg => rfl); (case hr => first | (go_simp; done) | (go_simp; rfl)); intro gb50002 hg w6 hbox hb; have n0_ := Aside0.mk (blk_below (g := gb50001) (o := .cells #[.int .i64 a0_0, .int .i64 a0_1, .int .i64 a0_2, .slice A0_3 l0_3.length c0_3] 28 (0, 0)) (by (with_reducible repeat (first | refine blk_drewN ?_ _ | refine blk_drew ?_ | refine blk_alloc ?_ _)); exact BK50001.out) hb); have n1_ := Aside0.mk (below_step (by repeat (first | (with_reducible first | exact HB.out | apply below_alloc | apply pw_below_drewN | apply below_drew1 | refine below_set ?_ GE50001.out) | exact HB.out)) hb); have n2_ := Aside0.mk (hbox); have n3_ := Aside0.mk ((by rw [hg]; exact (below_size (by repeat (first | (with_reducible first | exact HB.out | apply below_alloc | apply pw_below_drewN | apply below_drew1 | refine below_set ?_ GE50001.out) | exact HB.out))) : w.heap.size ≤ gb50002)); have n4_ := Aside0.mk ((by rw [hg]; exact (below_size (by repeat (first | (with_reducible first | exact HB.out | apply below_alloc | apply pw_below_drewN | apply below_drew1 | refine below_set ?_ GE50001.out) | exact HB.out))) : w.heap.size ≤ gb50002)); have n5_ := Aside0.mk ((by rw [hg]; exact Nat.ne_of_lt (blk_lt (g := gb50001) (o := .cells #[.int .i64 a0_0, .int .i64 a0_1, .int .i64 a0_2, .slice A0_3 l0_3.length c0_3] 28 (0, 0)) (by (with_reducible repeat (first | refine blk_drewN ?_ _ | refine blk_drew ?_ | refine blk_alloc ?_ _)); exact BK50001.out)) : gb50001 ≠ gb50002)); have n6_ := Aside0.mk ((by rw [hg]; exact Nat.ne_of_gt (blk_lt (g := gb50001) (o := .cells #[.int .i64 a0_0, .int .i64 a0_1, .int .i64 a0_2, .slice A0_3 l0_3.length c0_3] 28 (0, 0)) (by (with_reducible repeat (first | refine blk_drewN ?_ _ | refine blk_drew ?_ | refine blk_alloc ?_ _)); exact BK50001.out)) : gb50002 ≠ gb50001)); clear BK50001; clear HB; have BK50001 := n0_; have HB := n1_; have BK50002 := n2_; have GW50002 := n3_; have GE50002 := n4_; have NB50001_50002 := n5_; have NB50002_50001 := n6_; clear n0_ n1_ n2_ n3_ n4_ n5_ n6_; clear hb hbox hg; have hnb7 := NB50001_50002.out; have hnc7 := NB50002_50001.out; have hcz8_0 : w6.cell? ⟨gb50001, 0, none⟩ = some (.int .i64 a0_0) := (blk_cell BK50001.out 0).trans rfl; have hcz8_1 : w6.cell? ⟨gb50001, 1, none⟩ = some (.int .i64 a0_1) := (blk_cell BK50001.out 1).trans rfl; have hcz8_2 : w6.cell? ⟨gb50001, 2, none⟩ = some (.int .i64 a0_2) := (blk_cell BK50001.out 2).trans rfl; have hcz8_3 : w6.cell? ⟨gb50001, 3, none⟩ = some (.slice A0_3 l0_3.length c0_3) := (blk_cell BK50001.out 3).trans rfl; have hfz8_0 := blk_frozen BK50001.out 0; have hfz8_1 := blk_frozen BK50001.out 1; have hfz8_2 := blk_frozen BK50001.out 2; have hfz8_3 := blk_frozen BK50001.out 3; have hcz9_0 : w6.cell? ⟨gb50002, 0, none⟩ = some (.int .i64 a1_0) := (blk_cell BK50002.out 0).trans rfl; have hcz9_1 : w6.cell? ⟨gb50002, 1, none⟩ = some (.int .i64 a1_1) := (blk_cell BK50002.out 1).trans rfl; have hcz9_2 : w6.cell? ⟨gb50002, 2, none⟩ = some (.int .i64 a1_2) := (blk_cell BK50002.out 2).trans rfl; have hcz9_3 : w6.cell? ⟨gb50002, 3, none⟩ = some (.slice A1_3 l1_3.length c1_3) := (blk_cell BK50002.out 3).trans rfl; have hfz9_0 := blk_frozen BK50002.out 0; have hfz9_1 := blk_frozen BK50002.out 1; have hfz9_2 := blk_frozen BK50002.out 2; have hfz9_3 := blk_frozen BK50002.out 3))
      go_ret
      exact ⟨by first | rfl | (simp [errW_none, errW_some] <;> rfl) | (simp [*, errW_none, errW_some] <;> rfl), by repeat (first | (with_reducible first | exact HB.out | apply below_alloc | apply pw_below_drewN | apply below_drew1 | refine below_set ?_ GE50001.out | refine below_set ?_ GE50002.out) | exact HB.out)⟩
    · rw [if_neg c4] at H
      have c4b0 : (a0_1 == a1_1) = false := beq_eq_false_iff_ne.mpr c4
      have c4b1 : (a0_1 != a1_1) = true := bne_iff_ne.mpr c4
      obtain rfl := Option.some.inj H
      go_enter Try.func49, Try.ntmps49
      go_wp2_with (first | ((with_reducible refine gate_dst (N := 2) rfl ?_); refine box_event ?hg (N := 2) ?hd (cs := #[.int .i64 a0_0, .int .i64 a0_1, .int .i64 a0_2, .slice A0_3 l0_3.length c0_3]) (t := 28) ?hr ?_; (case hd => rfl); (case hg => rfl); (case hr => first | (go_simp; done) | (go_simp; rfl)); intro gb50001 hg w10 hbox hb; have n0_ := Aside0.mk (below_step (by repeat (first | (with_reducible first | exact HB.out | apply below_alloc | apply pw_below_drewN | apply below_drew1) | exact HB.out)) hb); have n1_ := Aside0.mk (hbox); have n2_ := Aside0.mk ((by rw [hg]; exact (below_size (by repeat (first | (with_reducible first | exact HB.out | apply below_alloc | apply pw_below_drewN | apply below_drew1) | exact HB.out))) : w.heap.size ≤ gb50001)); have n3_ := Aside0.mk ((by rw [hg]; exact (below_size (by repeat (first | (with_reducible first | exact HB.out | apply below_alloc | apply pw_below_drewN | apply below_drew1) | exact HB.out))) : w.heap.size ≤ gb50001)); clear HB; have HB := n0_; have BK50001 := n1_; have GW50001 := n2_; have GE50001 := n3_; clear n0_ n1_ n2_ n3_; clear hb hbox hg) | ((with_reducible refine gate_dst (N := 3) rfl ?_); refine box_event ?hg (N := 3) ?hd (cs := #[.int .i64 a1_0, .int .i64 a1_1, .int .i64 a1_2, .slice A1_3 l1_3.length c1_3]) (t := 28) ?hr ?_; (case hd => rfl); (case hg => rfl); (case hr => first | (go_simp; done) | (go_simp; rfl)); intro gb50002 hg w11 hbox hb; have n0_ := Aside0.mk (blk_below (g := gb50001) (o := .cells #[.int .i64 a0_0, .int .i64 a0_1, .int .i64 a0_2, .slice A0_3 l0_3.length c0_3] 28 (0, 0)) (by (with_reducible repeat (first | refine blk_drewN ?_ _ | refine blk_drew ?_ | refine blk_alloc ?_ _)); exact BK50001.out) hb); have n1_ := Aside0.mk (below_step (by repeat (first | (with_reducible first | exact HB.out | apply below_alloc | apply pw_below_drewN | apply below_drew1 | refine below_set ?_ GE50001.out) | exact HB.out)) hb); have n2_ := Aside0.mk (hbox); have n3_ := Aside0.mk ((by rw [hg]; exact (below_size (by repeat (first | (with_reducible first | exact HB.out | apply below_alloc | apply pw_below_drewN | apply below_drew1 | refine below_set ?_ GE50001.out) | exact HB.out))) : w.heap.size ≤ gb50002)); have n4_ := Aside0.mk ((by rw [hg]; exact (below_size (by repeat (first | (with_reducible first | exact HB.out | apply below_alloc | apply pw_below_drewN | apply below_drew1 | refine below_set ?_ GE50001.out) | exact HB.out))) : w.heap.size ≤ gb50002)); have n5_ := Aside0.mk ((by rw [hg]; exact Nat.ne_of_lt (blk_lt (g := gb50001) (o := .cells #[.int .i64 a0_0, .int .i64 a0_1, .int .i64 a0_2, .slice A0_3 l0_3.length c0_3] 28 (0, 0)) (by (with_reducible repeat (first | refine blk_drewN ?_ _ | refine blk_drew ?_ | refine blk_alloc ?_ _)); exact BK50001.out)) : gb50001 ≠ gb50002)); have n6_ := Aside0.mk ((by rw [hg]; exact Nat.ne_of_gt (blk_lt (g := gb50001) (o := .cells #[.int .i64 a0_0, .int .i64 a0_1, .int .i64 a0_2, .slice A0_3 l0_3.length c0_3] 28 (0, 0)) (by (with_reducible repeat (first | refine blk_drewN ?_ _ | refine blk_drew ?_ | refine blk_alloc ?_ _)); exact BK50001.out)) : gb50002 ≠ gb50001)); clear BK50001; clear HB; have BK50001 := n0_; have HB := n1_; have BK50002 := n2_; have GW50002 := n3_; have GE50002 := n4_; have NB50001_50002 := n5_; have NB50002_50001 := n6_; clear n0_ n1_ n2_ n3_ n4_ n5_ n6_; clear hb hbox hg; have hnb12 := NB50001_50002.out; have hnc12 := NB50002_50001.out; have hcz13_0 : w11.cell? ⟨gb50001, 0, none⟩ = some (.int .i64 a0_0) := (blk_cell BK50001.out 0).trans rfl; have hcz13_1 : w11.cell? ⟨gb50001, 1, none⟩ = some (.int .i64 a0_1) := (blk_cell BK50001.out 1).trans rfl; have hcz13_2 : w11.cell? ⟨gb50001, 2, none⟩ = some (.int .i64 a0_2) := (blk_cell BK50001.out 2).trans rfl; have hcz13_3 : w11.cell? ⟨gb50001, 3, none⟩ = some (.slice A0_3 l0_3.length c0_3) := (blk_cell BK50001.out 3).trans rfl; have hfz13_0 := blk_frozen BK50001.out 0; have hfz13_1 := blk_frozen BK50001.out 1; have hfz13_2 := blk_frozen BK50001.out 2; have hfz13_3 := blk_frozen BK50001.out 3; have hcz14_0 : w11.cell? ⟨gb50002, 0, none⟩ = some (.int .i64 a1_0) := (blk_cell BK50002.out 0).trans rfl; have hcz14_1 : w11.cell? ⟨gb50002, 1, none⟩ = some (.int .i64 a1_1) := (blk_cell BK50002.out 1).trans rfl; have hcz14_2 : w11.cell? ⟨gb50002, 2, none⟩ = some (.int .i64 a1_2) := (blk_cell BK50002.out 2).trans rfl; have hcz14_3 : w11.cell? ⟨gb50002, 3, none⟩ = some (.slice A1_3 l1_3.length c1_3) := (blk_cell BK50002.out 3).trans rfl; have hfz14_0 := blk_frozen BK50002.out 0; have hfz14_1 := blk_frozen BK50002.out 1; have hfz14_2 := blk_frozen BK50002.out 2; have hfz14_3 := blk_frozen BK50002.out 3))
      go_ret
      exact ⟨by first | rfl | (simp [errW_none, errW_some] <;> rfl) | (simp [*, errW_none, errW_some] <;> rfl), by repeat (first | (with_reducible first | exact HB.out | apply below_alloc | apply pw_below_drewN | apply below_drew1 | refine below_set ?_ GE50001.out | refine below_set ?_ GE50002.out) | exact HB.out)⟩
  · rw [if_neg c3] at H
    have c3b0 : (a0_0 == a1_0) = false := beq_eq_false_iff_ne.mpr c3
    have c3b1 : (a0_0 != a1_0) = true := bne_iff_ne.mpr c3
    obtain rfl := Option.some.inj H
    go_enter Try.func49, Try.ntmps49
    go_wp2_with (first | ((with_reducible refine gate_dst (N := 2) rfl ?_); refine box_event ?hg (N := 2) ?hd (cs := #[.int .i64 a0_0, .int .i64 a0_1, .int .i64 a0_2, .slice A0_3 l0_3.length c0_3]) (t := 28) ?hr ?_; (case hd => rfl); (case hg => rfl); (case hr => first | (go_simp; done) | (go_simp; rfl)); intro gb50001 hg w15 hbox hb; have n0_ := Aside0.mk (below_step (by repeat (first | (with_reducible first | exact HB.out | apply below_alloc | apply pw_below_drewN | apply below_drew1) | exact HB.out)) hb); have n1_ := Aside0.mk (hbox); have n2_ := Aside0.mk ((by rw [hg]; exact (below_size (by repeat (first | (with_reducible first | exact HB.out | apply below_alloc | apply pw_below_drewN | apply below_drew1) | exact HB.out))) : w.heap.size ≤ gb50001)); have n3_ := Aside0.mk ((by rw [hg]; exact (below_size (by repeat (first | (with_reducible first | exact HB.out | apply below_alloc | apply pw_below_drewN | apply below_drew1) | exact HB.out))) : w.heap.size ≤ gb50001)); clear HB; have HB := n0_; have BK50001 := n1_; have GW50001 := n2_; have GE50001 := n3_; clear n0_ n1_ n2_ n3_; clear hb hbox hg) | ((with_reducible refine gate_dst (N := 3) rfl ?_); refine box_event ?hg (N := 3) ?hd (cs := #[.int .i64 a1_0, .int .i64 a1_1, .int .i64 a1_2, .slice A1_3 l1_3.length c1_3]) (t := 28) ?hr ?_; (case hd => rfl); (case hg => rfl); (case hr => first | (go_simp; done) | (go_simp; rfl)); intro gb50002 hg w16 hbox hb; have n0_ := Aside0.mk (blk_below (g := gb50001) (o := .cells #[.int .i64 a0_0, .int .i64 a0_1, .int .i64 a0_2, .slice A0_3 l0_3.length c0_3] 28 (0, 0)) (by (with_reducible repeat (first | refine blk_drewN ?_ _ | refine blk_drew ?_ | refine blk_alloc ?_ _)); exact BK50001.out) hb); have n1_ := Aside0.mk (below_step (by repeat (first | (with_reducible first | exact HB.out | apply below_alloc | apply pw_below_drewN | apply below_drew1 | refine below_set ?_ GE50001.out) | exact HB.out)) hb); have n2_ := Aside0.mk (hbox); have n3_ := Aside0.mk ((by rw [hg]; exact (below_size (by repeat (first | (with_reducible first | exact HB.out | apply below_alloc | apply pw_below_drewN | apply below_drew1 | refine below_set ?_ GE50001.out) | exact HB.out))) : w.heap.size ≤ gb50002)); have n4_ := Aside0.mk ((by rw [hg]; exact (below_size (by repeat (first | (with_reducible first | exact HB.out | apply below_alloc | apply pw_below_drewN | apply below_drew1 | refine below_set ?_ GE50001.out) | exact HB.out))) : w.heap.size ≤ gb50002)); have n5_ := Aside0.mk ((by rw [hg]; exact Nat.ne_of_lt (blk_lt (g := gb50001) (o := .cells #[.int .i64 a0_0, .int .i64 a0_1, .int .i64 a0_2, .slice A0_3 l0_3.length c0_3] 28 (0, 0)) (by (with_reducible repeat (first | refine blk_drewN ?_ _ | refine blk_drew ?_ | refine blk_alloc ?_ _)); exact BK50001.out)) : gb50001 ≠ gb50002)); have n6_ := Aside0.mk ((by rw [hg]; exact Nat.ne_of_gt (blk_lt (g := gb50001) (o := .cells #[.int .i64 a0_0, .int .i64 a0_1, .int .i64 a0_2, .slice A0_3 l0_3.length c0_3] 28 (0, 0)) (by (with_reducible repeat (first | refine blk_drewN ?_ _ | refine blk_drew ?_ | refine blk_alloc ?_ _)); exact BK50001.out)) : gb50002 ≠ gb50001)); clear BK50001; clear HB; have BK50001 := n0_; have HB := n1_; have BK50002 := n2_; have GW50002 := n3_; have GE50002 := n4_; have NB50001_50002 := n5_; have NB50002_50001 := n6_; clear n0_ n1_ n2_ n3_ n4_ n5_ n6_; clear hb hbox hg; have hnb17 := NB50001_50002.out; have hnc17 := NB50002_50001.out; have hcz18_0 : w16.cell? ⟨gb50001, 0, none⟩ = some (.int .i64 a0_0) := (blk_cell BK50001.out 0).trans rfl; have hcz18_1 : w16.cell? ⟨gb50001, 1, none⟩ = some (.int .i64 a0_1) := (blk_cell BK50001.out 1).trans rfl; have hcz18_2 : w16.cell? ⟨gb50001, 2, none⟩ = some (.int .i64 a0_2) := (blk_cell BK50001.out 2).trans rfl; have hcz18_3 : w16.cell? ⟨gb50001, 3, none⟩ = some (.slice A0_3 l0_3.length c0_3) := (blk_cell BK50001.out 3).trans rfl; have hfz18_0 := blk_frozen BK50001.out 0; have hfz18_1 := blk_frozen BK50001.out 1; have hfz18_2 := blk_frozen BK50001.out 2; have hfz18_3 := blk_frozen BK50001.out 3; have hcz19_0 : w16.cell? ⟨gb50002, 0, none⟩ = some (.int .i64 a1_0) := (blk_cell BK50002.out 0).trans rfl; have hcz19_1 : w16.cell? ⟨gb50002, 1, none⟩ = some (.int .i64 a1_1) := (blk_cell BK50002.out 1).trans rfl; have hcz19_2 : w16.cell? ⟨gb50002, 2, none⟩ = some (.int .i64 a1_2) := (blk_cell BK50002.out 2).trans rfl; have hcz19_3 : w16.cell? ⟨gb50002, 3, none⟩ = some (.slice A1_3 l1_3.length c1_3) := (blk_cell BK50002.out 3).trans rfl; have hfz19_0 := blk_frozen BK50002.out 0; have hfz19_1 := blk_frozen BK50002.out 1; have hfz19_2 := blk_frozen BK50002.out 2; have hfz19_3 := blk_frozen BK50002.out 3))
    go_ret
    exact ⟨by first | rfl | (simp [errW_none, errW_some] <;> rfl) | (simp [*, errW_none, errW_some] <;> rfl), by repeat (first | (with_reducible first | exact HB.out | apply below_alloc | apply pw_below_drewN | apply below_drew1 | refine below_set ?_ GE50001.out | refine below_set ?_ GE50002.out) | exact HB.out)⟩

end Go.Proofs.Ytbgohbinonkhfaa.Q

/- impl.neighbours: the four neighbours of a pixel. -/
namespace Go.Proofs.Ytbgohbinonkhfaa.Q
open Go.RowKit Go.Proofs.YtbgohbinonkhfaaW.PrintWords Go.Proofs.YtbgohbinonkhfaaW.PrintLast Go.Proofs.YtbgohbinonkhfaaW.PrintMore
attribute [local go_sem] max2_int min2_int max_two min_two max_three min_three max_four min_four
set_option linter.unusedVariables false
set_option linter.unusedSimpArgs false
open Go.Proofs.Ytbgohbinonkhfaa.Pure

/-- neighbour i of a pixel, which may be anywhere -/
def nbI (x y : Int) (i : Nat) : Int × Int := match i with
  | 0 => (x - 1, y)
  | 1 => (x + 1, y)
  | 2 => (x, y - 1)
  | _ => (x, y + 1)
/-- whether the neighbours before i all have what h says -/
def nbAll (h : Int → Int → Bool) (x y : Int) : Bool := h (x - 1) y && h (x + 1) y && h x (y - 1) && h x (y + 1)
def nbAny (h : Int → Int → Bool) (x y : Int) : Bool := h (x - 1) y || h (x + 1) y || h x (y - 1) || h x (y + 1)
theorem nbAll_no {h : Int → Int → Bool} {x y : Int} (i : Nat) (hi : i < 4) (hf : h (nbI x y i).1 (nbI x y i).2 = false) : nbAll h x y = false := by
  unfold nbAll
  obtain rfl | rfl | rfl | rfl : i = 0 ∨ i = 1 ∨ i = 2 ∨ i = 3 := by omega
  all_goals (simp only [nbI] at hf; rw [hf]; simp)
theorem nbAll_yes {h : Int → Int → Bool} {x y : Int} (ha : ∀ i, i < 4 → h (nbI x y i).1 (nbI x y i).2 = true) : nbAll h x y = true := by
  unfold nbAll
  have h0 := ha 0 (by omega)
  have h1 := ha 1 (by omega)
  have h2 := ha 2 (by omega)
  have h3 := ha 3 (by omega)
  simp only [nbI] at h0 h1 h2 h3
  rw [h0, h1, h2, h3]; rfl
theorem nbAny_yes {h : Int → Int → Bool} {x y : Int} (i : Nat) (hi : i < 4) (hf : h (nbI x y i).1 (nbI x y i).2 = true) : nbAny h x y = true := by
  unfold nbAny
  obtain rfl | rfl | rfl | rfl : i = 0 ∨ i = 1 ∨ i = 2 ∨ i = 3 := by omega
  all_goals (simp only [nbI] at hf; rw [hf]; simp)
theorem nbAny_no {h : Int → Int → Bool} {x y : Int} (ha : ∀ i, i < 4 → h (nbI x y i).1 (nbI x y i).2 = false) : nbAny h x y = false := by
  unfold nbAny
  have h0 := ha 0 (by omega)
  have h1 := ha 1 (by omega)
  have h2 := ha 2 (by omega)
  have h3 := ha 3 (by omega)
  simp only [nbI] at h0 h1 h2 h3
  rw [h0, h1, h2, h3]; rfl
def nbv (x y : Int) : Value := .agg #[.int .i64 (x - 1), .int .i64 y, .int .i64 (x + 1), .int .i64 y, .int .i64 x, .int .i64 (y - 1), .int .i64 x, .int .i64 (y + 1)]

set_option maxHeartbeats 4000000 in
set_option maxRecDepth 100000 in
theorem neighbours_calls (x y : Int) (h0 : 0 ≤ x ∧ x < 16 ∧ 0 ≤ y ∧ y < 16) (w : World) :
    Calls Try.prog 98 #[.int .i64 x, .int .i64 y] w fun e w' => e = .returned (nbv x y) ∧ Below w.heap.size w w' := by
  have e1 : wrap64 (x - 1) = x - 1 := w64 (by omega) (by omega)
  have e2 : wrap64 (x + 1) = x + 1 := w64 (by omega) (by omega)
  have e3 : wrap64 (y - 1) = y - 1 := w64 (by omega) (by omega)
  have e4 : wrap64 (y + 1) = y + 1 := w64 (by omega) (by omega)
  have hB := Aside0.mk (below_alloc (Below.refl w.heap.size w) (.cells #[.int .i64 0, .int .i64 0, .int .i64 0, .int .i64 0, .int .i64 0, .int .i64 0, .int .i64 0, .int .i64 0] 104))
  clear h0
  go_enter Try.func98, Try.ntmps98
  go_wp2
  refine bodyPost_ret (results_cell_row rfl _ _ w.heap.size 104 #[.int .i64 (x - 1), .int .i64 y, .int .i64 (x + 1), .int .i64 y, .int .i64 x, .int .i64 (y - 1), .int .i64 x, .int .i64 (y + 1)] (0, 0) (.array 4 102) rfl (blk_new _ _) Try.underlying104 rfl (by kernel_rfl)) rfl ?_
  exact ⟨rfl, below_alloc (Below.refl _ _) _⟩
end Go.Proofs.Ytbgohbinonkhfaa.Q

/- (impl.grid).part: the pixels of a grid that are connected with one of its pixels. -/
namespace Go.Proofs.Ytbgohbinonkhfaa.Q
open Go.RowKit Go.Proofs.YtbgohbinonkhfaaW.PrintWords Go.Proofs.YtbgohbinonkhfaaW.PrintLast Go.Proofs.YtbgohbinonkhfaaW.PrintMore
attribute [local go_sem] max2_int min2_int max_two min_two max_three min_three max_four min_four
set_option linter.unusedVariables false
set_option linter.unusedSimpArgs false

def posI (q : Int × Int) : Nat := q.2.toNat * 16 + q.1.toNat
def kQ : Kd (Int × Int) := Kd.pair (Kd.int .i64) (Kd.int .i64)
def lenOf : Value → Nat
  | .slice _ n _ => n
  | _ => 0
def outOf (W : World) (B : Nat) (p : Nat) : Bool := match W.cell? ⟨B, p, none⟩ with
  | some (.bool b) => b
  | _ => false
theorem unseen_congr {o o' : Nat → Bool} (h : ∀ p, p < 256 → o p = o' p) : unseen o = unseen o' := by
  unfold unseen
  exact List.countP_congr (fun p hp => by rw [h p (by simpa using hp)])
theorem unseen_out {W : World} {B : Nat} {o : Nat → Bool} (h : GridAt W B o) : unseen (outOf W B) = unseen o := unseen_congr (fun p hp => by unfold outOf; rw [h.cell p hp])
theorem infoQ : (Try.prog.info? 102).map (fun i => (i.zero, i.size, i.bytes)) = some (some (.agg #[.int .i64 0, .int .i64 0]), 2, 16) := by kernel_rfl
theorem kQ_M (W : World) (base : Nat) (ok : Nat → Prop) (a b : Int) : kQ.M W base ok (a, b) [.int .i64 a, .int .i64 b] := ⟨[.int .i64 a], [.int .i64 b], rfl, rfl, rfl⟩
theorem yieldsP_grid {ops : Array Oper} {S : World → Prop} {op : Oper} {a : Act} (hw : Region.wanted op (yielded ops a.tmps) = true) (x : Operand) (ho : op.op = .load 75 x)
    (B : Nat) (hx : a.eval x = .pointer (some ⟨B, 0, none⟩)) (g : Nat → Bool) (hS : ∀ w, S w → GridAt w B g) : YieldsIf Try.prog ops S op (.agg (gc g)) a :=
  .inl ⟨hw, fun w hw' => by
    unfold execOp
    simp only [ho, hx, Instr.loadAt, Instr.sureAddr, Sem.run_bind, Sem.run_pure, Result.andThen_ok, run_loadVar_row w B 75 75 (gc g) (0, 0) (.array 16 73) (hS w hw') underlying66 rfl (by rw [gc_size]; exact info66)]⟩
theorem yieldsP_int {ops : Array Oper} {S : World → Prop} {op : Oper} {a : Act} (hw : Region.wanted op (yielded ops a.tmps) = true) (x : Operand) (ho : op.op = .load 3 x)
    (ad : Addr) (hx : a.eval x = .pointer (some ad)) (v : Int) (hS : ∀ w, S w → w.cell? ad = some (.int .i64 v)) : YieldsIf Try.prog ops S op (.int .i64 v) a :=
  .inl ⟨hw, fun w hw' => by
    have h := hS w hw'
    unfold execOp
    simp only [ho, hx]
    go_simp⟩
theorem yieldsP_bool {ops : Array Oper} {S : World → Prop} {op : Oper} {a : Act} (hw : Region.wanted op (yielded ops a.tmps) = true) (x : Operand) (ho : op.op = .load 4 x)
    (ad : Addr) (hx : a.eval x = .pointer (some ad)) (v : Bool) (hS : ∀ w, S w → w.cell? ad = some (.bool v)) : YieldsIf Try.prog ops S op (.bool v) a :=
  .inl ⟨hw, fun w hw' => by
    have h := hS w hw'
    unfold execOp
    simp only [ho, hx]
    go_simp⟩
theorem setRow_keepP {W : World} {k g : Nat} {o : Obj} (h : W.heap[k]? = some o) (cs : Array Value) (hk : k ≠ g) : (W.setRow g cs).heap[k]? = some o := (setRow_other W g k cs hk).trans h
def nbList (F : Nat → Int × Int) : List (Int × Int) := [F 0, F 1, F 2, F 3]
theorem nbList_drop (F : Nat → Int × Int) (i : Nat) (h : i < 4) : (nbList F).drop i = ((F i).1, (F i).2) :: (nbList F).drop (i + 1) := by
  obtain rfl | rfl | rfl | rfl : i = 0 ∨ i = 1 ∨ i = 2 ∨ i = 3 := by omega
  all_goals rfl
theorem nb_mem (x y : Int) (p r : Nat) (hx : x = ((p % 16 : Nat) : Int)) (hy : y = ((p / 16 : Nat) : Int)) (hp : p < 256) (hr : r < 256) (ha : Adj p r) : (((r % 16 : Nat) : Int), ((r / 16 : Nat) : Int)) ∈ nbList (nbI x y) := by
  have := adj_nb p r hp hr ha
  subst hx hy
  unfold nbList nbI
  simp only [List.mem_cons, Prod.mk.injEq]
  rcases this with h | h | h | h
  · exact .inl h
  · exact .inr (.inl h)
  · exact .inr (.inr (.inl h))
  · exact .inr (.inr (.inr (.inl h)))
theorem nb_near (x y : Int) (p i : Nat) (hx : x = ((p % 16 : Nat) : Int)) (hy : y = ((p / 16 : Nat) : Int)) (hp : p < 256) (hi : i < 4) (h0 : 0 ≤ (nbI x y i).1) (h1 : (nbI x y i).1 < 16) (h2 : 0 ≤ (nbI x y i).2) (h3 : (nbI x y i).2 < 16) :
    Adj p ((nbI x y i).2.toNat * 16 + (nbI x y i).1.toNat) := by
  subst hx hy
  refine nb_adj p hp _ _ h0 h1 h2 h3 ?_
  obtain rfl | rfl | rfl | rfl : i = 0 ∨ i = 1 ∨ i = 2 ∨ i = 3 := by omega
  · exact .inl ⟨rfl, rfl⟩
  · exact .inr (.inl ⟨rfl, rfl⟩)
  · exact .inr (.inr (.inl ⟨rfl, rfl⟩))
  · exact .inr (.inr (.inr ⟨rfl, rfl⟩))

set_option maxHeartbeats 1600000 in
set_option maxRecDepth 100000 in
theorem part_calls (g : Nat → Bool) (x y : Nat) (hx : x < 16) (hy : y < 16) (w : World) :
    Calls Try.prog 70 #[.agg (gc g), .int .i64 (x : Int), .int .i64 (y : Int)] w fun e w' => e = .returned (.agg (gc (comp g (y * 16 + x)))) ∧ Below w.heap.size w w' := by
  have z0 := zero66
  have HSZ := Aside0.mk (fun g g' : Nat → Bool => show (gc g).size = (gc g').size by rw [gc_size, gc_size])
  have HO := Aside0.mk (fun g : Nat → Bool => gc_one g)
  have HI := Aside0.mk (fun g : Nat → Bool => show (Try.prog.info? 75).map (·.size) = some (gc g).size by rw [gc_size]; exact info66)
  go_enter Try.func70, Try.ntmps70
  have hz2 : (((w.alloc (.cells (gc g) 75)).alloc (.cells (gc fun _ => false) 75)).alloc (.cells (gc fun _ => false) 75)).heap[w.heap.size + 2]? = some (.cells (gc fun _ => false) 75 (0, 0)) := by
    have h := GridAt.new ((w.alloc (.cells (gc g) 75)).alloc (.cells (gc fun _ => false) 75)) (fun _ => false)
    simp only [World.size_alloc] at h
    exact h
  have HZ1 := Aside0.mk (GridAt.alloc (GridAt.new (w.alloc (.cells (gc g) 75)) (fun _ => false)) (.cells (gc fun _ => false) 75))
  simp only [World.size_alloc] at HZ1
  have HZG := Aside0.mk (GridAt.alloc (GridAt.alloc (GridAt.new w g) (.cells (gc fun _ => false) 75)) (.cells (gc fun _ => false) 75))
  have HBa := Aside0.mk (below_alloc (below_alloc (below_alloc (Below.refl w.heap.size w) (.cells (gc g) 75)) (.cells (gc fun _ => false) 75)) (.cells (gc fun _ => false) 75))
  have HS := Aside0.mk (GridAt.setRow (g := fun _ => false) hz2 (fun _ => false))
  have hcc := HS.out.cell (y * 16 + x) (by omega)
  have hcf := HS.out.free (y * 16 + x)
  have HS2 := Aside0.mk (HS.out.set_ (y * 16 + x) true)
  have HS1 := Aside0.mk (blk_far (setRow_keepP HZ1.out (gc fun _ => false) (show w.heap.size + 1 ≠ w.heap.size + 2 by omega)) (show w.heap.size + 1 ≠ (⟨w.heap.size + 2, y * 16 + x, none⟩ : Addr).block by simp) (.bool true))
  have HSG := Aside0.mk (blk_far (setRow_keepP HZG.out (gc fun _ => false) (show w.heap.size ≠ w.heap.size + 2 by omega)) (show w.heap.size ≠ (⟨w.heap.size + 2, y * 16 + x, none⟩ : Addr).block by simp) (.bool true))
  have HBs := Aside0.mk (below_set (g := w.heap.size + 2) (j := y * 16 + x) (v := .bool true) (below_setRow (g := w.heap.size + 2) HBa.out (by omega) (gc fun _ => false)) (by omega))
  have HZ2 := Aside0.mk hz2
  clear hz2 HS HZ1 HZG HBa
  go_wp2_with (first
    | ((with_reducible refine wpList_store_row rfl 75 (.tmp 7) (.tmp 12) rfl (w.heap.size + 2) (gc fun _ => false) ?hx ?hy 75 (gc fun _ => false) HZ2.out (HI.out _) (HSZ.out _ _) (HO.out _) ?_); (case hx => rfl); (case hy => rfl))
    | ((with_reducible refine gate_dst (N := 20) rfl ?_); refine Kd.R_lit kQ w.heap.size 102 ?hg (N := 20) ?hd (xs := [((x : Int), (y : Int))]) (inner := [.int .i64 (x : Int), .int .i64 (y : Int)]) (ok := fun _ => True) (okp := fun _ => True) ?hr ?hp (fun _ hk => hk) trivial HBs.out HBs.out.size (by simp) ?_; (case hd => rfl); (case hg => rfl); (case hr => first | (go_simp; done) | (go_simp; rfl)); (case hp => exact Reps.snoc (Reps.none _ _) (kQ_M _ _ _ _ _) rfl); intro v20 W0 ho hb hg_ hnew_; have HQ0 := Aside0.mk (Kd.Q_of_R ho); have HB0 := Aside0.mk hb; have HG0 : Aside0 (GridAt W0 w.heap.size g) := Aside0.mk (blk_grown HSG.out hg_ (by simp)); have HZ0 : Aside0 (GridAt W0 (w.heap.size + 1) (fun _ => false)) := Aside0.mk (blk_grown HS1.out hg_ (by simp)); have HX0 := Aside0.mk (blk_grown HS2.out hg_ (by simp)); clear ho hb hg_ hnew_))
  have hinit : (fun p => if p = y * 16 + x then true else false) = fun q => decide (q = y * 16 + x) := by
    funext p
    by_cases e : p = y * 16 + x
    · rw [if_pos e, decide_eq_true e]
    · rw [if_neg e, decide_eq_false e]
  have HM0 := Aside0.mk (mid_init g (y * 16 + x) (by omega))
  rw [← hinit] at HM0
  have HU0 : unseen (fun p => if p = y * 16 + x then true else false) + 1 = 256 := by
    have h := unseen_set (fun _ => false) (y * 16 + x) (by omega) rfl
    have h2 : unseen (fun _ => false) = 256 := by simp [unseen]
    rw [h2] at h
    exact h
  clear hinit
  go_loopw [8] (fun v8 W => ∃ (out : Nat → Bool) (qs : List (Int × Int)) (p0 : Nat), Aside0 (kQ.Q 102 W w.heap.size (fun _ => True) v8 qs ∧ GridAt W w.heap.size g ∧ GridAt W (w.heap.size + 1) (fun _ => false) ∧ GridAt W (w.heap.size + 2) out ∧ Below w.heap.size w W) ∧ Aside0 (Mid g (y * 16 + x) out (qs.map posI) p0 [] ∧ (∀ q ∈ qs, 0 ≤ q.1 ∧ q.1 < 16 ∧ 0 ≤ q.2 ∧ q.2 < 16) ∧ qs.length + unseen out ≤ 256)) (fun v8 W => 2 * unseen (outOf W (w.heap.size + 2)) + lenOf v8)
  case atStart =>
    refine ⟨_, _, y * 16 + x, ⟨HQ0.out, HG0.out, HZ0.out, HX0.out, HB0.out⟩, ⟨HM0.out, ?_, ?_⟩⟩
    · intro q hq
      rw [List.mem_singleton] at hq
      subst hq
      simp only
      omega
    · simp only [List.length_singleton]; omega
  case round =>
    obtain ⟨out, qs, p0, HW, HM⟩ := hrel
    clear HM0 HU0 HQ0 HB0 HG0 HZ0 HX0 HBs HSG HS1 HS2 HZ2 hcc hcf
    obtain ⟨wo, rfl⟩ : ∃ wo : World, wo = wr := ⟨_, rfl⟩
    have HMS := Aside0.mk (unseen_out HW.out.2.2.2.1)
    obtain ⟨A, c, rfl, hcl, hC⟩ := Kd.Q_reads HW.out.1
    cases qs with
    | nil =>
      have hgo : wo.heap[w.heap.size + 2]? = some (.cells (gc out) 75 (0, 0)) := HW.out.2.2.2.1
      have hgz : wo.heap[w.heap.size + 1]? = some (.cells (gc fun _ => false) 75 (0, 0)) := HW.out.2.2.1
      have hend := mid_end (g := g) (s := y * 16 + x) (by omega) HM.out.1
      have HE := Aside0.mk (gc_congr hend)
      clear hend hC hcl
      go_wp2_with (first
        | ((with_reducible refine gate_dst (N := 64) rfl ?_); refine wpList_load_row rfl 75 (.tmp 7) rfl (w.heap.size + 2) rfl 75 (gc out) (0, 0) (.array 16 73) hgo underlying66 rfl (HI.out _) ?_)
        | ((with_reducible refine wpList_store_row rfl 75 (.tmp 6) (.tmp 64) rfl (w.heap.size + 1) (gc out) ?hx ?hy 75 (gc fun _ => false) hgz (HI.out _) (HSZ.out _ _) (HO.out _) ?_); (case hx => rfl); (case hy => rfl)))
      refine bodyPost_ret (results_cell_row rfl _ _ (w.heap.size + 1) 75 (gc out) (0, 0) (.array 16 73) rfl (GridAt.setRow (g := fun _ => false) hgz out) underlying66 rfl (HI.out _)) rfl ?_
      exact ⟨by rw [HE.out], below_setRow HW.out.2.2.2.2 (Nat.le_succ _) _⟩
    | cons q0 rest =>
      obtain ⟨x0, y0⟩ := q0
      have hr := HM.out.2.1 (x0, y0) (by simp)
      simp only at hr
      obtain ⟨x0, rfl⟩ := Int.eq_ofNat_of_zero_le hr.1
      obtain ⟨y0, rfl⟩ := Int.eq_ofNat_of_zero_le hr.2.2.1
      have hx0 : x0 < 16 := by omega
      have hy0 : y0 < 16 := by omega
      clear hr
      obtain ⟨ad, hA, hrd⟩ := hC.2.2 (by simp)
      subst hA
      obtain ⟨cs, hcs, ⟨c0, c1, hcc, hk0, hk1⟩, hat⟩ := hrd 0 ((x0 : Int), (y0 : Int)) rfl
      have hk0' : c0 = [.int .i64 (x0 : Int)] := hk0
      have hk1' : c1 = [.int .i64 (y0 : Int)] := hk1
      subst hk0' hk1' hcc
      have ha0 := hat 0 _ rfl
      have ha1 := hat 1 _ rfl
      clear hat hrd hC hk0 hk1 hcs
      have hb0 : wo.cell? ad = some (.int .i64 (x0 : Int)) := by
        have e : ad.add (0 * kQ.sz + 0) = ad := by show ad.add 0 = ad; simp [Addr.add]
        rw [e] at ha0; exact ha0
      have hb1 : wo.cell? ⟨ad.block, ad.off + 1, none⟩ = some (.int .i64 (y0 : Int)) := by
        have e : ad.add (0 * kQ.sz + 1) = ⟨ad.block, ad.off + 1, none⟩ := by
          show ad.add 1 = _
          have h := add_field ad 0 1 (by omega)
          rw [Nat.zero_add] at h
          rw [h]; simp [Addr.add]
        rw [e] at ha1; exact ha1
      have hb2 : wo.cell? (ad.add 1) = some (.int .i64 (y0 : Int)) := ha1
      clear ha0 ha1
      obtain ⟨i0, hi0, _, hsz0, _⟩ := info_parts infoQ
      have hcut := cut_from (P := Try.prog) 103 102 .i64 Try.underlying103 hi0 2 hsz0 (some ad) (((x0 : Int), (y0 : Int)) :: rest).length c 1 (by omega) (by simp; omega)
      have hdrop := Kd.Q_drop (k := 1) HW.out.1 (by simp)
      obtain ⟨A1, hA1⟩ : ∃ A1, A1 = (if c = 1 then (some ad : Option Addr) else (some ad : Option Addr).map (·.add (1 * 2))) := ⟨_, rfl⟩
      obtain ⟨c1, hc1⟩ : ∃ c1, c1 = c - 1 := ⟨_, rfl⟩
      rw [show (1 : Int).toNat = 1 from rfl, ← hA1, ← hc1] at hcut
      have hdrop' : kQ.Q 102 wo w.heap.size (fun _ => True) (.slice A1 ((((x0 : Int), (y0 : Int)) :: rest).length - 1) c1) rest := by
        rw [hA1, hc1]; exact hdrop
      have HQ1 := Aside0.mk hdrop'
      clear hdrop hdrop' hA1 hc1 hi0 hsz0
      have hl1 : (((x0 : Int), (y0 : Int)) :: rest).length - 1 = rest.length := by simp
      rw [hl1] at hcut HQ1
      have HN := Aside0.mk (neighbours_calls (x0 : Int) (y0 : Int) (by omega))
      obtain ⟨n, hn⟩ : ∃ n, n = (((x0 : Int), (y0 : Int)) :: rest).length := ⟨_, rfl⟩
      rw [← hn] at hcut hcl ⊢
      have hnr : n = rest.length + 1 := by rw [hn]; simp
      have hnp : decide ((0 : Int) < (n : Int)) = true := by simp; omega
      have hn0 : (0 : Int) < (n : Int) := by omega
      clear hl1 hn
      have HBN := Aside0.mk (below_alloc (Below.refl wo.heap.size wo) (.cells #[.int .i64 (x0 : Int), .int .i64 (y0 : Int)] 102))
      have HCUT := Aside0.mk hcut
      clear hcut
      go_wp2_with (first
        | ((with_reducible refine gate_dst (N := 28) rfl ?_); refine Kd.event_run (v := .slice A1 rest.length c1) (w1 := wo.alloc (.cells #[.int .i64 (x0 : Int), .int .i64 (y0 : Int)] 102)) rfl ?hr ?_; (case hr => (have hc_ := HCUT.out (wo.alloc (.cells #[.int .i64 (x0 : Int), .int .i64 (y0 : Int)] 102)); simp [execOp, Act.eval, Instr.sliceAt, Result.andThen, hc_])))
        | (go_at_call 98; refine (HN.out _).mono ?_; rintro e w1 ⟨rfl, hb1⟩; have HB1 := Aside0.mk (below_then HBN.out HBN.out.size hb1); clear hb1))
      have HW1 := Aside0.mk (show kQ.Q 102 w1 w.heap.size (fun _ => True) (.slice A1 rest.length c1) rest ∧ GridAt w1 w.heap.size g ∧ GridAt w1 (w.heap.size + 1) (fun _ => false) ∧ GridAt w1 (w.heap.size + 2) out ∧ Below w.heap.size w w1 from
        ⟨Kd.Q_below HQ1.out HB1.out, HW.out.2.1.below HB1.out, HW.out.2.2.1.below HB1.out, HW.out.2.2.2.1.below HB1.out, below_then HW.out.2.2.2.2 HW.out.2.2.2.2.size HB1.out⟩)
      have hpe : posI ((x0 : Int), (y0 : Int)) = y0 * 16 + x0 := by simp [posI]
      have hpx : (x0 : Int) = (((y0 * 16 + x0) % 16 : Nat) : Int) := by omega
      have hpy : (y0 : Int) = (((y0 * 16 + x0) / 16 : Nat) : Int) := by omega
      have HM1 := Aside0.mk (show Mid g (y * 16 + x) out (rest.map posI) (y0 * 16 + x0) (nbList (nbI (x0 : Int) (y0 : Int))) from
        mid_pop HM.out.1 (p := y0 * 16 + x0) (by rw [List.map_cons, hpe]; simp) (fun q hq => by rw [List.map_cons, hpe, List.mem_cons] at hq; exact hq) (fun q hq => by rw [List.map_cons]; exact List.mem_cons_of_mem _ hq)
          (fun r hr ha => nb_mem _ _ _ r hpx hpy (by omega) hr ha))
      have HNR := Aside0.mk (fun i (hi : i < 4) => nb_near (x0 : Int) (y0 : Int) (y0 * 16 + x0) i hpx hpy (by omega) hi)
      have HR1 := Aside0.mk (show (∀ q ∈ rest, 0 ≤ q.1 ∧ q.1 < 16 ∧ 0 ≤ q.2 ∧ q.2 < 16) ∧ rest.length + unseen out ≤ 256 from ⟨fun q hq => HM.out.2.1 q (List.mem_cons_of_mem _ hq), by have := HM.out.2.2; rw [List.length_cons] at this; omega⟩)
      clear hpe hpx hpy hb0 hb1 hb2 HQ1 HBN HCUT HN
      obtain ⟨U, hU⟩ : ∃ U, U = 2 * unseen out + n := ⟨_, rfl⟩
      have HUB := Aside0.mk (show 2 * unseen out + rest.length < U by omega)
      have HUE := Aside0.mk hU
      clear hU
      unfold nbv
      go_loopw [8, 34] (fun v8 v34 W => ∃ (out' : Nat → Bool) (qs' : List (Int × Int)) (i : Nat), v34 = .int .i64 i ∧ i ≤ 4 ∧ Aside0 (kQ.Q 102 W w.heap.size (fun _ => True) v8 qs' ∧ GridAt W w.heap.size g ∧ GridAt W (w.heap.size + 1) (fun _ => false) ∧ GridAt W (w.heap.size + 2) out' ∧ Below w.heap.size w W) ∧
        Aside0 (Mid g (y * 16 + x) out' (qs'.map posI) (y0 * 16 + x0) ((nbList (nbI (x0 : Int) (y0 : Int))).drop i) ∧ (∀ q ∈ qs', 0 ≤ q.1 ∧ q.1 < 16 ∧ 0 ≤ q.2 ∧ q.2 < 16) ∧ qs'.length + unseen out' ≤ 256 ∧ 2 * unseen out' + qs'.length < U)) (fun _ v34 _ => 4 - (intOf v34).toNat)
      case atStart => exact ⟨out, rest, 0, rfl, by omega, HW1, ⟨HM1.out, HR1.out.1, HR1.out.2, HUB.out⟩⟩
      case round =>
        obtain ⟨out', qs', i, rfl, hi, HV, HT⟩ := hrel
        clear HW1 HM1 HR1 HUB HB1
        obtain ⟨wi, rfl⟩ : ∃ wi : World, wi = wr := ⟨_, rfl⟩
        by_cases h4 : i < 4
        · have hd : decide ((i : Int) < 4) = true := by simp; omega
          have HNE := Aside0.mk (HNR.out i h4)
          have HDR := Aside0.mk (nbList_drop (nbI (x0 : Int) (y0 : Int)) i h4)
          obtain ⟨nx, hnx⟩ : ∃ z, z = (nbI (x0 : Int) (y0 : Int) i).1 := ⟨_, rfl⟩
          obtain ⟨ny, hny⟩ : ∃ z, z = (nbI (x0 : Int) (y0 : Int) i).2 := ⟨_, rfl⟩
          have HRUN := Aside0.mk hnx
          have HRUN2 := Aside0.mk hny
          rw [← hnx, ← hny] at HDR HNE
          clear hnx hny
          have HM2 := Aside0.mk (show Mid g (y * 16 + x) out' (qs'.map posI) (y0 * 16 + x0) ((nx, ny) :: (nbList (nbI (x0 : Int) (y0 : Int))).drop (i + 1)) from by have h := HT.out.1; rw [HDR.out] at h; exact h)
          have HBL := Aside0.mk (blk_new wi (.cells #[.int .i64 nx, .int .i64 ny] 102))
          have HGG := Aside0.mk (GridAt.alloc HV.out.2.1 (.cells #[.int .i64 nx, .int .i64 ny] 102))
          have HGO := Aside0.mk (GridAt.alloc HV.out.2.2.2.1 (.cells #[.int .i64 nx, .int .i64 ny] 102))
          cases hv : hasP g nx ny with
          | false =>
            have HSK := Aside0.mk (mid_skip HM2.out (.inl hv))
            go_wp2_with (first
              | ((with_reducible refine gate_dst (N := 36) rfl ?_); refine Kd.event_run (v := .agg #[.int .i64 nx, .int .i64 ny]) (w1 := wi) rfl ?hr ?_; (case hr => (rw [HRUN.out, HRUN2.out]; (obtain e | e | e | e : i = 0 ∨ i = 1 ∨ i = 2 ∨ i = 3 := by omega); all_goals (subst e; kernel_rfl)))))
            refine wp_region_held_drew (S := fun W => Aside0 (Below (wi.alloc (.cells #[.int .i64 nx, .int .i64 ny] 102)).heap.size (wi.alloc (.cells #[.int .i64 nx, .int .i64 ny] 102)) W)) (by kernel_rfl) ⟨below_drew (Below.refl _ _)⟩ (fun hH => ?_)
            obtain ⟨W3, hW3⟩ : ∃ W, W = (wi.alloc (.cells #[.int .i64 nx, .int .i64 ny] 102)).drew := ⟨_, rfl⟩
            rw [← hW3] at hH ⊢
            clear hW3
            refine wpAnyH_take (i := 0) rfl (by kernel_rfl) (by kernel_rfl) (by kernel_rfl) (fun _ _ _ h => h) (yieldsP_grid (by kernel_rfl) _ rfl w.heap.size rfl g (fun W hW => GridAt.below HGG.out hW.out)) hH ?_
            simp only [Act.put, List.setIfInBounds_toArray, List.set_cons_zero, List.set_cons_succ, List.getElem_toArray, List.getElem_cons_zero, List.getElem_cons_succ]
            refine wpAnyH_take (i := 1) (v := .pointer (some ⟨wi.heap.size, 0, none⟩)) rfl (by kernel_rfl) (by kernel_rfl) (by kernel_rfl) (fun _ _ _ h => h) (.inl ⟨by kernel_rfl, fun W hW => by first | (go_simp; done) | (go_simp; intro h_; omega)⟩) hH ?_
            simp only [Act.put, List.setIfInBounds_toArray, List.set_cons_zero, List.set_cons_succ, List.getElem_toArray, List.getElem_cons_zero, List.getElem_cons_succ]
            refine wpAnyH_take (i := 2) rfl (by kernel_rfl) (by kernel_rfl) (by kernel_rfl) (fun _ _ _ h => h) (yieldsP_int (by kernel_rfl) _ rfl ⟨wi.heap.size, 0, none⟩ rfl nx (fun W hW => (blk_cell (blk_below HBL.out hW.out) 0).trans rfl)) hH ?_
            simp only [Act.put, List.setIfInBounds_toArray, List.set_cons_zero, List.set_cons_succ, List.getElem_toArray, List.getElem_cons_zero, List.getElem_cons_succ]
            refine wpAnyH_take (i := 3) (v := .pointer (some ⟨wi.heap.size, 1, none⟩)) rfl (by kernel_rfl) (by kernel_rfl) (by kernel_rfl) (fun _ _ _ h => h) (.inl ⟨by kernel_rfl, fun W hW => by first | (go_simp; done) | (go_simp; intro h_; omega)⟩) hH ?_
            simp only [Act.put, List.setIfInBounds_toArray, List.set_cons_zero, List.set_cons_succ, List.getElem_toArray, List.getElem_cons_zero, List.getElem_cons_succ]
            refine wpAnyH_take (i := 4) rfl (by kernel_rfl) (by kernel_rfl) (by kernel_rfl) (fun _ _ _ h => h) (yieldsP_int (by kernel_rfl) _ rfl ⟨wi.heap.size, 1, none⟩ rfl ny (fun W hW => (blk_cell (blk_below HBL.out hW.out) 1).trans rfl)) hH ?_
            simp only [Act.put, List.setIfInBounds_toArray, List.set_cons_zero, List.set_cons_succ, List.getElem_toArray, List.getElem_cons_zero, List.getElem_cons_succ]
            refine wpAnyH_ready (rs := [5]) (by kernel_rfl) (by simp) ?_
            refine AllReadyH.cons (i := 5) rfl ?_ AllReadyH.nil
            intro K hK
            rw [if_pos (by rfl)]
            go_simp
            go_wp2_with (first | (go_at_call 58; refine (has_calls _ _ _ _).mono ?_; rintro e W4 ⟨rfl, hb⟩))
            refine hK.out _ _ ⟨below_then hH.out hH.out.size hb⟩ (fun hH1 => ?_)
            clear hK K hb hH
            have hH := hH1
            clear hH1
            try rw [hv]
            try simp only [Act.put, List.setIfInBounds_toArray, List.set_cons_zero, List.set_cons_succ, List.getElem_toArray, List.getElem_cons_zero, List.getElem_cons_succ]
            refine wpAnyH_take (i := 6) (v := .bool false) rfl (by kernel_rfl) (by kernel_rfl) (by kernel_rfl) (fun _ _ _ h => h) (.inl ⟨by kernel_rfl, fun W hW => by first | (go_simp; done) | (go_simp; intro h_; omega)⟩) hH ?_
            simp only [Act.put, List.setIfInBounds_toArray, List.set_cons_zero, List.set_cons_succ, List.getElem_toArray, List.getElem_cons_zero, List.getElem_cons_succ]
            refine wpAnyH_take (i := 7) (v := undef) rfl (by kernel_rfl) (by kernel_rfl) (by kernel_rfl) (fun _ _ _ h => h) (.inr ⟨by kernel_rfl, rfl⟩) hH ?_
            simp only [Act.put, List.setIfInBounds_toArray, List.set_cons_zero, List.set_cons_succ, List.getElem_toArray, List.getElem_cons_zero, List.getElem_cons_succ]
            refine wpAnyH_take (i := 8) (v := undef) rfl (by kernel_rfl) (by kernel_rfl) (by kernel_rfl) (fun _ _ _ h => h) (.inr ⟨by kernel_rfl, rfl⟩) hH ?_
            simp only [Act.put, List.setIfInBounds_toArray, List.set_cons_zero, List.set_cons_succ, List.getElem_toArray, List.getElem_cons_zero, List.getElem_cons_succ]
            refine wpAnyH_take (i := 9) (v := undef) rfl (by kernel_rfl) (by kernel_rfl) (by kernel_rfl) (fun _ _ _ h => h) (.inr ⟨by kernel_rfl, rfl⟩) hH ?_
            simp only [Act.put, List.setIfInBounds_toArray, List.set_cons_zero, List.set_cons_succ, List.getElem_toArray, List.getElem_cons_zero, List.getElem_cons_succ]
            refine wpAnyH_take (i := 10) (v := undef) rfl (by kernel_rfl) (by kernel_rfl) (by kernel_rfl) (fun _ _ _ h => h) (.inr ⟨by kernel_rfl, rfl⟩) hH ?_
            simp only [Act.put, List.setIfInBounds_toArray, List.set_cons_zero, List.set_cons_succ, List.getElem_toArray, List.getElem_cons_zero, List.getElem_cons_succ]
            refine wpAnyH_take (i := 11) (v := undef) rfl (by kernel_rfl) (by kernel_rfl) (by kernel_rfl) (fun _ _ _ h => h) (.inr ⟨by kernel_rfl, rfl⟩) hH ?_
            simp only [Act.put, List.setIfInBounds_toArray, List.set_cons_zero, List.set_cons_succ, List.getElem_toArray, List.getElem_cons_zero, List.getElem_cons_succ]
            refine wpAnyH_take (i := 12) (v := undef) rfl (by kernel_rfl) (by kernel_rfl) (by kernel_rfl) (fun _ _ _ h => h) (.inr ⟨by kernel_rfl, rfl⟩) hH ?_
            simp only [Act.put, List.setIfInBounds_toArray, List.set_cons_zero, List.set_cons_succ, List.getElem_toArray, List.getElem_cons_zero, List.getElem_cons_succ]
            refine wpAnyH_take (i := 13) (v := undef) rfl (by kernel_rfl) (by kernel_rfl) (by kernel_rfl) (fun _ _ _ h => h) (.inr ⟨by kernel_rfl, rfl⟩) hH ?_
            simp only [Act.put, List.setIfInBounds_toArray, List.set_cons_zero, List.set_cons_succ, List.getElem_toArray, List.getElem_cons_zero, List.getElem_cons_succ]
            refine wpAnyH_take (i := 14) (v := undef) rfl (by kernel_rfl) (by kernel_rfl) (by kernel_rfl) (fun _ _ _ h => h) (.inr ⟨by kernel_rfl, rfl⟩) hH ?_
            simp only [Act.put, List.setIfInBounds_toArray, List.set_cons_zero, List.set_cons_succ, List.getElem_toArray, List.getElem_cons_zero, List.getElem_cons_succ]
            refine wpAnyH_take (i := 15) (v := .bool false) rfl (by kernel_rfl) (by kernel_rfl) (by kernel_rfl) (fun _ _ _ h => h) (.inl ⟨by kernel_rfl, fun W hW => by first | (go_simp; done) | (go_simp; intro h_; omega)⟩) hH ?_
            simp only [Act.put, List.setIfInBounds_toArray, List.set_cons_zero, List.set_cons_succ, List.getElem_toArray, List.getElem_cons_zero, List.getElem_cons_succ]
            refine wpAnyH_done (by kernel_rfl) ?_ _
            go_wp2
            go_roundw
            case rel => exact ⟨out', qs', i + 1, by go_num, by omega, ⟨Kd.Q_below (Kd.Q_alloc HV.out.1 _) hH.out, (HV.out.2.1.alloc _).below hH.out, (HV.out.2.2.1.alloc _).below hH.out, (HV.out.2.2.2.1.alloc _).below hH.out, below_then (below_alloc HV.out.2.2.2.2 _) (below_alloc HV.out.2.2.2.2 _).size hH.out⟩, ⟨HSK.out, HT.out.2.1, HT.out.2.2.1, HT.out.2.2.2⟩⟩
            case measure => simp [intOf]; omega
          | true =>
            have hq := (hasP_iff g nx ny).1 hv
            obtain ⟨mx_, rfl⟩ := Int.eq_ofNat_of_zero_le hq.1
            obtain ⟨my, rfl⟩ := Int.eq_ofNat_of_zero_le hq.2.2.1
            have hmx : mx_ < 16 := by omega
            have hmy : my < 16 := by omega
            have HAD := Aside0.mk (HNE.out (by omega) (by omega) (by omega) (by omega))
            rw [Int.toNat_natCast, Int.toNat_natCast] at HAD
            clear hq
            cases ho : out' (my * 16 + mx_) with
            | true =>
              have HSK := Aside0.mk (mid_skip HM2.out (.inr (by rw [Int.toNat_natCast, Int.toNat_natCast]; exact ho)))
              go_wp2_with (first
                | ((with_reducible refine gate_dst (N := 36) rfl ?_); refine Kd.event_run (v := .agg #[.int .i64 (mx_ : Int), .int .i64 (my : Int)]) (w1 := wi) rfl ?hr ?_; (case hr => (rw [HRUN.out, HRUN2.out]; (obtain e | e | e | e : i = 0 ∨ i = 1 ∨ i = 2 ∨ i = 3 := by omega); all_goals (subst e; kernel_rfl)))))
              refine wp_region_held_drew (S := fun W => Aside0 (Below (wi.alloc (.cells #[.int .i64 (mx_ : Int), .int .i64 (my : Int)] 102)).heap.size (wi.alloc (.cells #[.int .i64 (mx_ : Int), .int .i64 (my : Int)] 102)) W)) (by kernel_rfl) ⟨below_drew (Below.refl _ _)⟩ (fun hH => ?_)
              obtain ⟨W3, hW3⟩ : ∃ W, W = (wi.alloc (.cells #[.int .i64 (mx_ : Int), .int .i64 (my : Int)] 102)).drew := ⟨_, rfl⟩
              rw [← hW3] at hH ⊢
              clear hW3
              refine wpAnyH_take (i := 0) rfl (by kernel_rfl) (by kernel_rfl) (by kernel_rfl) (fun _ _ _ h => h) (yieldsP_grid (by kernel_rfl) _ rfl w.heap.size rfl g (fun W hW => GridAt.below HGG.out hW.out)) hH ?_
              simp only [Act.put, List.setIfInBounds_toArray, List.set_cons_zero, List.set_cons_succ, List.getElem_toArray, List.getElem_cons_zero, List.getElem_cons_succ]
              refine wpAnyH_take (i := 1) (v := .pointer (some ⟨wi.heap.size, 0, none⟩)) rfl (by kernel_rfl) (by kernel_rfl) (by kernel_rfl) (fun _ _ _ h => h) (.inl ⟨by kernel_rfl, fun W hW => by first | (go_simp; done) | (go_simp; intro h_; omega)⟩) hH ?_
              simp only [Act.put, List.setIfInBounds_toArray, List.set_cons_zero, List.set_cons_succ, List.getElem_toArray, List.getElem_cons_zero, List.getElem_cons_succ]
              refine wpAnyH_take (i := 2) rfl (by kernel_rfl) (by kernel_rfl) (by kernel_rfl) (fun _ _ _ h => h) (yieldsP_int (by kernel_rfl) _ rfl ⟨wi.heap.size, 0, none⟩ rfl (mx_ : Int) (fun W hW => (blk_cell (blk_below HBL.out hW.out) 0).trans rfl)) hH ?_
              simp only [Act.put, List.setIfInBounds_toArray, List.set_cons_zero, List.set_cons_succ, List.getElem_toArray, List.getElem_cons_zero, List.getElem_cons_succ]
              refine wpAnyH_take (i := 3) (v := .pointer (some ⟨wi.heap.size, 1, none⟩)) rfl (by kernel_rfl) (by kernel_rfl) (by kernel_rfl) (fun _ _ _ h => h) (.inl ⟨by kernel_rfl, fun W hW => by first | (go_simp; done) | (go_simp; intro h_; omega)⟩) hH ?_
              simp only [Act.put, List.setIfInBounds_toArray, List.set_cons_zero, List.set_cons_succ, List.getElem_toArray, List.getElem_cons_zero, List.getElem_cons_succ]
              refine wpAnyH_take (i := 4) rfl (by kernel_rfl) (by kernel_rfl) (by kernel_rfl) (fun _ _ _ h => h) (yieldsP_int (by kernel_rfl) _ rfl ⟨wi.heap.size, 1, none⟩ rfl (my : Int) (fun W hW => (blk_cell (blk_below HBL.out hW.out) 1).trans rfl)) hH ?_
              simp only [Act.put, List.setIfInBounds_toArray, List.set_cons_zero, List.set_cons_succ, List.getElem_toArray, List.getElem_cons_zero, List.getElem_cons_succ]
              refine wpAnyH_ready (rs := [5]) (by kernel_rfl) (by simp) ?_
              refine AllReadyH.cons (i := 5) rfl ?_ AllReadyH.nil
              intro K hK
              rw [if_pos (by rfl)]
              go_simp
              go_wp2_with (first | (go_at_call 58; refine (has_calls _ _ _ _).mono ?_; rintro e W4 ⟨rfl, hb⟩))
              refine hK.out _ _ ⟨below_then hH.out hH.out.size hb⟩ (fun hH1 => ?_)
              clear hK K hb hH
              have hH := hH1
              clear hH1
              try rw [hv]
              try simp only [Act.put, List.setIfInBounds_toArray, List.set_cons_zero, List.set_cons_succ, List.getElem_toArray, List.getElem_cons_zero, List.getElem_cons_succ]
              refine wpAnyH_take (i := 6) (v := .bool true) rfl (by kernel_rfl) (by kernel_rfl) (by kernel_rfl) (fun _ _ _ h => h) (.inl ⟨by kernel_rfl, fun W hW => by first | (go_simp; done) | (go_simp; intro h_; omega)⟩) hH ?_
              simp only [Act.put, List.setIfInBounds_toArray, List.set_cons_zero, List.set_cons_succ, List.getElem_toArray, List.getElem_cons_zero, List.getElem_cons_succ]
              refine wpAnyH_take (i := 7) (v := .pointer (some ⟨wi.heap.size, 1, none⟩)) rfl (by kernel_rfl) (by kernel_rfl) (by kernel_rfl) (fun _ _ _ h => h) (.inl ⟨by kernel_rfl, fun W hW => by first | (go_simp; done) | (go_simp; intro h_; omega)⟩) hH ?_
              simp only [Act.put, List.setIfInBounds_toArray, List.set_cons_zero, List.set_cons_succ, List.getElem_toArray, List.getElem_cons_zero, List.getElem_cons_succ]
              refine wpAnyH_take (i := 8) rfl (by kernel_rfl) (by kernel_rfl) (by kernel_rfl) (fun _ _ _ h => h) (yieldsP_int (by kernel_rfl) _ rfl ⟨wi.heap.size, 1, none⟩ rfl (my : Int) (fun W hW => (blk_cell (blk_below HBL.out hW.out) 1).trans rfl)) hH ?_
              simp only [Act.put, List.setIfInBounds_toArray, List.set_cons_zero, List.set_cons_succ, List.getElem_toArray, List.getElem_cons_zero, List.getElem_cons_succ]
              refine wpAnyH_take (i := 9) (v := .pointer (some ⟨wi.heap.size, 0, none⟩)) rfl (by kernel_rfl) (by kernel_rfl) (by kernel_rfl) (fun _ _ _ h => h) (.inl ⟨by kernel_rfl, fun W hW => by first | (go_simp; done) | (go_simp; intro h_; omega)⟩) hH ?_
              simp only [Act.put, List.setIfInBounds_toArray, List.set_cons_zero, List.set_cons_succ, List.getElem_toArray, List.getElem_cons_zero, List.getElem_cons_succ]
              refine wpAnyH_take (i := 10) rfl (by kernel_rfl) (by kernel_rfl) (by kernel_rfl) (fun _ _ _ h => h) (yieldsP_int (by kernel_rfl) _ rfl ⟨wi.heap.size, 0, none⟩ rfl (mx_ : Int) (fun W hW => (blk_cell (blk_below HBL.out hW.out) 0).trans rfl)) hH ?_
              simp only [Act.put, List.setIfInBounds_toArray, List.set_cons_zero, List.set_cons_succ, List.getElem_toArray, List.getElem_cons_zero, List.getElem_cons_succ]
              refine wpAnyH_take (i := 11) (v := .pointer (some ⟨w.heap.size + 1 + 1, my * 16, none⟩)) rfl (by kernel_rfl) (by kernel_rfl) (by kernel_rfl) (fun _ _ _ h => h) (.inl ⟨by kernel_rfl, fun W hW => by first | (go_simp; done) | (go_simp; intro h_; omega)⟩) hH ?_
              simp only [Act.put, List.setIfInBounds_toArray, List.set_cons_zero, List.set_cons_succ, List.getElem_toArray, List.getElem_cons_zero, List.getElem_cons_succ]
              refine wpAnyH_take (i := 12) (v := .pointer (some ⟨w.heap.size + 1 + 1, my * 16 + mx_, none⟩)) rfl (by kernel_rfl) (by kernel_rfl) (by kernel_rfl) (fun _ _ _ h => h) (.inl ⟨by kernel_rfl, fun W hW => by first | (go_simp; done) | (go_simp; intro h_; omega)⟩) hH ?_
              simp only [Act.put, List.setIfInBounds_toArray, List.set_cons_zero, List.set_cons_succ, List.getElem_toArray, List.getElem_cons_zero, List.getElem_cons_succ]
              refine wpAnyH_take (i := 13) rfl (by kernel_rfl) (by kernel_rfl) (by kernel_rfl) (fun _ _ _ h => h) (yieldsP_bool (by kernel_rfl) _ rfl ⟨w.heap.size + 1 + 1, my * 16 + mx_, none⟩ rfl true (fun W hW => (GridAt.cell (GridAt.below HGO.out hW.out) (my * 16 + mx_) (by omega)).trans (by rw [ho]))) hH ?_
              simp only [Act.put, List.setIfInBounds_toArray, List.set_cons_zero, List.set_cons_succ, List.getElem_toArray, List.getElem_cons_zero, List.getElem_cons_succ]
              refine wpAnyH_take (i := 14) (v := .bool (!true)) rfl (by kernel_rfl) (by kernel_rfl) (by kernel_rfl) (fun _ _ _ h => h) (.inl ⟨by kernel_rfl, fun W hW => by first | (go_simp; done) | (go_simp; intro h_; omega)⟩) hH ?_
              simp only [Act.put, List.setIfInBounds_toArray, List.set_cons_zero, List.set_cons_succ, List.getElem_toArray, List.getElem_cons_zero, List.getElem_cons_succ]
              refine wpAnyH_take (i := 15) (v := .bool (!true)) rfl (by kernel_rfl) (by kernel_rfl) (by kernel_rfl) (fun _ _ _ h => h) (.inl ⟨by kernel_rfl, fun W hW => by first | (go_simp; done) | (go_simp; intro h_; omega)⟩) hH ?_
              simp only [Act.put, List.setIfInBounds_toArray, List.set_cons_zero, List.set_cons_succ, List.getElem_toArray, List.getElem_cons_zero, List.getElem_cons_succ]
              refine wpAnyH_done (by kernel_rfl) ?_ _
              go_wp2
              go_roundw
              case rel => exact ⟨out', qs', i + 1, by go_num, by omega, ⟨Kd.Q_below (Kd.Q_alloc HV.out.1 _) hH.out, (HV.out.2.1.alloc _).below hH.out, (HV.out.2.2.1.alloc _).below hH.out, (HV.out.2.2.2.1.alloc _).below hH.out, below_then (below_alloc HV.out.2.2.2.2 _) (below_alloc HV.out.2.2.2.2 _).size hH.out⟩, ⟨HSK.out, HT.out.2.1, HT.out.2.2.1, HT.out.2.2.2⟩⟩
              case measure => simp [intOf]; omega
            | false =>
              go_wp2_with (first
                | ((with_reducible refine gate_dst (N := 36) rfl ?_); refine Kd.event_run (v := .agg #[.int .i64 (mx_ : Int), .int .i64 (my : Int)]) (w1 := wi) rfl ?hr ?_; (case hr => (rw [HRUN.out, HRUN2.out]; (obtain e | e | e | e : i = 0 ∨ i = 1 ∨ i = 2 ∨ i = 3 := by omega); all_goals (subst e; kernel_rfl)))))
              refine wp_region_held_drew (S := fun W => Aside0 (Below (wi.alloc (.cells #[.int .i64 (mx_ : Int), .int .i64 (my : Int)] 102)).heap.size (wi.alloc (.cells #[.int .i64 (mx_ : Int), .int .i64 (my : Int)] 102)) W)) (by kernel_rfl) ⟨below_drew (Below.refl _ _)⟩ (fun hH => ?_)
              obtain ⟨W3, hW3⟩ : ∃ W, W = (wi.alloc (.cells #[.int .i64 (mx_ : Int), .int .i64 (my : Int)] 102)).drew := ⟨_, rfl⟩
              rw [← hW3] at hH ⊢
              clear hW3
              refine wpAnyH_take (i := 0) rfl (by kernel_rfl) (by kernel_rfl) (by kernel_rfl) (fun _ _ _ h => h) (yieldsP_grid (by kernel_rfl) _ rfl w.heap.size rfl g (fun W hW => GridAt.below HGG.out hW.out)) hH ?_
              simp only [Act.put, List.setIfInBounds_toArray, List.set_cons_zero, List.set_cons_succ, List.getElem_toArray, List.getElem_cons_zero, List.getElem_cons_succ]
              refine wpAnyH_take (i := 1) (v := .pointer (some ⟨wi.heap.size, 0, none⟩)) rfl (by kernel_rfl) (by kernel_rfl) (by kernel_rfl) (fun _ _ _ h => h) (.inl ⟨by kernel_rfl, fun W hW => by first | (go_simp; done) | (go_simp; intro h_; omega)⟩) hH ?_
              simp only [Act.put, List.setIfInBounds_toArray, List.set_cons_zero, List.set_cons_succ, List.getElem_toArray, List.getElem_cons_zero, List.getElem_cons_succ]
              refine wpAnyH_take (i := 2) rfl (by kernel_rfl) (by kernel_rfl) (by kernel_rfl) (fun _ _ _ h => h) (yieldsP_int (by kernel_rfl) _ rfl ⟨wi.heap.size, 0, none⟩ rfl (mx_ : Int) (fun W hW => (blk_cell (blk_below HBL.out hW.out) 0).trans rfl)) hH ?_
              simp only [Act.put, List.setIfInBounds_toArray, List.set_cons_zero, List.set_cons_succ, List.getElem_toArray, List.getElem_cons_zero, List.getElem_cons_succ]
              refine wpAnyH_take (i := 3) (v := .pointer (some ⟨wi.heap.size, 1, none⟩)) rfl (by kernel_rfl) (by kernel_rfl) (by kernel_rfl) (fun _ _ _ h => h) (.inl ⟨by kernel_rfl, fun W hW => by first | (go_simp; done) | (go_simp; intro h_; omega)⟩) hH ?_
              simp only [Act.put, List.setIfInBounds_toArray, List.set_cons_zero, List.set_cons_succ, List.getElem_toArray, List.getElem_cons_zero, List.getElem_cons_succ]
              refine wpAnyH_take (i := 4) rfl (by kernel_rfl) (by kernel_rfl) (by kernel_rfl) (fun _ _ _ h => h) (yieldsP_int (by kernel_rfl) _ rfl ⟨wi.heap.size, 1, none⟩ rfl (my : Int) (fun W hW => (blk_cell (blk_below HBL.out hW.out) 1).trans rfl)) hH ?_
              simp only [Act.put, List.setIfInBounds_toArray, List.set_cons_zero, List.set_cons_succ, List.getElem_toArray, List.getElem_cons_zero, List.getElem_cons_succ]
              refine wpAnyH_ready (rs := [5]) (by kernel_rfl) (by simp) ?_
              refine AllReadyH.cons (i := 5) rfl ?_ AllReadyH.nil
              intro K hK
              rw [if_pos (by rfl)]
              go_simp
              go_wp2_with (first | (go_at_call 58; refine (has_calls _ _ _ _).mono ?_; rintro e W4 ⟨rfl, hb⟩))
              refine hK.out _ _ ⟨below_then hH.out hH.out.size hb⟩ (fun hH1 => ?_)
              clear hK K hb hH
              have hH := hH1
              clear hH1
              try rw [hv]
              try simp only [Act.put, List.setIfInBounds_toArray, List.set_cons_zero, List.set_cons_succ, List.getElem_toArray, List.getElem_cons_zero, List.getElem_cons_succ]
              refine wpAnyH_take (i := 6) (v := .bool true) rfl (by kernel_rfl) (by kernel_rfl) (by kernel_rfl) (fun _ _ _ h => h) (.inl ⟨by kernel_rfl, fun W hW => by first | (go_simp; done) | (go_simp; intro h_; omega)⟩) hH ?_
              simp only [Act.put, List.setIfInBounds_toArray, List.set_cons_zero, List.set_cons_succ, List.getElem_toArray, List.getElem_cons_zero, List.getElem_cons_succ]
              refine wpAnyH_take (i := 7) (v := .pointer (some ⟨wi.heap.size, 1, none⟩)) rfl (by kernel_rfl) (by kernel_rfl) (by kernel_rfl) (fun _ _ _ h => h) (.inl ⟨by kernel_rfl, fun W hW => by first | (go_simp; done) | (go_simp; intro h_; omega)⟩) hH ?_
              simp only [Act.put, List.setIfInBounds_toArray, List.set_cons_zero, List.set_cons_succ, List.getElem_toArray, List.getElem_cons_zero, List.getElem_cons_succ]
              refine wpAnyH_take (i := 8) rfl (by kernel_rfl) (by kernel_rfl) (by kernel_rfl) (fun _ _ _ h => h) (yieldsP_int (by kernel_rfl) _ rfl ⟨wi.heap.size, 1, none⟩ rfl (my : Int) (fun W hW => (blk_cell (blk_below HBL.out hW.out) 1).trans rfl)) hH ?_
              simp only [Act.put, List.setIfInBounds_toArray, List.set_cons_zero, List.set_cons_succ, List.getElem_toArray, List.getElem_cons_zero, List.getElem_cons_succ]
              refine wpAnyH_take (i := 9) (v := .pointer (some ⟨wi.heap.size, 0, none⟩)) rfl (by kernel_rfl) (by kernel_rfl) (by kernel_rfl) (fun _ _ _ h => h) (.inl ⟨by kernel_rfl, fun W hW => by first | (go_simp; done) | (go_simp; intro h_; omega)⟩) hH ?_
              simp only [Act.put, List.setIfInBounds_toArray, List.set_cons_zero, List.set_cons_succ, List.getElem_toArray, List.getElem_cons_zero, List.getElem_cons_succ]
              refine wpAnyH_take (i := 10) rfl (by kernel_rfl) (by kernel_rfl) (by kernel_rfl) (fun _ _ _ h => h) (yieldsP_int (by kernel_rfl) _ rfl ⟨wi.heap.size, 0, none⟩ rfl (mx_ : Int) (fun W hW => (blk_cell (blk_below HBL.out hW.out) 0).trans rfl)) hH ?_
              simp only [Act.put, List.setIfInBounds_toArray, List.set_cons_zero, List.set_cons_succ, List.getElem_toArray, List.getElem_cons_zero, List.getElem_cons_succ]
              refine wpAnyH_take (i := 11) (v := .pointer (some ⟨w.heap.size + 1 + 1, my * 16, none⟩)) rfl (by kernel_rfl) (by kernel_rfl) (by kernel_rfl) (fun _ _ _ h => h) (.inl ⟨by kernel_rfl, fun W hW => by first | (go_simp; done) | (go_simp; intro h_; omega)⟩) hH ?_
              simp only [Act.put, List.setIfInBounds_toArray, List.set_cons_zero, List.set_cons_succ, List.getElem_toArray, List.getElem_cons_zero, List.getElem_cons_succ]
              refine wpAnyH_take (i := 12) (v := .pointer (some ⟨w.heap.size + 1 + 1, my * 16 + mx_, none⟩)) rfl (by kernel_rfl) (by kernel_rfl) (by kernel_rfl) (fun _ _ _ h => h) (.inl ⟨by kernel_rfl, fun W hW => by first | (go_simp; done) | (go_simp; intro h_; omega)⟩) hH ?_
              simp only [Act.put, List.setIfInBounds_toArray, List.set_cons_zero, List.set_cons_succ, List.getElem_toArray, List.getElem_cons_zero, List.getElem_cons_succ]
              refine wpAnyH_take (i := 13) rfl (by kernel_rfl) (by kernel_rfl) (by kernel_rfl) (fun _ _ _ h => h) (yieldsP_bool (by kernel_rfl) _ rfl ⟨w.heap.size + 1 + 1, my * 16 + mx_, none⟩ rfl false (fun W hW => (GridAt.cell (GridAt.below HGO.out hW.out) (my * 16 + mx_) (by omega)).trans (by rw [ho]))) hH ?_
              simp only [Act.put, List.setIfInBounds_toArray, List.set_cons_zero, List.set_cons_succ, List.getElem_toArray, List.getElem_cons_zero, List.getElem_cons_succ]
              refine wpAnyH_take (i := 14) (v := .bool (!false)) rfl (by kernel_rfl) (by kernel_rfl) (by kernel_rfl) (fun _ _ _ h => h) (.inl ⟨by kernel_rfl, fun W hW => by first | (go_simp; done) | (go_simp; intro h_; omega)⟩) hH ?_
              simp only [Act.put, List.setIfInBounds_toArray, List.set_cons_zero, List.set_cons_succ, List.getElem_toArray, List.getElem_cons_zero, List.getElem_cons_succ]
              refine wpAnyH_take (i := 15) (v := .bool (!false)) rfl (by kernel_rfl) (by kernel_rfl) (by kernel_rfl) (fun _ _ _ h => h) (.inl ⟨by kernel_rfl, fun W hW => by first | (go_simp; done) | (go_simp; intro h_; omega)⟩) hH ?_
              simp only [Act.put, List.setIfInBounds_toArray, List.set_cons_zero, List.set_cons_succ, List.getElem_toArray, List.getElem_cons_zero, List.getElem_cons_succ]
              refine wpAnyH_done (by kernel_rfl) ?_ _
              go_upto_region 11 with (fail)
              have hq1 := (blk_cell (blk_below HBL.out hH.out) 0).trans (show (#[.int .i64 (mx_ : Int), .int .i64 (my : Int)] : Array Value)[0]? = some (.int .i64 (mx_ : Int)) from rfl)
              have hq2 := (blk_cell (blk_below HBL.out hH.out) 1).trans (show (#[.int .i64 (mx_ : Int), .int .i64 (my : Int)] : Array Value)[1]? = some (.int .i64 (my : Int)) from rfl)
              have HQ4 := Aside0.mk (Kd.Q_below (Kd.Q_alloc HV.out.1 (.cells #[.int .i64 (mx_ : Int), .int .i64 (my : Int)] 102)) hH.out)
              have HG4 := Aside0.mk (GridAt.below HGG.out hH.out)
              have HO4 := Aside0.mk (GridAt.below HGO.out hH.out)
              have HZ4 := Aside0.mk (GridAt.below (GridAt.alloc HV.out.2.2.1 (.cells #[.int .i64 (mx_ : Int), .int .i64 (my : Int)] 102)) hH.out)
              have HB4 := Aside0.mk (below_then (below_alloc HV.out.2.2.2.2 (.cells #[.int .i64 (mx_ : Int), .int .i64 (my : Int)] 102)) (below_alloc HV.out.2.2.2.2 _).size hH.out)
              have hwi : w.heap.size + 2 < wi.heap.size := GridAt.lt HV.out.2.2.2.1
              clear hH
              refine wp_region_held_drew (S := fun W => Aside0 (W.cell? ⟨wi.heap.size, 0, none⟩ = some (.int .i64 (mx_ : Int)) ∧ W.cell? ⟨wi.heap.size, 1, none⟩ = some (.int .i64 (my : Int)))) (by kernel_rfl) ⟨hq1, hq2⟩ (fun hH => ?_)
              obtain ⟨W5, hW5⟩ : ∃ W, W = W4.drew := ⟨_, rfl⟩
              rw [← hW5] at hH ⊢
              have HQ5 : Aside0 (kQ.Q 102 W5 w.heap.size (fun _ => True) u8 qs') := Aside0.mk (by rw [hW5]; exact Kd.Q_drew HQ4.out)
              have HG5 : Aside0 (W5.heap[w.heap.size]? = some (.cells (gc g) 75 (0, 0))) := Aside0.mk (by rw [hW5]; exact HG4.out)
              have HZ5 : Aside0 (W5.heap[w.heap.size + 1]? = some (.cells (gc fun _ => false) 75 (0, 0))) := Aside0.mk (by rw [hW5]; exact HZ4.out)
              have HO5 : Aside0 (GridAt W5 (w.heap.size + 2) out') := Aside0.mk (by rw [hW5]; exact HO4.out)
              have HB5 : Aside0 (Below w.heap.size w W5) := Aside0.mk (by rw [hW5]; exact below_drew HB4.out)
              clear hW5 hq1 hq2 HQ4 HG4 HZ4 HO4 HB4
              refine wpAnyH_take (i := 0) (v := .pointer (some ⟨wi.heap.size, 1, none⟩)) rfl (by kernel_rfl) (by kernel_rfl) (by kernel_rfl) (fun _ _ _ h => h) (.inl ⟨by kernel_rfl, fun W hW => by first | (go_simp; done) | (go_simp; intro h_; omega)⟩) hH ?_
              simp only [Act.put, List.setIfInBounds_toArray, List.set_cons_zero, List.set_cons_succ, List.getElem_toArray, List.getElem_cons_zero, List.getElem_cons_succ]
              refine wpAnyH_take (i := 1) rfl (by kernel_rfl) (by kernel_rfl) (by kernel_rfl) (fun _ _ _ h => h) (yieldsP_int (by kernel_rfl) _ rfl ⟨wi.heap.size, 1, none⟩ rfl (my : Int) (fun W hW => hW.out.2)) hH ?_
              simp only [Act.put, List.setIfInBounds_toArray, List.set_cons_zero, List.set_cons_succ, List.getElem_toArray, List.getElem_cons_zero, List.getElem_cons_succ]
              refine wpAnyH_take (i := 2) (v := .pointer (some ⟨wi.heap.size, 0, none⟩)) rfl (by kernel_rfl) (by kernel_rfl) (by kernel_rfl) (fun _ _ _ h => h) (.inl ⟨by kernel_rfl, fun W hW => by first | (go_simp; done) | (go_simp; intro h_; omega)⟩) hH ?_
              simp only [Act.put, List.setIfInBounds_toArray, List.set_cons_zero, List.set_cons_succ, List.getElem_toArray, List.getElem_cons_zero, List.getElem_cons_succ]
              refine wpAnyH_take (i := 3) rfl (by kernel_rfl) (by kernel_rfl) (by kernel_rfl) (fun _ _ _ h => h) (yieldsP_int (by kernel_rfl) _ rfl ⟨wi.heap.size, 0, none⟩ rfl (mx_ : Int) (fun W hW => hW.out.1)) hH ?_
              simp only [Act.put, List.setIfInBounds_toArray, List.set_cons_zero, List.set_cons_succ, List.getElem_toArray, List.getElem_cons_zero, List.getElem_cons_succ]
              refine wpAnyH_take (i := 4) (v := .pointer (some ⟨w.heap.size + 1 + 1, my * 16, none⟩)) rfl (by kernel_rfl) (by kernel_rfl) (by kernel_rfl) (fun _ _ _ h => h) (.inl ⟨by kernel_rfl, fun W hW => by first | (go_simp; done) | (go_simp; intro h_; omega)⟩) hH ?_
              simp only [Act.put, List.setIfInBounds_toArray, List.set_cons_zero, List.set_cons_succ, List.getElem_toArray, List.getElem_cons_zero, List.getElem_cons_succ]
              refine wpAnyH_take (i := 5) (v := .pointer (some ⟨w.heap.size + 1 + 1, my * 16 + mx_, none⟩)) rfl (by kernel_rfl) (by kernel_rfl) (by kernel_rfl) (fun _ _ _ h => h) (.inl ⟨by kernel_rfl, fun W hW => by first | (go_simp; done) | (go_simp; intro h_; omega)⟩) hH ?_
              simp only [Act.put, List.setIfInBounds_toArray, List.set_cons_zero, List.set_cons_succ, List.getElem_toArray, List.getElem_cons_zero, List.getElem_cons_succ]
              have hco := HO5.out.cell (my * 16 + mx_) (by omega)
              have hcf := HO5.out.free (my * 16 + mx_)
              refine wpAnyH_ready (rs := [6]) (by kernel_rfl) (by simp) ?_
              refine AllReadyH.cons (i := 6) rfl ?_ AllReadyH.nil
              intro K hK
              rw [if_pos (by rfl)]
              go_simp
              have HQ6 := Aside0.mk (Kd.Q_set HQ5.out HO5.out (by decide) (my * 16 + mx_) (.bool true))
              have HG6 := Aside0.mk (blk_far HG5.out (show w.heap.size ≠ (⟨w.heap.size + 2, my * 16 + mx_, none⟩ : Addr).block by simp) (.bool true))
              have HZ6 := Aside0.mk (blk_far HZ5.out (show w.heap.size + 1 ≠ (⟨w.heap.size + 2, my * 16 + mx_, none⟩ : Addr).block by simp) (.bool true))
              have HO6 : Aside0 ((W5.setCell ⟨w.heap.size + 2, my * 16 + mx_, none⟩ (.bool true)).heap[w.heap.size + 2]? = some (.cells (gc fun p => if p = my * 16 + mx_ then true else out' p) 75 (0, 0))) := Aside0.mk (HO5.out.set_ (my * 16 + mx_) true)
              have HB6 := Aside0.mk (below_set (g := w.heap.size + 2) (j := my * 16 + mx_) (v := .bool true) HB5.out (by omega))
              have hH1 : Aside0 ((W5.setCell ⟨w.heap.size + 2, my * 16 + mx_, none⟩ (.bool true)).cell? ⟨wi.heap.size, 0, none⟩ = some (.int .i64 (mx_ : Int)) ∧ (W5.setCell ⟨w.heap.size + 2, my * 16 + mx_, none⟩ (.bool true)).cell? ⟨wi.heap.size, 1, none⟩ = some (.int .i64 (my : Int))) := ⟨(World.cell?_setCell_far W5 _ _ _ (by show w.heap.size + 2 ≠ wi.heap.size; omega)).trans hH.out.1, (World.cell?_setCell_far W5 _ _ _ (by show w.heap.size + 2 ≠ wi.heap.size; omega)).trans hH.out.2⟩
              refine hK.out _ _ hH1 (fun _ => ?_)
              clear hK K hH hco hcf
              obtain ⟨W6, hW6⟩ : ∃ W, W = W5.setCell ⟨w.heap.size + 2, my * 16 + mx_, none⟩ (.bool true) := ⟨_, rfl⟩
              have hW6' : W5.setCell ⟨w.heap.size + 1 + 1, my * 16 + mx_, none⟩ (.bool true) = W6 := hW6.symm
              rw [← hW6] at HQ6 HG6 HZ6 HO6 HB6 hH1
              (first | rw [hW6'] | rw [← hW6])
              clear hW6 hW6'
              have hq1 := hH1.out.1
              have hq2 := hH1.out.2
              try simp only [Act.put, List.setIfInBounds_toArray, List.set_cons_zero, List.set_cons_succ, List.getElem_toArray, List.getElem_cons_zero, List.getElem_cons_succ]
              refine wpAnyH_done (by kernel_rfl) ?_ _
              have hpz : my * 16 + mx_ < 256 := by omega
              have HPU := Aside0.mk (mid_push (todo' := (qs' ++ [((mx_ : Int), (my : Int))]).map posI) HM2.out hv (by rw [Int.toNat_natCast, Int.toNat_natCast]; exact HAD.out) (fun q hq => by rw [List.map_append, List.mem_append] at hq; rcases hq with hq | hq; exact .inr hq; left; simpa [posI] using hq) (fun q hq => by rw [List.map_append, List.mem_append]; exact .inl hq) (by rw [List.map_append, List.mem_append]; right; simp [posI]))
              rw [Int.toNat_natCast, Int.toNat_natCast] at HPU
              have HUN := Aside0.mk (unseen_set out' (my * 16 + mx_) hpz ho)
              clear hpz ho
              go_wp2_with (first
                | ((with_reducible refine gate_builtin (b := .append) (xs := #[.tmp 59, .tmp 61]) rfl ?_); at_builtin; refine Kd.Q_append kQ (w0 := w) w.heap.size rfl (.tmp 59) (.tmp 61) 103 102 (.agg #[.int .i64 0, .int .i64 0]) 16 rfl Try.underlying103 infoQ rfl (by decide) (by omega) u8 qs' ((mx_ : Int), (my : Int)) [.int .i64 (mx_ : Int), .int .i64 (my : Int)] (fun _ => True) (fun _ => False) rfl ?aX ?aP (fun _ hk => hk.elim) (fun _ _ => trivial) HQ6.out HB6.out HB6.out.size ?aL ?_; (case aX => rfl); (case aP => exact kQ_M _ _ _ _ _); (case aL => (have hl_ := HT.out.2.2.1; omega)); intro v7 W7 ho hb hg hat; have HQ7 := Aside0.mk ho; have HB7 := Aside0.mk hb; have HG7 : Aside0 (GridAt W7 w.heap.size g) := Aside0.mk (blk_grown HG6.out hg (Kd.Q_ne HQ6.out HG6.out (by decide))); have HZ7 : Aside0 (GridAt W7 (w.heap.size + 1) (fun _ => false)) := Aside0.mk (blk_grown HZ6.out hg (Kd.Q_ne HQ6.out HZ6.out (by decide))); have HO7 : Aside0 (GridAt W7 (w.heap.size + 2) (fun p => if p = my * 16 + mx_ then true else out' p)) := Aside0.mk (blk_grown HO6.out hg (Kd.Q_ne HQ6.out HO6.out (by decide))); clear ho hb hg hat))
              go_roundw
              case rel => exact ⟨_, qs' ++ [((mx_ : Int), (my : Int))], i + 1, by go_num, by omega, ⟨HQ7.out, HG7.out, HZ7.out, HO7.out, HB7.out⟩, ⟨HPU.out, fun q hq => by
                rcases List.mem_append.1 hq with hq | hq
                · exact HT.out.2.1 q hq
                · rw [List.mem_singleton] at hq; subst hq; simp only; omega, by have h1 := HUN.out; have h2 := HT.out.2.2.1; rw [List.length_append, List.length_singleton]; omega, by have h1 := HUN.out; have h2 := HT.out.2.2.2; rw [List.length_append, List.length_singleton]; omega⟩⟩
              case measure => simp [intOf]; omega
        · have hi4 : i = 4 := by omega
          subst hi4
          go_wp2
          go_roundw
          case rel => exact ⟨out', qs', y0 * 16 + x0, HV, ⟨HT.out.1, HT.out.2.1, HT.out.2.2.1⟩⟩
          case measure =>
            obtain ⟨A2, c2, e2, _⟩ := Kd.Q_slice HV.out.1
            have h1 := unseen_out HV.out.2.2.2.1
            have h2 := HMS.out
            have h3 := HT.out.2.2.2
            have h5 := HUE.out
            subst e2
            show 2 * unseen (outOf wi (w.heap.size + 2)) + qs'.length < 2 * unseen (outOf wo (w.heap.size + 2)) + n
            rw [h1, h2]
            omega
end Go.Proofs.Ytbgohbinonkhfaa.Q

/- impl.partsOf: the connected parts of a region, as runs. -/
namespace Go.Proofs.Ytbgohbinonkhfaa.Q
open Go.RowKit Go.Proofs.YtbgohbinonkhfaaW.PrintWords Go.Proofs.YtbgohbinonkhfaaW.PrintLast Go.Proofs.YtbgohbinonkhfaaW.PrintMore
attribute [local go_sem] max2_int min2_int max_two min_two max_three min_three max_four min_four
set_option linter.unusedVariables false
set_option linter.unusedSimpArgs false

/-- the parts that begin at pixels of a list, but for what has been seen -/
noncomputable def partsFrom (g : Nat → Bool) : List Nat → (Nat → Bool) → List (List S47)
  | [], _ => []
  | p :: ps, seen => if seen p = true then partsFrom g ps seen else runsL (comp g p) :: partsFrom g ps (gso (fun x y => seen (y * 16 + x) || comp g p (y * 16 + x)) 256)
/-- the pixels of a run from column x on -/
def pixRun (r : S47) (x : Nat) : List Nat := (List.range' x (r.f2.toNat - x)).map fun x => r.f0.toNat * 16 + x
def pixels (l : List S47) : List Nat := l.flatMap fun r => pixRun r r.f1.toNat
theorem pixels_drop (l : List S47) (k : Nat) (h : k < l.length) : pixels (l.drop k) = pixRun l[k] l[k].f1.toNat ++ pixels (l.drop (k + 1)) := by
  rw [List.drop_eq_getElem_cons h]; rfl
theorem pixRun_in (r : S47) (x : Nat) (h : (x : Int) < r.f2) : pixRun r x = (r.f0.toNat * 16 + x) :: pixRun r (x + 1) := by
  unfold pixRun
  rw [show r.f2.toNat - x = (r.f2.toNat - (x + 1)) + 1 by omega, List.range'_succ, List.map_cons]
theorem pixRun_end (r : S47) (x : Nat) (h : ¬ (x : Int) < r.f2) : pixRun r x = [] := by
  unfold pixRun
  rw [show r.f2.toNat - x = 0 by omega]; rfl
theorem unseen_add (seen c : Nat → Bool) (p : Nat) (hp : p < 256) (h : seen p = false) (hc : c p = true) : unseen (fun q => seen q || c q) + 1 ≤ unseen seen := by
  have h1 := unseen_set seen p hp h
  have h2 : unseen (fun q => seen q || c q) ≤ unseen (fun q => if q = p then true else seen q) := by
    unfold unseen
    refine List.countP_mono_left (fun q _ hq => ?_)
    have hq' : (!(seen q || c q)) = true := hq
    show (!(if q = p then true else seen q)) = true
    by_cases e : q = p
    · subst e; rw [hc] at hq'; simp at hq'
    · rw [if_neg e]
      cases hs : seen q with
      | false => rfl
      | true => rw [hs] at hq'; simp at hq'
  omega

set_option maxHeartbeats 1600000 in
set_option maxRecDepth 100000 in
theorem parts1_calls (g e : Nat → Bool) (x y : Nat) (hx : x < 16) (hy : y < 16) (B1 B2 : Nat) (w : World) (h1 : GridAt w B1 g) (h2 : GridAt w B2 e) :
    Calls Try.prog 103 #[.int .i64 (x : Int), .int .i64 (y : Int), .pointer (some ⟨B1, 0, none⟩), .pointer (some ⟨B2, 0, none⟩)] w fun e_ w' => e_ = .returned (.bool (g (y * 16 + x) || e (y * 16 + x))) ∧ Below w.heap.size w w' := by
  have c1 := h1.cell (y * 16 + x) (by omega)
  have c2 := h2.cell (y * 16 + x) (by omega)
  clear h1 h2
  cases hp : g (y * 16 + x) <;> cases hq : e (y * 16 + x) <;> rw [hp] at c1 <;> rw [hq] at c2
  all_goals
    clear hp hq
    go_enter Try.func103, Try.ntmps103
    go_wp2
    go_ret
    exact ⟨rfl, Below.refl _ _⟩
theorem setRow_keepQ {W : World} {k g : Nat} {o : Obj} (h : W.heap[k]? = some o) (cs : Array Value) (hk : k ≠ g) : (W.setRow g cs).heap[k]? = some o := (setRow_other W g k cs hk).trans h

set_option maxHeartbeats 1600000 in
set_option maxRecDepth 100000 in
theorem partsOf_calls (A0 : Option Addr) (c0 : Nat) (l0 : List S47) (w : World) (hr0 : Kd.C k47 w A0 l0.length l0) (hok : ∀ r ∈ l0, 0 ≤ r.f0 ∧ r.f0 < 16 ∧ 0 ≤ r.f1 ∧ r.f2 ≤ 16) :
    Calls Try.prog 75 #[.slice A0 l0.length c0] w fun e w' => ∃ v0_ : Value, e = .returned v0_ ∧ Kd.S (Kd.slice 47 k47) 26 w' w.heap.size (fun _ => True) v0_ (partsFrom (gridF l0) (pixels l0) (fun _ => false)) ∧ Below w.heap.size w w' := by
  have hm : l0.length ≤ 9223372036854775807 := hr0.2.1
  have HR := Aside0.mk hr0
  have HOK := Aside0.mk hok
  clear hr0 hok
  have z0 := zero66
  have HSZ := Aside0.mk (fun g g' : Nat → Bool => show (gc g).size = (gc g').size by rw [gc_size, gc_size])
  have HO := Aside0.mk (fun g : Nat → Bool => gc_one g)
  have HI := Aside0.mk (fun g : Nat → Bool => show (Try.prog.info? 75).map (·.size) = some (gc g).size by rw [gc_size]; exact info66)
  obtain ⟨gF, hgF⟩ : ∃ gF, gF = gridF l0 := ⟨_, rfl⟩
  have HGC := Aside0.mk (gridOf_calls A0 c0 l0 w HR.out HOK.out)
  rw [← hgF] at HGC ⊢
  clear hgF
  go_enter Try.func75, Try.ntmps75
  go_wp2_with (first
    | (go_at_call 57; refine HGC.out.mono ?_; rintro e w1 ⟨rfl, hb1⟩; have HB1 := Aside0.mk hb1; clear hb1;
        have HN1 : Aside0 ((w1.alloc (.cells (gc fun _ => false) 75)).heap[w1.heap.size]? = some (.cells (gc fun _ => false) 75 (0, 0))) := Aside0.mk (blk_new _ _);
        have HN2 : Aside0 ((((w1.alloc (.cells (gc fun _ => false) 75)).setRow w1.heap.size (gc gF)).alloc (.cells (gc fun _ => false) 75)).heap[w1.heap.size + 1]? = some (.cells (gc fun _ => false) 75 (0, 0))) := Aside0.mk (by have h := blk_new ((w1.alloc (.cells (gc fun _ => false) 75)).setRow w1.heap.size (gc gF)) (.cells (gc fun _ => false) 75); rw [setRow_size] at h; simp only [World.size_alloc] at h; exact h);
        have HG2 : Aside0 (GridAt ((((w1.alloc (.cells (gc fun _ => false) 75)).setRow w1.heap.size (gc gF)).alloc (.cells (gc fun _ => false) 75)).setRow (w1.heap.size + 1) (gc fun _ => false)) w1.heap.size gF) := Aside0.mk (setRow_keepQ (blk_alloc (GridAt.setRow (g := fun _ => false) HN1.out gF) (.cells (gc fun _ => false) 75)) _ (by omega));
        have HS2 : Aside0 (GridAt ((((w1.alloc (.cells (gc fun _ => false) 75)).setRow w1.heap.size (gc gF)).alloc (.cells (gc fun _ => false) 75)).setRow (w1.heap.size + 1) (gc fun _ => false)) (w1.heap.size + 1) (fun _ => false)) := Aside0.mk (GridAt.setRow (g := fun _ => false) HN2.out _);
        have HB2 := Aside0.mk (below_setRow (below_alloc (below_setRow (below_alloc HB1.out (.cells (gc fun _ => false) 75)) HB1.out.size (gc gF)) (.cells (gc fun _ => false) 75)) (Nat.le_succ_of_le HB1.out.size) (gc fun _ => false)))
    | ((with_reducible refine wpList_store_row rfl 75 (.tmp 3) (.tmp 11) rfl w1.heap.size (gc gF) ?hx ?hy 75 (gc fun _ => false) HN1.out (HI.out _) (HSZ.out _ _) (HO.out _) ?_); (case hx => rfl); (case hy => rfl))
    | ((with_reducible refine wpList_store_row rfl 75 (.tmp 4) (.tmp 12) rfl (w1.heap.size + 1) (gc fun _ => false) ?hx ?hy 75 (gc fun _ => false) HN2.out (HI.out _) (HSZ.out _ _) (HO.out _) ?_); (case hx => rfl); (case hy => rfl)))
  have HBW := Aside0.mk HB1.out.size
  obtain ⟨B, hB⟩ : ∃ B, B = w1.heap.size := ⟨_, rfl⟩
  go_loopw [5, 16] (fun v5 v16 W => ∃ (k : Nat) (seen : Nat → Bool) (parts : List (List S47)), v16 = .int .i64 k ∧ k ≤ l0.length ∧
    Aside0 (Kd.S (Kd.slice 47 k47) 26 W w.heap.size (fun _ => True) v5 parts ∧ GridAt W w1.heap.size gF ∧ GridAt W (w1.heap.size + 1) seen ∧ Below w.heap.size w W) ∧
    Aside0 (parts ++ partsFrom gF (pixels (l0.drop k)) seen = partsFrom gF (pixels l0) (fun _ => false) ∧ parts.length + unseen seen ≤ 256)) (fun _ v16 _ => l0.length - (intOf v16).toNat)
  case atStart =>
    have h : Kd.S (Kd.slice 47 k47) 26 _ _ _ _ [] := ⟨fun _ => 0, R_empty (Kd.tag (fun _ => 0) (Kd.slice 47 k47)) 26 w.heap.size ((((w1.alloc (.cells (gc fun _ => false) 75)).setRow w1.heap.size (gc gF)).alloc (.cells (gc fun _ => false) 75)).setRow (w1.heap.size + 1) (gc fun _ => false)) HB2.out.size⟩
    simp only [World.size_alloc, setRow_size] at h
    refine ⟨0, (fun _ => false), [], rfl, by omega, ⟨h, HG2.out.alloc _, HS2.out.alloc _, below_alloc HB2.out _⟩, ⟨rfl, ?_⟩⟩
    have h2 : unseen (fun _ => false) = 256 := by simp [unseen]
    rw [h2]; simp
  case round =>
    obtain ⟨k, seen, parts, rfl, hk, HW, HT⟩ := hrel
    clear HN1 HN2 HG2 HS2 HB2
    obtain ⟨wo, rfl⟩ : ∃ wo : World, wo = wr := ⟨_, rfl⟩
    by_cases hlt : k < l0.length
    · have hdk : decide ((k : Int) < (l0.length : Int)) = true := by simp; omega
      obtain ⟨ad, e, hx0, hx1, hx2⟩ := at_T47 HR.out (k : Int) (by omega) (by omega)
      cases e
      have er : rd_T47 l0 (k : Int) = l0[k] := by simp [rd_T47, hlt]
      have ho := HOK.out l0[k] (List.getElem_mem hlt)
      have HPD := Aside0.mk (pixels_drop l0 k hlt)
      rw [er, Int.toNat_natCast] at hx0 hx1 hx2
      clear er
      generalize l0[k] = r at *
      obtain ⟨Y, hY⟩ := Int.eq_ofNat_of_zero_le ho.1
      obtain ⟨F, hF⟩ := Int.eq_ofNat_of_zero_le ho.2.2.1
      have ho2 := ho.2.1
      have ho4 := ho.2.2.2
      clear ho
      rw [hY] at hx0 ho2
      rw [hF] at hx1
      replace hx0 := (HW.out.2.2.2.cell (World.block_lt_of_cell? w _ hx0)).trans hx0
      replace hx1 := (HW.out.2.2.2.cell (World.block_lt_of_cell? w _ hx1)).trans hx1
      replace hx2 := (HW.out.2.2.2.cell (World.block_lt_of_cell? w _ hx2)).trans hx2
      have HY := Aside0.mk hY
      have HF := Aside0.mk hF
      clear hY hF
      go_wp2
      have hlt2 := HW.out.2.2.1.lt
      have HT1 := Aside0.mk (show parts ++ partsFrom gF (pixRun r F ++ pixels (l0.drop (k + 1))) seen = partsFrom gF (pixels l0) (fun _ => false) from by have h := HT.out.1; rw [HPD.out, HF.out, Int.toNat_natCast] at h; exact h)
      go_loopw [5, 8] (fun v5 v8 W => ∃ (x : Nat) (seen' : Nat → Bool) (parts' : List (List S47)), v8 = .int .i64 x ∧ F ≤ x ∧ ((x : Int) ≤ r.f2 ∨ x = F) ∧
        Aside0 (Kd.S (Kd.slice 47 k47) 26 W w.heap.size (fun _ => True) v5 parts' ∧ GridAt W w1.heap.size gF ∧ GridAt W (w1.heap.size + 1) seen' ∧ Below w.heap.size w W) ∧
        Aside0 (W.heap[wo.heap.size]? = some (.cells #[.int .i64 (Y : Int), .int .i64 (F : Int), .int .i64 r.f2] 47 (0, 0))) ∧
        Aside0 (parts' ++ partsFrom gF (pixRun r x ++ pixels (l0.drop (k + 1))) seen' = partsFrom gF (pixels l0) (fun _ => false) ∧ parts'.length + unseen seen' ≤ 256)) (fun _ v8 _ => 17 - (intOf v8).toNat + (r.f2 - (intOf v8)).toNat)
      case atStart =>
        exact ⟨F, seen, parts, rfl, Nat.le_refl _, .inr rfl, ⟨Kd.S_alloc HW.out.1 _, HW.out.2.1.alloc _, HW.out.2.2.1.alloc _, below_alloc HW.out.2.2.2 _⟩, ⟨blk_new _ _⟩, ⟨HT1.out, HT.out.2⟩⟩
      case round =>
        obtain ⟨x, seen', parts', rfl, hFx, hx, HV, HK, HU⟩ := hrel
        clear HT1 hx0 hx1 hx2
        obtain ⟨wi, rfl⟩ : ∃ wi : World, wi = wr := ⟨_, rfl⟩
        have hc0 : wi.cell? ⟨wo.heap.size, 0, none⟩ = some (.int .i64 (Y : Int)) := (blk_cell HK.out 0).trans rfl
        have hc2 : wi.cell? ⟨wo.heap.size, 2, none⟩ = some (.int .i64 r.f2) := (blk_cell HK.out 2).trans rfl
        by_cases hxt : (x : Int) < r.f2
        · have hdx : decide ((x : Int) < r.f2) = true := by simpa using hxt
          have hx16 : x < 16 := by omega
          have hY16 : Y < 16 := by omega
          have hcs := HV.out.2.2.1.cell (Y * 16 + x) (by omega)
          have HPI := Aside0.mk (pixRun_in r x hxt)
          cases hs : seen' (Y * 16 + x) with
          | true =>
            rw [hs] at hcs
            have HU2 := Aside0.mk (show parts' ++ partsFrom gF (pixRun r (x + 1) ++ pixels (l0.drop (k + 1))) seen' = partsFrom gF (pixels l0) (fun _ => false) from by
              have h := HU.out.1
              rw [HPI.out, HY.out, Int.toNat_natCast, List.cons_append, partsFrom, if_pos hs] at h
              exact h)
            clear hs
            go_wp2
            go_roundw
            case rel => exact ⟨x + 1, seen', parts', by go_num, by omega, .inl (by omega), HV, HK, ⟨HU2.out, HU.out.2⟩⟩
            case measure => simp [intOf]; omega
          | false =>
            rw [hs] at hcs
            have hg' : wi.heap[w1.heap.size]? = some (.cells (gc gF) 75 (0, 0)) := HV.out.2.1
            have HU2 := Aside0.mk (show (parts' ++ [runsL (comp gF (Y * 16 + x))]) ++ partsFrom gF (pixRun r (x + 1) ++ pixels (l0.drop (k + 1))) (gso (fun x_ y_ => seen' (y_ * 16 + x_) || comp gF (Y * 16 + x) (y_ * 16 + x_)) 256) = partsFrom gF (pixels l0) (fun _ => false) from by
              have h := HU.out.1
              rw [HPI.out, HY.out, Int.toNat_natCast, List.cons_append, partsFrom, if_neg (by rw [hs]; simp)] at h
              rw [List.append_assoc]
              exact h)
            have HUN := Aside0.mk (unseen_add seen' (comp gF (Y * 16 + x)) (Y * 16 + x) (by omega) hs ((comp_iff _ _ _).2 .here))
            clear hs
            go_wp2_with (first
              | ((with_reducible refine gate_dst (N := 34) rfl ?_); refine wpList_load_row rfl 75 (.tmp 3) rfl w1.heap.size rfl 75 (gc gF) (0, 0) (.array 16 73) hg' underlying66 rfl (HI.out _) ?_)
              | (go_at_call 70; refine (part_calls gF x Y hx16 hY16 _).mono ?_; rintro e W3 ⟨rfl, hb3⟩; have HB3 := Aside0.mk hb3; clear hb3;
                  have HN3 : Aside0 ((W3.alloc (.cells (gc fun _ => false) 75)).heap[W3.heap.size]? = some (.cells (gc fun _ => false) 75 (0, 0))) := Aside0.mk (blk_new _ _);
                  have HP4 : Aside0 (GridAt ((W3.alloc (.cells (gc fun _ => false) 75)).setRow W3.heap.size (gc (comp gF (Y * 16 + x)))) W3.heap.size (comp gF (Y * 16 + x))) := Aside0.mk (GridAt.setRow (g := fun _ => false) HN3.out _);
                  have HB4 : Aside0 (Below wi.heap.size wi ((W3.alloc (.cells (gc fun _ => false) 75)).setRow W3.heap.size (gc (comp gF (Y * 16 + x))))) := Aside0.mk (below_setRow (below_alloc HB3.out (.cells (gc fun _ => false) 75)) HB3.out.size _))
              | ((with_reducible refine wpList_store_row rfl 75 (.tmp 9) (.tmp 38) rfl W3.heap.size (gc (comp gF (Y * 16 + x))) ?hx ?hy 75 (gc fun _ => false) HN3.out (HI.out _) (HSZ.out _ _) (HO.out _) ?_); (case hx => rfl); (case hy => rfl))
              | (go_at_call 67; refine (gridBy_calls 103 #[.pointer (some ⟨w1.heap.size + 1, 0, none⟩), .pointer (some ⟨W3.heap.size, 0, none⟩)] (fun x_ y_ => seen' (y_ * 16 + x_) || comp gF (Y * 16 + x) (y_ * 16 + x_)) ((W3.alloc (.cells (gc fun _ => false) 75)).setRow W3.heap.size (gc (comp gF (Y * 16 + x)))) (enters_of Try.func103 (by kernel_rfl) rfl) (fun W a b ha hb hW => parts1_calls seen' (comp gF (Y * 16 + x)) a b ha hb _ _ W (GridAt.below (GridAt.below HV.out.2.2.1 HB4.out) hW) (GridAt.below HP4.out hW))).mono ?_; rintro e W5 ⟨rfl, hb5⟩;
                  have HB5 : Aside0 (Below wi.heap.size wi W5) := Aside0.mk (below_then HB4.out HB4.out.size hb5);
                  have HS5 : Aside0 (W5.heap[w1.heap.size + 1]? = some (.cells (gc seen') 75 (0, 0))) := Aside0.mk (GridAt.below HV.out.2.2.1 HB5.out);
                  have HP6 : Aside0 ((W5.setRow (w1.heap.size + 1) (gc (gso (fun x_ y_ => seen' (y_ * 16 + x_) || comp gF (Y * 16 + x) (y_ * 16 + x_)) 256))).heap[W3.heap.size]? = some (.cells (gc (comp gF (Y * 16 + x))) 75 (0, 0))) := Aside0.mk (setRow_keepQ (GridAt.below HP4.out hb5) _ (by have := HB3.out.size; have := GridAt.lt HV.out.2.2.1; omega));
                  have HR6 := Aside0.mk (Kd.S_mono (Kd.S_move (w1 := W5.setRow (w1.heap.size + 1) (gc (gso (fun x_ y_ => seen' (y_ * 16 + x_) || comp gF (Y * 16 + x) (y_ * 16 + x_)) 256))) (Kd.S_types (Kd.S_below HV.out.1 HB5.out) HS5.out (by decide)) (fun k hk => setRow_other _ _ _ _ hk.2)) (fun _ h => h.1));
                  have HG6 : Aside0 (GridAt (W5.setRow (w1.heap.size + 1) (gc (gso (fun x_ y_ => seen' (y_ * 16 + x_) || comp gF (Y * 16 + x) (y_ * 16 + x_)) 256))) w1.heap.size gF) := Aside0.mk (setRow_keepQ (GridAt.below HV.out.2.1 HB5.out) _ (by omega));
                  have HS6 : Aside0 (GridAt (W5.setRow (w1.heap.size + 1) (gc (gso (fun x_ y_ => seen' (y_ * 16 + x_) || comp gF (Y * 16 + x) (y_ * 16 + x_)) 256))) (w1.heap.size + 1) (gso (fun x_ y_ => seen' (y_ * 16 + x_) || comp gF (Y * 16 + x) (y_ * 16 + x_)) 256)) := Aside0.mk (GridAt.setRow (g := seen') HS5.out _);
                  have HK6 := Aside0.mk (setRow_keepQ (blk_below HK.out HB5.out) (gc (gso (fun x_ y_ => seen' (y_ * 16 + x_) || comp gF (Y * 16 + x) (y_ * 16 + x_)) 256)) (show wo.heap.size ≠ w1.heap.size + 1 by omega));
                  have HB6 := Aside0.mk (below_setRow (below_then HV.out.2.2.2 HV.out.2.2.2.size HB5.out) (show w.heap.size ≤ w1.heap.size + 1 from Nat.le_succ_of_le HBW.out) (gc (gso (fun x_ y_ => seen' (y_ * 16 + x_) || comp gF (Y * 16 + x) (y_ * 16 + x_)) 256)));
                  have HL6 := Aside0.mk (show wi.heap.size ≤ (W5.setRow (w1.heap.size + 1) (gc (gso (fun x_ y_ => seen' (y_ * 16 + x_) || comp gF (Y * 16 + x) (y_ * 16 + x_)) 256))).heap.size by rw [setRow_size]; exact HB5.out.size); clear hb5)
              | ((with_reducible refine wpList_store_row rfl 75 (.tmp 4) (.tmp 40) rfl (w1.heap.size + 1) (gc (gso (fun x_ y_ => seen' (y_ * 16 + x_) || comp gF (Y * 16 + x) (y_ * 16 + x_)) 256)) ?hx ?hy 75 (gc seen') HS5.out (HI.out _) (HSZ.out _ _) (HO.out _) ?_); (case hx => rfl); (case hy => rfl))
              | ((with_reducible refine gate_dst (N := 42) rfl ?_); refine wpList_load_row rfl 75 (.tmp 9) rfl W3.heap.size rfl 75 (gc (comp gF (Y * 16 + x))) (0, 0) (.array 16 73) HP6.out underlying66 rfl (HI.out _) ?_)
              | (go_at_call 71; refine (runs_calls (comp gF (Y * 16 + x)) (W5.setRow (w1.heap.size + 1) (gc (gso (fun x_ y_ => seen' (y_ * 16 + x_) || comp gF (Y * 16 + x) (y_ * 16 + x_)) 256)))).mono ?_; rintro e W7 ⟨v7, rfl, hr7, hb7⟩; obtain ⟨A7, c7, hv7, _⟩ := Kd.Q_slice (Kd.Q_of_R hr7); subst hv7;
                  have HV7 := Aside0.mk (Kd.R_lower (Kd.R_mono (Kd.R_bound hr7) (fun k hk => hk.2.1)) HB6.out.size);
                  have HR7 := Aside0.mk (Kd.S_below (Kd.S_mono (Kd.S_bound HR6.out) (fun k hk => (⟨trivial, Nat.not_le.2 hk.2.2.1⟩ : True ∧ ¬ ((W5.setRow (w1.heap.size + 1) (gc (gso (fun x_ y_ => seen' (y_ * 16 + x_) || comp gF (Y * 16 + x) (y_ * 16 + x_)) 256))).heap.size ≤ k)))) hb7); have HG7 := Aside0.mk (GridAt.below HG6.out hb7); have HS7 := Aside0.mk (GridAt.below HS6.out hb7); have HK7 := Aside0.mk (blk_below HK6.out hb7); have HB7 := Aside0.mk (below_then HB6.out HB6.out.size hb7); have HQ7 := Aside0.mk (Kd.S_lt HV.out.1); clear hr7 hb7)
              | ((with_reducible refine gate_builtin (b := .append) (xs := #[.tmp 41, .tmp 44]) rfl ?_); at_builtin; refine Kd.S_append (Kd.slice 47 k47) (w0 := w) w.heap.size rfl (.tmp 41) (.tmp 44) 51 26 (.slice none 0 0) 24 rfl Try.underlying51 info26 rfl (by decide) (by omega) u5 parts' (runsL (comp gF (Y * 16 + x))) [.slice A7 (runsL (comp gF (Y * 16 + x))).length c7] (fun _ => True) (fun k => (W5.setRow (w1.heap.size + 1) (gc (gso (fun x_ y_ => seen' (y_ * 16 + x_) || comp gF (Y * 16 + x) (y_ * 16 + x_)) 256))).heap.size ≤ k) rfl ?aX (Kd.M_row HV7.out) (fun k hk => ⟨trivial, fun e => by have h1 := HQ7.out k e.symm; have h2 := HL6.out; omega⟩) (fun _ _ => trivial) HR7.out HB7.out HB7.out.size ?aL ?_; (case aX => rfl); (case aL => (have hl_ := HU.out.2; omega)); intro v8 W8 ho hb hg hat;
                  have HR8 := Aside0.mk ho; have HB8 := Aside0.mk hb; have HG8 : Aside0 (GridAt W8 w1.heap.size gF) := Aside0.mk (blk_grown HG7.out hg (Kd.S_ne HR7.out HG7.out (by decide))); have HS8 : Aside0 (GridAt W8 (w1.heap.size + 1) (gso (fun x_ y_ => seen' (y_ * 16 + x_) || comp gF (Y * 16 + x) (y_ * 16 + x_)) 256)) := Aside0.mk (blk_grown HS7.out hg (Kd.S_ne HR7.out HS7.out (by decide))); have HK8 := Aside0.mk (blk_grown HK7.out hg (Kd.S_ne HR7.out HK7.out (by decide))); clear ho hb hg hat))
            go_roundw
            case rel => exact ⟨x + 1, (gso (fun x_ y_ => seen' (y_ * 16 + x_) || comp gF (Y * 16 + x) (y_ * 16 + x_)) 256), parts' ++ [runsL (comp gF (Y * 16 + x))], by go_num, by omega, .inl (by omega), ⟨HR8.out, HG8.out, HS8.out, HB8.out⟩, HK8, ⟨HU2.out, by
              have h1 := HUN.out
              have h2 := HU.out.2
              have h3 : unseen (gso (fun x_ y_ => seen' (y_ * 16 + x_) || comp gF (Y * 16 + x) (y_ * 16 + x_)) 256) = unseen (fun q => seen' q || (comp gF (Y * 16 + x)) q) := unseen_congr (fun p hp => by unfold gso; rw [decide_eq_true hp, Bool.true_and]; show (seen' (p / 16 * 16 + p % 16) || comp gF (Y * 16 + x) (p / 16 * 16 + p % 16)) = _; rw [show p / 16 * 16 + p % 16 = p by omega])
              rw [h3, List.length_append, List.length_singleton]
              omega⟩⟩
            case measure => simp [intOf]; omega
        · have hdx : decide ((x : Int) < r.f2) = false := by simpa using hxt
          have HU2 := Aside0.mk (show parts' ++ partsFrom gF (pixels (l0.drop (k + 1))) seen' = partsFrom gF (pixels l0) (fun _ => false) from by
            have h := HU.out.1
            rw [pixRun_end r x hxt, List.nil_append] at h
            exact h)
          go_wp2
          go_roundw
          case rel => exact ⟨k + 1, seen', parts', by go_num, by omega, HV, ⟨HU2.out, HU.out.2⟩⟩
          case measure => simp [intOf]; omega
    · have hdk : decide ((k : Int) < (l0.length : Int)) = false := by simp; omega
      have hkl : k = l0.length := by omega
      subst hkl
      have HE := Aside0.mk (show parts = partsFrom gF (pixels l0) (fun _ => false) from by
        have h := HT.out.1
        rw [List.drop_length] at h
        simpa [pixels, partsFrom] using h)
      go_wp2
      go_ret
      exact ⟨_, rfl, by rw [← HE.out]; exact HW.out.1, HW.out.2.2.2⟩
end Go.Proofs.Ytbgohbinonkhfaa.Q
