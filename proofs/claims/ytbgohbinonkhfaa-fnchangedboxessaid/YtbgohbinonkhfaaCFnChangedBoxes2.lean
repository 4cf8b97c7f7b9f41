/- A part of the proof that the statement FnChangedBoxesSaid holds, under no condition of its own: Boxes have all changes: the law FnChangedBoxes over lists of numbers alone. -/
import Derived.Test.YtbgohbinonkhfaaCFnChangedBoxes1
import Derived.BigQuiet
import Derived.Deep.QuietTactic
namespace Go.Proofs.Ytbgohbinonkhfaa.Q
open Go.RowKit Go.Proofs.YtbgohbinonkhfaaW.PrintWords Go.Proofs.YtbgohbinonkhfaaW.PrintLast Go.Proofs.YtbgohbinonkhfaaW.PrintMore
attribute [local go_sem] max2_int min2_int max_two min_two max_three min_three max_four min_four
set_option linter.unusedVariables false
set_option linter.unusedSimpArgs false
mutual
def impl_isRegion.l0 : Nat → List S47 → List S47 → Int → Int → Option (Bool)
  | 0, _, _, _, _ => none
  | k + 1, x0, x6, x7, x8 => if x8 < x7 then (if 0 ≤ x8 then (if x8 < (x6.length : Int) then (if ((rd_T47 x6 x8).f0) < 0 then (impl_isRegion.j1 k x0 x8 x6 x7 x8 true ((rd_T47 x6 x8).f0) ((rd_T47 x6 x8).f1) ((rd_T47 x6 x8).f2)) else (if ((rd_T47 x6 x8).f0) ≥ 16 then (impl_isRegion.j1 k x0 x8 x6 x7 x8 true ((rd_T47 x6 x8).f0) ((rd_T47 x6 x8).f1) ((rd_T47 x6 x8).f2)) else (if ((rd_T47 x6 x8).f1) < 0 then (impl_isRegion.j1 k x0 x8 x6 x7 x8 true ((rd_T47 x6 x8).f0) ((rd_T47 x6 x8).f1) ((rd_T47 x6 x8).f2)) else (if ((rd_T47 x6 x8).f2) ≤ ((rd_T47 x6 x8).f1) then (impl_isRegion.j1 k x0 x8 x6 x7 x8 true ((rd_T47 x6 x8).f0) ((rd_T47 x6 x8).f1) ((rd_T47 x6 x8).f2)) else (impl_isRegion.j1 k x0 x8 x6 x7 x8 (decide (((rd_T47 x6 x8).f2) > 16)) ((rd_T47 x6 x8).f0) ((rd_T47 x6 x8).f1) ((rd_T47 x6 x8).f2)))))) else none) else none) else (some true)
def impl_isRegion.j1 : Nat → List S47 → Int → List S47 → Int → Int → Bool → Int → Int → Int → Option (Bool)
  | 0, _, _, _, _, _, _, _, _, _ => none
  | k + 1, x0, x3, x6, x7, x8, x37, x57003000, x57003001, x57003002 => if x37 = true then (some false) else (if x3 = 0 then (impl_isRegion.l0 k x0 x6 x7 (wrap64 (x8 + 1))) else (if 0 ≤ (wrap64 (x3 - 1)) then (if (wrap64 (x3 - 1)) < (x0.length : Int) then (if x57003000 < ((rd_T47 x0 (wrap64 (x3 - 1))).f0) then (some false) else (if x57003000 = ((rd_T47 x0 (wrap64 (x3 - 1))).f0) then (if x57003001 ≤ ((rd_T47 x0 (wrap64 (x3 - 1))).f2) then (some false) else (impl_isRegion.l0 k x0 x6 x7 (wrap64 (x8 + 1)))) else (impl_isRegion.l0 k x0 x6 x7 (wrap64 (x8 + 1))))) else none) else none))
end
def impl_isRegion.f (k : Nat) (l0 : List S47) : Option Bool := impl_isRegion.l0 k l0 l0 (l0.length : Int) 0
theorem impl_isRegion.mono_l : ∀ k, (∀ y0 y1 y2 y3, LeO (impl_isRegion.l0 k y0 y1 y2 y3) (impl_isRegion.l0 (k + 1) y0 y1 y2 y3)) ∧ (∀ y0 y1 y2 y3 y4 y5 y6 y7 y8, LeO (impl_isRegion.j1 k y0 y1 y2 y3 y4 y5 y6 y7 y8) (impl_isRegion.j1 (k + 1) y0 y1 y2 y3 y4 y5 y6 y7 y8))
  | 0 => ⟨fun _ _ _ _ r h => by simp [impl_isRegion.l0] at h, fun _ _ _ _ _ _ _ _ _ r h => by simp [impl_isRegion.j1] at h⟩
  | k + 1 => by
    obtain ⟨ih0, ih1⟩ := impl_isRegion.mono_l k
    refine ⟨?_, ?_⟩
    · intro y0 y1 y2 y3
      unfold impl_isRegion.l0
      repeat' first | (with_reducible exact ih1 _ _ _ _ _ _ _ _ _) | (with_reducible exact LeO.refl _) | (with_reducible refine LeO.ite ?_ ?_)
    · intro y0 y1 y2 y3 y4 y5 y6 y7 y8
      unfold impl_isRegion.j1
      repeat' first | (with_reducible exact ih0 _ _ _ _) | (with_reducible exact LeO.refl _) | (with_reducible refine LeO.ite ?_ ?_)
theorem impl_isRegion.mono : ∀ a0 k, LeO (impl_isRegion.f k a0) (impl_isRegion.f (k + 1) a0) := by
  intro a0 k
  obtain ⟨ih0, ih1⟩ := impl_isRegion.mono_l k
  unfold impl_isRegion.f
  repeat' (with_reducible exact ih0 _ _ _ _)
set_option maxHeartbeats 8000000 in
set_option maxRecDepth 100000 in
theorem impl_isRegion.calls (k : Nat) (A0 : Option Addr) (c0 : Nat) (l0 : List S47) (r : Bool) (w : World) (hr0 : Kd.C k47 w A0 l0.length l0) (hc0 : l0.length ≤ c0) (h : impl_isRegion.f k l0 = some r) :
    Calls Try.prog 56 #[.slice A0 l0.length c0] w fun e w' => e = .returned (.bool r) ∧ Below w.heap.size w w' := by
  have hu47 := Try.underlying47
  have HR0 := Aside0.mk hr0
  have HC0 := Aside0.mk hc0
  clear hr0 hc0
  have HB := Aside0.mk (Below.refl w.heap.size w)
  have H : (impl_isRegion.l0 k l0 l0 (l0.length : Int) 0) = some r := h
  clear h
  have H' := Aside0.mk H
  clear H
  go_enter Try.func56, Try.ntmps56
  go_wp2
  go_loopg [8] k (fun kq v8 w' => ∃ (x8_1 : Int), v8 = .int .i64 x8_1 ∧ Aside0 (impl_isRegion.l0 kq l0 l0 (l0.length : Int) x8_1 = some r) ∧ Aside0 (kq ≤ k) ∧ Aside0 (Below w.heap.size w w'))
  case atStart => exact ⟨(0), (by rfl), H', ⟨Nat.le_refl _⟩, ⟨by exact HB.out⟩⟩
  case round =>
    clear H'
    obtain ⟨x8_1, rfl, HA, HK1, HB⟩ := hrel
    cases gk with
    | zero => exact absurd HA.out (by simp [impl_isRegion.l0])
    | succ k1 =>
      have H := HA.out
      clear HA
      simp only [impl_isRegion.l0] at H
      by_cases c2 : x8_1 < (l0.length : Int)
      · rw [if_pos c2] at H
        have c2b0 : decide (x8_1 < (l0.length : Int)) = true := decide_eq_true c2
        clear c2
        by_cases c3 : 0 ≤ x8_1
        · rw [if_pos c3] at H
          have c3b0 : decide (0 ≤ x8_1) = true := decide_eq_true c3
          clear c3
          by_cases c4 : x8_1 < (l0.length : Int)
          · rw [if_pos c4] at H
            have c4b0 : decide (x8_1 < (l0.length : Int)) = true := decide_eq_true c4
            clear c4
            have HC5 := Aside0.mk H
            clear H
            have p57001 : 0 ≤ (x8_1 : Int) := of_decide_eq_true (by (with_reducible assumption))
            have q57001 : x8_1 < (l0.length : Int) := of_decide_eq_true (by (with_reducible assumption))
            obtain ⟨ad57001, e57001, hx57001_0, hx57001_1, hx57001_2⟩ := at_T47 HR0.out x8_1 p57001 q57001
            cases e57001
            replace hx57001_0 := (HB.out.cell (World.block_lt_of_cell? w _ hx57001_0)).trans hx57001_0
            replace hx57001_1 := (HB.out.cell (World.block_lt_of_cell? w _ hx57001_1)).trans hx57001_1
            replace hx57001_2 := (HB.out.cell (World.block_lt_of_cell? w _ hx57001_2)).trans hx57001_2
            replace p57001 := eq_true p57001
            replace q57001 := eq_true q57001
            go_upto_region 4 with (first | ((with_reducible refine gate_dst (N := 4) rfl ?_); refine box_event ?hg (N := 4) ?hd (cs := #[.int .i64 0, .int .i64 0, .int .i64 0]) (t := 47) ?hr ?_; (case hd => rfl); (case hg => rfl); (case hr => (go_simp; done)); intro gb57002 hg w6 hbox hb; have n0_ := Aside0.mk (below_step HB.out hb); have n1_ := Aside0.mk (hbox); have n2_ := Aside0.mk ((by rw [hg]; exact (below_size HB.out) : w.heap.size ≤ gb57002)); have n3_ := Aside0.mk ((by rw [hg]; exact (below_size HB.out) : w.heap.size ≤ gb57002)); clear HB; have HB := n0_; have BK57002 := n1_; have GW57002 := n2_; have GE57002 := n3_; clear n0_ n1_ n2_ n3_; clear hb hbox hg; have hcz7_0 : w6.cell? ⟨gb57002, 0, none⟩ = some (.int .i64 0) := (blk_cell BK57002.out 0).trans rfl; have hcz7_1 : w6.cell? ⟨gb57002, 1, none⟩ = some (.int .i64 0) := (blk_cell BK57002.out 1).trans rfl; have hcz7_2 : w6.cell? ⟨gb57002, 2, none⟩ = some (.int .i64 0) := (blk_cell BK57002.out 2).trans rfl; have hfz7_0 := blk_frozen BK57002.out 0; have hfz7_1 := blk_frozen BK57002.out 1; have hfz7_2 := blk_frozen BK57002.out 2))
            go_cut [37] (fun v37 wc => ∃ (kq : Nat) (x37_4 : Bool), v37 = .bool x37_4 ∧ Aside0 (impl_isRegion.j1 kq l0 x8_1 l0 (l0.length : Int) x8_1 x37_4 ((rd_T47 l0 x8_1).f0) ((rd_T47 l0 x8_1).f1) ((rd_T47 l0 x8_1).f2) = some r) ∧ Aside0 (kq ≤ k1) ∧ Aside0 (wc.heap[gb57002]? = some (.cells #[.int .i64 ((rd_T47 l0 x8_1).f0), .int .i64 ((rd_T47 l0 x8_1).f1), .int .i64 ((rd_T47 l0 x8_1).f2)] 47 (0, 0))) ∧ Aside0 (Below w.heap.size w wc))
            case first =>
              have H := HC5.out
              clear HC5
              by_cases c8 : ((rd_T47 l0 x8_1).f0) < 0
              · rw [if_pos c8] at H
                have c8b0 : decide (((rd_T47 l0 x8_1).f0) < 0) = true := decide_eq_true c8
                clear c8
                (skip)
                have H' := Aside0.mk H
                clear H
                have hcz9_0 : w6.cell? ⟨gb57002, 0, none⟩ = some (.int .i64 0) := (blk_cell BK57002.out 0).trans rfl
                have hcz9_1 : w6.cell? ⟨gb57002, 1, none⟩ = some (.int .i64 0) := (blk_cell BK57002.out 1).trans rfl
                have hcz9_2 : w6.cell? ⟨gb57002, 2, none⟩ = some (.int .i64 0) := (blk_cell BK57002.out 2).trans rfl
                have hfz9_0 := blk_frozen BK57002.out 0
                have hfz9_1 := blk_frozen BK57002.out 1
                have hfz9_2 := blk_frozen BK57002.out 2
                go_wp2
                go_meet
                case rel => exact ⟨_, (true), (by rfl), H', ⟨by have := HK1.out; omega⟩, ⟨by (with_reducible repeat (first | refine blk_drewN ?_ _ | refine blk_drew ?_ | refine blk_alloc ?_ _)); refine blk_put (cs := #[.int .i64 ((rd_T47 l0 x8_1).f0), .int .i64 ((rd_T47 l0 x8_1).f1), .int .i64 0]) ?_ 2 _ rfl; (with_reducible repeat (first | refine blk_drewN ?_ _ | refine blk_drew ?_ | refine blk_alloc ?_ _)); refine blk_put (cs := #[.int .i64 ((rd_T47 l0 x8_1).f0), .int .i64 0, .int .i64 0]) ?_ 1 _ rfl; (with_reducible repeat (first | refine blk_drewN ?_ _ | refine blk_drew ?_ | refine blk_alloc ?_ _)); refine blk_put (cs := #[.int .i64 0, .int .i64 0, .int .i64 0]) ?_ 0 _ rfl; (with_reducible repeat (first | refine blk_drewN ?_ _ | refine blk_drew ?_ | refine blk_alloc ?_ _)); exact BK57002.out⟩, ⟨by repeat (with_reducible first | exact HB.out | refine below_set ?_ GE57002.out)⟩⟩
              · rw [if_neg c8] at H
                have c8b0 : decide (((rd_T47 l0 x8_1).f0) < 0) = false := decide_eq_false c8
                clear c8
                (skip)
                by_cases c10 : ((rd_T47 l0 x8_1).f0) ≥ 16
                · rw [if_pos c10] at H
                  have c10b0 : decide (16 ≤ ((rd_T47 l0 x8_1).f0)) = true := decide_eq_true c10
                  clear c10
                  have H' := Aside0.mk H
                  clear H
                  have hcz11_0 : w6.cell? ⟨gb57002, 0, none⟩ = some (.int .i64 0) := (blk_cell BK57002.out 0).trans rfl
                  have hcz11_1 : w6.cell? ⟨gb57002, 1, none⟩ = some (.int .i64 0) := (blk_cell BK57002.out 1).trans rfl
                  have hcz11_2 : w6.cell? ⟨gb57002, 2, none⟩ = some (.int .i64 0) := (blk_cell BK57002.out 2).trans rfl
                  have hfz11_0 := blk_frozen BK57002.out 0
                  have hfz11_1 := blk_frozen BK57002.out 1
                  have hfz11_2 := blk_frozen BK57002.out 2
                  go_wp2
                  go_meet
                  case rel => exact ⟨_, (true), (by rfl), H', ⟨by have := HK1.out; omega⟩, ⟨by (with_reducible repeat (first | refine blk_drewN ?_ _ | refine blk_drew ?_ | refine blk_alloc ?_ _)); refine blk_put (cs := #[.int .i64 ((rd_T47 l0 x8_1).f0), .int .i64 ((rd_T47 l0 x8_1).f1), .int .i64 0]) ?_ 2 _ rfl; (with_reducible repeat (first | refine blk_drewN ?_ _ | refine blk_drew ?_ | refine blk_alloc ?_ _)); refine blk_put (cs := #[.int .i64 ((rd_T47 l0 x8_1).f0), .int .i64 0, .int .i64 0]) ?_ 1 _ rfl; (with_reducible repeat (first | refine blk_drewN ?_ _ | refine blk_drew ?_ | refine blk_alloc ?_ _)); refine blk_put (cs := #[.int .i64 0, .int .i64 0, .int .i64 0]) ?_ 0 _ rfl; (with_reducible repeat (first | refine blk_drewN ?_ _ | refine blk_drew ?_ | refine blk_alloc ?_ _)); exact BK57002.out⟩, ⟨by repeat (with_reducible first | exact HB.out | refine below_set ?_ GE57002.out)⟩⟩
                · rw [if_neg c10] at H
                  have c10b0 : decide (16 ≤ ((rd_T47 l0 x8_1).f0)) = false := decide_eq_false c10
                  clear c10
                  by_cases c12 : ((rd_T47 l0 x8_1).f1) < 0
                  · rw [if_pos c12] at H
                    have c12b0 : decide (((rd_T47 l0 x8_1).f1) < 0) = true := decide_eq_true c12
                    clear c12
                    have H' := Aside0.mk H
                    clear H
                    have hcz13_0 : w6.cell? ⟨gb57002, 0, none⟩ = some (.int .i64 0) := (blk_cell BK57002.out 0).trans rfl
                    have hcz13_1 : w6.cell? ⟨gb57002, 1, none⟩ = some (.int .i64 0) := (blk_cell BK57002.out 1).trans rfl
                    have hcz13_2 : w6.cell? ⟨gb57002, 2, none⟩ = some (.int .i64 0) := (blk_cell BK57002.out 2).trans rfl
                    have hfz13_0 := blk_frozen BK57002.out 0
                    have hfz13_1 := blk_frozen BK57002.out 1
                    have hfz13_2 := blk_frozen BK57002.out 2
                    go_wp2
                    go_meet
                    case rel => exact ⟨_, (true), (by rfl), H', ⟨by have := HK1.out; omega⟩, ⟨by (with_reducible repeat (first | refine blk_drewN ?_ _ | refine blk_drew ?_ | refine blk_alloc ?_ _)); refine blk_put (cs := #[.int .i64 ((rd_T47 l0 x8_1).f0), .int .i64 ((rd_T47 l0 x8_1).f1), .int .i64 0]) ?_ 2 _ rfl; (with_reducible repeat (first | refine blk_drewN ?_ _ | refine blk_drew ?_ | refine blk_alloc ?_ _)); refine blk_put (cs := #[.int .i64 ((rd_T47 l0 x8_1).f0), .int .i64 0, .int .i64 0]) ?_ 1 _ rfl; (with_reducible repeat (first | refine blk_drewN ?_ _ | refine blk_drew ?_ | refine blk_alloc ?_ _)); refine blk_put (cs := #[.int .i64 0, .int .i64 0, .int .i64 0]) ?_ 0 _ rfl; (with_reducible repeat (first | refine blk_drewN ?_ _ | refine blk_drew ?_ | refine blk_alloc ?_ _)); exact BK57002.out⟩, ⟨by repeat (with_reducible first | exact HB.out | refine below_set ?_ GE57002.out)⟩⟩
                  · rw [if_neg c12] at H
                    have c12b0 : decide (((rd_T47 l0 x8_1).f1) < 0) = false := decide_eq_false c12
                    clear c12
                    by_cases c14 : ((rd_T47 l0 x8_1).f2) ≤ ((rd_T47 l0 x8_1).f1)
                    · rw [if_pos c14] at H
                      have c14b0 : decide (((rd_T47 l0 x8_1).f2) ≤ ((rd_T47 l0 x8_1).f1)) = true := decide_eq_true c14
                      clear c14
                      have H' := Aside0.mk H
                      clear H
                      have hcz15_0 : w6.cell? ⟨gb57002, 0, none⟩ = some (.int .i64 0) := (blk_cell BK57002.out 0).trans rfl
                      have hcz15_1 : w6.cell? ⟨gb57002, 1, none⟩ = some (.int .i64 0) := (blk_cell BK57002.out 1).trans rfl
                      have hcz15_2 : w6.cell? ⟨gb57002, 2, none⟩ = some (.int .i64 0) := (blk_cell BK57002.out 2).trans rfl
                      have hfz15_0 := blk_frozen BK57002.out 0
                      have hfz15_1 := blk_frozen BK57002.out 1
                      have hfz15_2 := blk_frozen BK57002.out 2
                      go_wp2
                      go_meet
                      case rel => exact ⟨_, (true), (by rfl), H', ⟨by have := HK1.out; omega⟩, ⟨by (with_reducible repeat (first | refine blk_drewN ?_ _ | refine blk_drew ?_ | refine blk_alloc ?_ _)); refine blk_put (cs := #[.int .i64 ((rd_T47 l0 x8_1).f0), .int .i64 ((rd_T47 l0 x8_1).f1), .int .i64 0]) ?_ 2 _ rfl; (with_reducible repeat (first | refine blk_drewN ?_ _ | refine blk_drew ?_ | refine blk_alloc ?_ _)); refine blk_put (cs := #[.int .i64 ((rd_T47 l0 x8_1).f0), .int .i64 0, .int .i64 0]) ?_ 1 _ rfl; (with_reducible repeat (first | refine blk_drewN ?_ _ | refine blk_drew ?_ | refine blk_alloc ?_ _)); refine blk_put (cs := #[.int .i64 0, .int .i64 0, .int .i64 0]) ?_ 0 _ rfl; (with_reducible repeat (first | refine blk_drewN ?_ _ | refine blk_drew ?_ | refine blk_alloc ?_ _)); exact BK57002.out⟩, ⟨by repeat (with_reducible first | exact HB.out | refine below_set ?_ GE57002.out)⟩⟩
                    · rw [if_neg c14] at H
                      have c14b0 : decide (((rd_T47 l0 x8_1).f2) ≤ ((rd_T47 l0 x8_1).f1)) = false := decide_eq_false c14
                      clear c14
                      have H' := Aside0.mk H
                      clear H
                      have hcz16_0 : w6.cell? ⟨gb57002, 0, none⟩ = some (.int .i64 0) := (blk_cell BK57002.out 0).trans rfl
                      have hcz16_1 : w6.cell? ⟨gb57002, 1, none⟩ = some (.int .i64 0) := (blk_cell BK57002.out 1).trans rfl
                      have hcz16_2 : w6.cell? ⟨gb57002, 2, none⟩ = some (.int .i64 0) := (blk_cell BK57002.out 2).trans rfl
                      have hfz16_0 := blk_frozen BK57002.out 0
                      have hfz16_1 := blk_frozen BK57002.out 1
                      have hfz16_2 := blk_frozen BK57002.out 2
                      go_wp2
                      go_meet
                      case rel => exact ⟨_, (decide (((rd_T47 l0 x8_1).f2) > 16)), (by rfl), H', ⟨by have := HK1.out; omega⟩, ⟨by (with_reducible repeat (first | refine blk_drewN ?_ _ | refine blk_drew ?_ | refine blk_alloc ?_ _)); refine blk_put (cs := #[.int .i64 ((rd_T47 l0 x8_1).f0), .int .i64 ((rd_T47 l0 x8_1).f1), .int .i64 0]) ?_ 2 _ rfl; (with_reducible repeat (first | refine blk_drewN ?_ _ | refine blk_drew ?_ | refine blk_alloc ?_ _)); refine blk_put (cs := #[.int .i64 ((rd_T47 l0 x8_1).f0), .int .i64 0, .int .i64 0]) ?_ 1 _ rfl; (with_reducible repeat (first | refine blk_drewN ?_ _ | refine blk_drew ?_ | refine blk_alloc ?_ _)); refine blk_put (cs := #[.int .i64 0, .int .i64 0, .int .i64 0]) ?_ 0 _ rfl; (with_reducible repeat (first | refine blk_drewN ?_ _ | refine blk_drew ?_ | refine blk_alloc ?_ _)); exact BK57002.out⟩, ⟨by repeat (with_reducible first | exact HB.out | refine below_set ?_ GE57002.out)⟩⟩
            case rest =>
              clear HC5
              try clear c1
              try clear c2
              try clear c2b0
              try clear p2
              try clear c3
              try clear c3b0
              try clear c4
              try clear c4b0
              try clear c5
              try clear p5
              try clear q5
              try clear hx5
              try clear c8
              try clear c8b0
              try clear c10
              try clear c10b0
              try clear c12
              try clear c12b0
              try clear c14
              try clear c14b0
              try clear hcz11_0
              try clear hcz11_1
              try clear hcz11_2
              try clear hcz13_0
              try clear hcz13_1
              try clear hcz13_2
              try clear hcz15_0
              try clear hcz15_1
              try clear hcz15_2
              try clear hcz16_0
              try clear hcz16_1
              try clear hcz16_2
              try clear hcz7_0
              try clear hcz7_1
              try clear hcz7_2
              try clear hcz9_0
              try clear hcz9_1
              try clear hcz9_2
              try clear hfz11_0
              try clear hfz11_1
              try clear hfz11_2
              try clear hfz13_0
              try clear hfz13_1
              try clear hfz13_2
              try clear hfz15_0
              try clear hfz15_1
              try clear hfz15_2
              try clear hfz16_0
              try clear hfz16_1
              try clear hfz16_2
              try clear hfz7_0
              try clear hfz7_1
              try clear hfz7_2
              try clear hfz9_0
              try clear hfz9_1
              try clear hfz9_2
              try clear hx57001_0
              try clear hx57001_1
              try clear hx57001_2
              try clear p57001
              try clear q57001
              obtain ⟨kq, x37_4, rfl, HA, HJ4, BK57002, HB⟩ := hcut
              cases kq with
              | zero => exact absurd HA.out (by simp [impl_isRegion.j1])
              | succ kj4 =>
                have H := HA.out
                clear HA
                simp only [impl_isRegion.j1] at H
                by_cases c17 : x37_4 = true
                · subst c17
                  have H1 : (some false) = some r := by rw [if_pos rfl] at H; exact H
                  clear H
                  have H := H1
                  clear H1
                  obtain rfl := Option.some.inj H
                  go_wp2
                  go_ret
                  exact ⟨by rfl, by exact HB.out⟩
                · replace c17 := Bool.eq_false_iff.mpr c17
                  subst c17
                  have H1 : (if x8_1 = 0 then (impl_isRegion.l0 kj4 l0 l0 (l0.length : Int) (wrap64 (x8_1 + 1))) else (if 0 ≤ (wrap64 (x8_1 - 1)) then (if (wrap64 (x8_1 - 1)) < (l0.length : Int) then (if ((rd_T47 l0 x8_1).f0) < ((rd_T47 l0 (wrap64 (x8_1 - 1))).f0) then (some false) else (if ((rd_T47 l0 x8_1).f0) = ((rd_T47 l0 (wrap64 (x8_1 - 1))).f0) then (if ((rd_T47 l0 x8_1).f1) ≤ ((rd_T47 l0 (wrap64 (x8_1 - 1))).f2) then (some false) else (impl_isRegion.l0 kj4 l0 l0 (l0.length : Int) (wrap64 (x8_1 + 1)))) else (impl_isRegion.l0 kj4 l0 l0 (l0.length : Int) (wrap64 (x8_1 + 1))))) else none) else none)) = some r := by rw [if_neg (show ¬ (false = true) by decide)] at H; exact H
                  clear H
                  have H := H1
                  clear H1
                  by_cases c18 : x8_1 = 0
                  · rw [if_pos c18] at H
                    have c18b0 : (x8_1 == 0) = true := beq_iff_eq.mpr c18
                    have c18b1 : (x8_1 != 0) = false := bne_eq_false_iff_eq.mpr c18
                    clear c18
                    have H' := Aside0.mk H
                    clear H
                    go_wp2
                    go_roundg kj4
                    case measure => have := HK1.out; have := HJ4.out; omega
                    case rel => exact ⟨(wrap64 (x8_1 + 1)), (by rfl), H', ⟨by have := HK1.out; have := HJ4.out; omega⟩, ⟨by exact HB.out⟩⟩
                  · rw [if_neg c18] at H
                    have c18b0 : (x8_1 == 0) = false := beq_eq_false_iff_ne.mpr c18
                    have c18b1 : (x8_1 != 0) = true := bne_iff_ne.mpr c18
                    obtain ⟨ji19, hji19⟩ : ∃ j_ : Int, (wrap64 (x8_1 - 1)) = j_ := ⟨_, rfl⟩
                    replace H : (if 0 ≤ ji19 then (if ji19 < (l0.length : Int) then (if ((rd_T47 l0 x8_1).f0) < ((rd_T47 l0 ji19).f0) then (some false) else (if ((rd_T47 l0 x8_1).f0) = ((rd_T47 l0 ji19).f0) then (if ((rd_T47 l0 x8_1).f1) ≤ ((rd_T47 l0 ji19).f2) then (some false) else (impl_isRegion.l0 kj4 l0 l0 (l0.length : Int) (wrap64 (x8_1 + 1)))) else (impl_isRegion.l0 kj4 l0 l0 (l0.length : Int) (wrap64 (x8_1 + 1))))) else none) else none) = some r := by (rw [hji19] at H; exact H)
                    have hji19w : (IntKind.i64.wrap (x8_1 - 1)) = ji19 := (i64_w _).trans hji19
                    by_cases c20 : 0 ≤ (ji19)
                    · rw [if_pos c20] at H
                      have c20b0 : decide (0 ≤ ji19) = true := decide_eq_true c20
                      clear c20
                      by_cases c21 : ji19 < (l0.length : Int)
                      · rw [if_pos c21] at H
                        have c21b0 : decide (ji19 < (l0.length : Int)) = true := decide_eq_true c21
                        clear c21
                        by_cases c22 : ((rd_T47 l0 x8_1).f0) < ((rd_T47 l0 ji19).f0)
                        · rw [if_pos c22] at H
                          have c22b0 : decide (((rd_T47 l0 x8_1).f0) < ((rd_T47 l0 ji19).f0)) = true := decide_eq_true c22
                          clear c22
                          obtain rfl := Option.some.inj H
                          have p57003 : 0 ≤ (ji19 : Int) := of_decide_eq_true (by (with_reducible assumption))
                          have q57003 : ji19 < (l0.length : Int) := of_decide_eq_true (by (with_reducible assumption))
                          obtain ⟨ad57003, e57003, hx57003_0, hx57003_1, hx57003_2⟩ := at_T47 HR0.out ji19 p57003 q57003
                          obtain rfl : ad57001 = ad57003 := (by injection e57003)
                          replace hx57003_0 := (HB.out.cell (World.block_lt_of_cell? w _ hx57003_0)).trans hx57003_0
                          replace hx57003_1 := (HB.out.cell (World.block_lt_of_cell? w _ hx57003_1)).trans hx57003_1
                          replace hx57003_2 := (HB.out.cell (World.block_lt_of_cell? w _ hx57003_2)).trans hx57003_2
                          replace p57003 := eq_true p57003
                          replace q57003 := eq_true q57003
                          go_wp2_with (first | ((with_reducible refine gate_dst (N := 5) rfl ?_); refine box_event ?hg (N := 5) ?hd (cs := #[.int .i64 0, .int .i64 0, .int .i64 0]) (t := 47) ?hr ?_; (case hd => rfl); (case hg => rfl); (case hr => (go_simp; done)); intro gb57004 hg w23 hbox hb; have n0_ := Aside0.mk (blk_below BK57002.out hb); have n1_ := Aside0.mk (below_step HB.out hb); have n2_ := Aside0.mk (hbox); have n3_ := Aside0.mk ((by rw [hg]; exact (below_size HB.out) : w.heap.size ≤ gb57004)); have n4_ := Aside0.mk ((by rw [hg]; exact (below_size HB.out) : w.heap.size ≤ gb57004)); have n5_ := Aside0.mk ((by rw [hg]; exact Nat.ne_of_lt (blk_lt BK57002.out) : gb57002 ≠ gb57004)); have n6_ := Aside0.mk ((by rw [hg]; exact Nat.ne_of_gt (blk_lt BK57002.out) : gb57004 ≠ gb57002)); clear BK57002; clear HB; have BK57002 := n0_; have HB := n1_; have BK57004 := n2_; have GW57004 := n3_; have GE57004 := n4_; have NB57002_57004 := n5_; have NB57004_57002 := n6_; clear n0_ n1_ n2_ n3_ n4_ n5_ n6_; clear hb hbox hg; have hnb24 := NB57004_57002.out; have hnc24 := NB57002_57004.out; have hcz25_0 : w23.cell? ⟨gb57004, 0, none⟩ = some (.int .i64 0) := (blk_cell BK57004.out 0).trans rfl; have hcz25_1 : w23.cell? ⟨gb57004, 1, none⟩ = some (.int .i64 0) := (blk_cell BK57004.out 1).trans rfl; have hcz25_2 : w23.cell? ⟨gb57004, 2, none⟩ = some (.int .i64 0) := (blk_cell BK57004.out 2).trans rfl; have hfz25_0 := blk_frozen BK57004.out 0; have hfz25_1 := blk_frozen BK57004.out 1; have hfz25_2 := blk_frozen BK57004.out 2; have hcz26_0 : w23.cell? ⟨gb57002, 0, none⟩ = some (.int .i64 ((rd_T47 l0 x8_1).f0)) := (blk_cell BK57002.out 0).trans rfl; have hcz26_1 : w23.cell? ⟨gb57002, 1, none⟩ = some (.int .i64 ((rd_T47 l0 x8_1).f1)) := (blk_cell BK57002.out 1).trans rfl; have hcz26_2 : w23.cell? ⟨gb57002, 2, none⟩ = some (.int .i64 ((rd_T47 l0 x8_1).f2)) := (blk_cell BK57002.out 2).trans rfl; have hfz26_0 := blk_frozen BK57002.out 0; have hfz26_1 := blk_frozen BK57002.out 1; have hfz26_2 := blk_frozen BK57002.out 2))
                          go_ret
                          exact ⟨by rfl, by repeat (with_reducible first | exact HB.out | refine below_set ?_ GE57004.out)⟩
                        · rw [if_neg c22] at H
                          have c22b0 : decide (((rd_T47 l0 x8_1).f0) < ((rd_T47 l0 ji19).f0)) = false := decide_eq_false c22
                          clear c22
                          by_cases c27 : ((rd_T47 l0 x8_1).f0) = ((rd_T47 l0 ji19).f0)
                          · rw [if_pos c27] at H
                            have c27b0 : (((rd_T47 l0 x8_1).f0) == ((rd_T47 l0 ji19).f0)) = true := beq_iff_eq.mpr c27
                            have c27b1 : (((rd_T47 l0 x8_1).f0) != ((rd_T47 l0 ji19).f0)) = false := bne_eq_false_iff_eq.mpr c27
                            clear c27
                            by_cases c28 : ((rd_T47 l0 x8_1).f1) ≤ ((rd_T47 l0 ji19).f2)
                            · rw [if_pos c28] at H
                              have c28b0 : decide (((rd_T47 l0 x8_1).f1) ≤ ((rd_T47 l0 ji19).f2)) = true := decide_eq_true c28
                              clear c28
                              obtain rfl := Option.some.inj H
                              have p57003 : 0 ≤ (ji19 : Int) := of_decide_eq_true (by (with_reducible assumption))
                              have q57003 : ji19 < (l0.length : Int) := of_decide_eq_true (by (with_reducible assumption))
                              obtain ⟨ad57003, e57003, hx57003_0, hx57003_1, hx57003_2⟩ := at_T47 HR0.out ji19 p57003 q57003
                              obtain rfl : ad57001 = ad57003 := (by injection e57003)
                              replace hx57003_0 := (HB.out.cell (World.block_lt_of_cell? w _ hx57003_0)).trans hx57003_0
                              replace hx57003_1 := (HB.out.cell (World.block_lt_of_cell? w _ hx57003_1)).trans hx57003_1
                              replace hx57003_2 := (HB.out.cell (World.block_lt_of_cell? w _ hx57003_2)).trans hx57003_2
                              replace p57003 := eq_true p57003
                              replace q57003 := eq_true q57003
                              go_wp2_with (first | ((with_reducible refine gate_dst (N := 5) rfl ?_); refine box_event ?hg (N := 5) ?hd (cs := #[.int .i64 0, .int .i64 0, .int .i64 0]) (t := 47) ?hr ?_; (case hd => rfl); (case hg => rfl); (case hr => (go_simp; done)); intro gb57004 hg w29 hbox hb; have n0_ := Aside0.mk (blk_below BK57002.out hb); have n1_ := Aside0.mk (below_step HB.out hb); have n2_ := Aside0.mk (hbox); have n3_ := Aside0.mk ((by rw [hg]; exact (below_size HB.out) : w.heap.size ≤ gb57004)); have n4_ := Aside0.mk ((by rw [hg]; exact (below_size HB.out) : w.heap.size ≤ gb57004)); have n5_ := Aside0.mk ((by rw [hg]; exact Nat.ne_of_lt (blk_lt BK57002.out) : gb57002 ≠ gb57004)); have n6_ := Aside0.mk ((by rw [hg]; exact Nat.ne_of_gt (blk_lt BK57002.out) : gb57004 ≠ gb57002)); clear BK57002; clear HB; have BK57002 := n0_; have HB := n1_; have BK57004 := n2_; have GW57004 := n3_; have GE57004 := n4_; have NB57002_57004 := n5_; have NB57004_57002 := n6_; clear n0_ n1_ n2_ n3_ n4_ n5_ n6_; clear hb hbox hg; have hnb30 := NB57004_57002.out; have hnc30 := NB57002_57004.out; have hcz31_0 : w29.cell? ⟨gb57004, 0, none⟩ = some (.int .i64 0) := (blk_cell BK57004.out 0).trans rfl; have hcz31_1 : w29.cell? ⟨gb57004, 1, none⟩ = some (.int .i64 0) := (blk_cell BK57004.out 1).trans rfl; have hcz31_2 : w29.cell? ⟨gb57004, 2, none⟩ = some (.int .i64 0) := (blk_cell BK57004.out 2).trans rfl; have hfz31_0 := blk_frozen BK57004.out 0; have hfz31_1 := blk_frozen BK57004.out 1; have hfz31_2 := blk_frozen BK57004.out 2; have hcz32_0 : w29.cell? ⟨gb57002, 0, none⟩ = some (.int .i64 ((rd_T47 l0 x8_1).f0)) := (blk_cell BK57002.out 0).trans rfl; have hcz32_1 : w29.cell? ⟨gb57002, 1, none⟩ = some (.int .i64 ((rd_T47 l0 x8_1).f1)) := (blk_cell BK57002.out 1).trans rfl; have hcz32_2 : w29.cell? ⟨gb57002, 2, none⟩ = some (.int .i64 ((rd_T47 l0 x8_1).f2)) := (blk_cell BK57002.out 2).trans rfl; have hfz32_0 := blk_frozen BK57002.out 0; have hfz32_1 := blk_frozen BK57002.out 1; have hfz32_2 := blk_frozen BK57002.out 2))
                              go_ret
                              exact ⟨by rfl, by repeat (with_reducible first | exact HB.out | refine below_set ?_ GE57004.out)⟩
                            · rw [if_neg c28] at H
                              have c28b0 : decide (((rd_T47 l0 x8_1).f1) ≤ ((rd_T47 l0 ji19).f2)) = false := decide_eq_false c28
                              clear c28
                              have H' := Aside0.mk H
                              clear H
                              have p57003 : 0 ≤ (ji19 : Int) := of_decide_eq_true (by (with_reducible assumption))
                              have q57003 : ji19 < (l0.length : Int) := of_decide_eq_true (by (with_reducible assumption))
                              obtain ⟨ad57003, e57003, hx57003_0, hx57003_1, hx57003_2⟩ := at_T47 HR0.out ji19 p57003 q57003
                              obtain rfl : ad57001 = ad57003 := (by injection e57003)
                              replace hx57003_0 := (HB.out.cell (World.block_lt_of_cell? w _ hx57003_0)).trans hx57003_0
                              replace hx57003_1 := (HB.out.cell (World.block_lt_of_cell? w _ hx57003_1)).trans hx57003_1
                              replace hx57003_2 := (HB.out.cell (World.block_lt_of_cell? w _ hx57003_2)).trans hx57003_2
                              replace p57003 := eq_true p57003
                              replace q57003 := eq_true q57003
                              go_wp2_with (first | ((with_reducible refine gate_dst (N := 5) rfl ?_); refine box_event ?hg (N := 5) ?hd (cs := #[.int .i64 0, .int .i64 0, .int .i64 0]) (t := 47) ?hr ?_; (case hd => rfl); (case hg => rfl); (case hr => (go_simp; done)); intro gb57004 hg w33 hbox hb; have n0_ := Aside0.mk (blk_below BK57002.out hb); have n1_ := Aside0.mk (below_step HB.out hb); have n2_ := Aside0.mk (hbox); have n3_ := Aside0.mk ((by rw [hg]; exact (below_size HB.out) : w.heap.size ≤ gb57004)); have n4_ := Aside0.mk ((by rw [hg]; exact (below_size HB.out) : w.heap.size ≤ gb57004)); have n5_ := Aside0.mk ((by rw [hg]; exact Nat.ne_of_lt (blk_lt BK57002.out) : gb57002 ≠ gb57004)); have n6_ := Aside0.mk ((by rw [hg]; exact Nat.ne_of_gt (blk_lt BK57002.out) : gb57004 ≠ gb57002)); clear BK57002; clear HB; have BK57002 := n0_; have HB := n1_; have BK57004 := n2_; have GW57004 := n3_; have GE57004 := n4_; have NB57002_57004 := n5_; have NB57004_57002 := n6_; clear n0_ n1_ n2_ n3_ n4_ n5_ n6_; clear hb hbox hg; have hnb34 := NB57004_57002.out; have hnc34 := NB57002_57004.out; have hcz35_0 : w33.cell? ⟨gb57004, 0, none⟩ = some (.int .i64 0) := (blk_cell BK57004.out 0).trans rfl; have hcz35_1 : w33.cell? ⟨gb57004, 1, none⟩ = some (.int .i64 0) := (blk_cell BK57004.out 1).trans rfl; have hcz35_2 : w33.cell? ⟨gb57004, 2, none⟩ = some (.int .i64 0) := (blk_cell BK57004.out 2).trans rfl; have hfz35_0 := blk_frozen BK57004.out 0; have hfz35_1 := blk_frozen BK57004.out 1; have hfz35_2 := blk_frozen BK57004.out 2; have hcz36_0 : w33.cell? ⟨gb57002, 0, none⟩ = some (.int .i64 ((rd_T47 l0 x8_1).f0)) := (blk_cell BK57002.out 0).trans rfl; have hcz36_1 : w33.cell? ⟨gb57002, 1, none⟩ = some (.int .i64 ((rd_T47 l0 x8_1).f1)) := (blk_cell BK57002.out 1).trans rfl; have hcz36_2 : w33.cell? ⟨gb57002, 2, none⟩ = some (.int .i64 ((rd_T47 l0 x8_1).f2)) := (blk_cell BK57002.out 2).trans rfl; have hfz36_0 := blk_frozen BK57002.out 0; have hfz36_1 := blk_frozen BK57002.out 1; have hfz36_2 := blk_frozen BK57002.out 2))
                              go_roundg kj4
                              case measure => have := HK1.out; have := HJ4.out; omega
                              case rel => exact ⟨(wrap64 (x8_1 + 1)), (by rfl), H', ⟨by have := HK1.out; have := HJ4.out; omega⟩, ⟨by repeat (with_reducible first | exact HB.out | refine below_set ?_ GE57004.out)⟩⟩
                          · rw [if_neg c27] at H
                            have c27b0 : (((rd_T47 l0 x8_1).f0) == ((rd_T47 l0 ji19).f0)) = false := beq_eq_false_iff_ne.mpr c27
                            have c27b1 : (((rd_T47 l0 x8_1).f0) != ((rd_T47 l0 ji19).f0)) = true := bne_iff_ne.mpr c27
                            have H' := Aside0.mk H
                            clear H
                            have p57003 : 0 ≤ (ji19 : Int) := of_decide_eq_true (by (with_reducible assumption))
                            have q57003 : ji19 < (l0.length : Int) := of_decide_eq_true (by (with_reducible assumption))
                            obtain ⟨ad57003, e57003, hx57003_0, hx57003_1, hx57003_2⟩ := at_T47 HR0.out ji19 p57003 q57003
                            obtain rfl : ad57001 = ad57003 := (by injection e57003)
                            replace hx57003_0 := (HB.out.cell (World.block_lt_of_cell? w _ hx57003_0)).trans hx57003_0
                            replace hx57003_1 := (HB.out.cell (World.block_lt_of_cell? w _ hx57003_1)).trans hx57003_1
                            replace hx57003_2 := (HB.out.cell (World.block_lt_of_cell? w _ hx57003_2)).trans hx57003_2
                            replace p57003 := eq_true p57003
                            replace q57003 := eq_true q57003
                            go_wp2_with (first | ((with_reducible refine gate_dst (N := 5) rfl ?_); refine box_event ?hg (N := 5) ?hd (cs := #[.int .i64 0, .int .i64 0, .int .i64 0]) (t := 47) ?hr ?_; (case hd => rfl); (case hg => rfl); (case hr => (go_simp; done)); intro gb57004 hg w37 hbox hb; have n0_ := Aside0.mk (blk_below BK57002.out hb); have n1_ := Aside0.mk (below_step HB.out hb); have n2_ := Aside0.mk (hbox); have n3_ := Aside0.mk ((by rw [hg]; exact (below_size HB.out) : w.heap.size ≤ gb57004)); have n4_ := Aside0.mk ((by rw [hg]; exact (below_size HB.out) : w.heap.size ≤ gb57004)); have n5_ := Aside0.mk ((by rw [hg]; exact Nat.ne_of_lt (blk_lt BK57002.out) : gb57002 ≠ gb57004)); have n6_ := Aside0.mk ((by rw [hg]; exact Nat.ne_of_gt (blk_lt BK57002.out) : gb57004 ≠ gb57002)); clear BK57002; clear HB; have BK57002 := n0_; have HB := n1_; have BK57004 := n2_; have GW57004 := n3_; have GE57004 := n4_; have NB57002_57004 := n5_; have NB57004_57002 := n6_; clear n0_ n1_ n2_ n3_ n4_ n5_ n6_; clear hb hbox hg; have hnb38 := NB57004_57002.out; have hnc38 := NB57002_57004.out; have hcz39_0 : w37.cell? ⟨gb57004, 0, none⟩ = some (.int .i64 0) := (blk_cell BK57004.out 0).trans rfl; have hcz39_1 : w37.cell? ⟨gb57004, 1, none⟩ = some (.int .i64 0) := (blk_cell BK57004.out 1).trans rfl; have hcz39_2 : w37.cell? ⟨gb57004, 2, none⟩ = some (.int .i64 0) := (blk_cell BK57004.out 2).trans rfl; have hfz39_0 := blk_frozen BK57004.out 0; have hfz39_1 := blk_frozen BK57004.out 1; have hfz39_2 := blk_frozen BK57004.out 2; have hcz40_0 : w37.cell? ⟨gb57002, 0, none⟩ = some (.int .i64 ((rd_T47 l0 x8_1).f0)) := (blk_cell BK57002.out 0).trans rfl; have hcz40_1 : w37.cell? ⟨gb57002, 1, none⟩ = some (.int .i64 ((rd_T47 l0 x8_1).f1)) := (blk_cell BK57002.out 1).trans rfl; have hcz40_2 : w37.cell? ⟨gb57002, 2, none⟩ = some (.int .i64 ((rd_T47 l0 x8_1).f2)) := (blk_cell BK57002.out 2).trans rfl; have hfz40_0 := blk_frozen BK57002.out 0; have hfz40_1 := blk_frozen BK57002.out 1; have hfz40_2 := blk_frozen BK57002.out 2))
                            go_roundg kj4
                            case measure => have := HK1.out; have := HJ4.out; omega
                            case rel => exact ⟨(wrap64 (x8_1 + 1)), (by rfl), H', ⟨by have := HK1.out; have := HJ4.out; omega⟩, ⟨by repeat (with_reducible first | exact HB.out | refine below_set ?_ GE57004.out)⟩⟩
                      · rw [if_neg c21] at H
                        exact absurd H (by simp)
                    · rw [if_neg c20] at H
                      exact absurd H (by simp)
          · rw [if_neg c4] at H
            exact absurd H (by simp)
        · rw [if_neg c3] at H
          exact absurd H (by simp)
      · rw [if_neg c2] at H
        have c2b0 : decide (x8_1 < (l0.length : Int)) = false := decide_eq_false c2
        clear c2
        obtain rfl := Option.some.inj H
        go_wp2
        go_ret
        exact ⟨by rfl, by exact HB.out⟩

end Go.Proofs.Ytbgohbinonkhfaa.Q

/- Runs: what the program and the reference take for a region. -/
namespace Go.Proofs.Ytbgohbinonkhfaa.Pure
open Go.RowKit Go.Proofs.Ytbgohbinonkhfaa.Q Go.Proofs.YtbgohbinonkhfaaW.PrintWords Go.Proofs.YtbgohbinonkhfaaW.PrintLast Go.Proofs.YtbgohbinonkhfaaW.PrintMore
set_option linter.unusedVariables false
set_option linter.unusedSimpArgs false

abbrev Run := S47
theorem rdRun (l : List Run) (i : Nat) (h : i < l.length) : rd_T47 l (i : Int) = l[i] := by simp [rd_T47, h]
def runOK (r : Run) : Bool := decide (0 ≤ r.f0) && decide (r.f0 < 16) && decide (0 ≤ r.f1) && decide (r.f1 < r.f2) && decide (r.f2 ≤ 16)
theorem runOK_iff (r : Run) : runOK r = true ↔ 0 ≤ r.f0 ∧ r.f0 < 16 ∧ 0 ≤ r.f1 ∧ r.f1 < r.f2 ∧ r.f2 ≤ 16 := by
  simp [runOK, and_assoc]
def runAfter (p r : Run) : Bool := decide (p.f0 < r.f0) || (decide (p.f0 = r.f0) && decide (p.f2 < r.f1))
theorem runAfter_iff (p r : Run) : runAfter p r = true ↔ p.f0 < r.f0 ∨ (p.f0 = r.f0 ∧ p.f2 < r.f1) := by
  simp [runAfter]
/-- Runs of a region: each in range, and behind the one before it. -/
def validFrom : Option Run → List Run → Bool
  | _, [] => true
  | none, r :: rs => runOK r && validFrom (some r) rs
  | some p, r :: rs => (runOK r && runAfter p r) && validFrom (some r) rs
def validR (l : List Run) : Bool := validFrom none l
def before (l : List Run) (i : Nat) : Option Run := if i = 0 then none else l[i - 1]?
theorem before_zero (l : List Run) : before l 0 = none := rfl
theorem before_succ (l : List Run) (i : Nat) (h : i < l.length) : before l (i + 1) = some l[i] := by simp [before, h]
theorem validFrom_at (l : List Run) (i : Nat) (h : i < l.length) : validFrom (before l i) (l.drop i) = ((runOK l[i] && (match before l i with | none => true | some p => runAfter p l[i])) && validFrom (before l (i + 1)) (l.drop (i + 1))) := by
  rw [List.drop_eq_getElem_cons h, before_succ l i h]
  cases before l i with
  | none => simp [validFrom]
  | some p => rfl
theorem ival_j1 (l : List Run) (i k : Nat) (hl : l.length ≤ 9223372036854775807) (h : i < l.length) (b : Bool) :
    impl_isRegion.j1 (k + 1) l i l (l.length : Int) i b l[i].f0 l[i].f1 l[i].f2 = if b = true then some false else if (match before l i with | none => true | some p => runAfter p l[i]) = true then impl_isRegion.l0 k l l (l.length : Int) ((i + 1 : Nat) : Int) else some false := by
  simp only [impl_isRegion.j1]
  by_cases hb : b = true
  · rw [if_pos hb, if_pos hb]
  rw [if_neg hb, if_neg hb, w64n i (by omega)]
  cases i with
  | zero => simp [before]
  | succ i =>
    have e : ((i + 1 : Nat) : Int) - 1 = (i : Int) := by omega
    rw [if_neg (by omega), w64 (x := ((i + 1 : Nat) : Int) - 1) (by omega) (by omega), e, if_pos (by omega), if_pos (by omega), rdRun l i (by omega), before_succ l i (by omega)]
    simp only
    by_cases c1 : l[i + 1].f0 < l[i].f0
    · rw [if_pos c1, if_neg (by rw [runAfter_iff]; omega)]
    rw [if_neg c1]
    by_cases c2 : l[i + 1].f0 = l[i].f0
    · rw [if_pos c2]
      by_cases c3 : l[i + 1].f1 ≤ l[i].f2
      · rw [if_pos c3, if_neg (by rw [runAfter_iff]; omega)]
      · rw [if_neg c3, if_pos (by rw [runAfter_iff]; omega)]
    · rw [if_neg c2, if_pos (by rw [runAfter_iff]; omega)]
theorem impl_isRegion_eq (l : List Run) (hl : l.length ≤ 9223372036854775807) (k : Nat) (hk : 2 * l.length + 1 < k) : impl_isRegion.f k l = some (validR l) := by
  have key : ∀ d i k, i + d = l.length → 2 * d < k → impl_isRegion.l0 k l l (l.length : Int) (i : Int) = some (validFrom (before l i) (l.drop i)) := by
    intro d
    induction d with
    | zero =>
      intro i k hi hk
      obtain ⟨k, rfl⟩ : ∃ m, k = m + 1 := ⟨k - 1, by omega⟩
      simp only [impl_isRegion.l0]
      rw [if_neg (by omega), List.drop_of_length_le (by omega)]
      cases before l i <;> rfl
    | succ d ih =>
      intro i k hi hk
      obtain ⟨k, rfl⟩ : ∃ m, k = m + 1 + 1 := ⟨k - 2, by omega⟩
      have hlt : i < l.length := by omega
      have hn := ih (i + 1) k (by omega) (by omega)
      rw [validFrom_at l i hlt]
      simp only [impl_isRegion.l0]
      rw [if_pos (by omega), if_pos (by omega), rdRun l i hlt]
      simp only [if_pos (show (i : Int) < (l.length : Int) by omega), ival_j1 l i k hl hlt, hn]
      by_cases c : runOK l[i] = true
      · rw [c, Bool.true_and]
        rw [runOK_iff] at c
        rw [if_neg (by omega), if_neg (by omega), if_neg (by omega), if_neg (by omega), if_neg (by simp; omega)]
        cases (match before l i with | none => true | some p => runAfter p l[i]) <;> rfl
      · have hc := c
        rw [runOK_iff] at c
        simp only [Bool.not_eq_true] at hc
        rw [hc, Bool.false_and, Bool.false_and]
        try simp only [if_true]
        by_cases c1 : l[i].f0 < 0
        · rw [if_pos c1]
        rw [if_neg c1]
        by_cases c2 : l[i].f0 ≥ 16
        · rw [if_pos c2]
        rw [if_neg c2]
        by_cases c3 : l[i].f1 < 0
        · rw [if_pos c3]
        rw [if_neg c3]
        by_cases c4 : l[i].f2 ≤ l[i].f1
        · rw [if_pos c4]
        rw [if_neg c4, if_pos (by simp; omega)]
  unfold impl_isRegion.f
  have := key l.length 0 k (by omega) (by omega)
  simpa [before_zero, validR] using this
theorem validFrom_ok (l : List Run) : ∀ p, validFrom p l = true → ∀ r ∈ l, runOK r = true := by
  induction l with
  | nil => intro p _ r hr; cases hr
  | cons x xs ih =>
    intro p h r hr
    have h2 : runOK x = true ∧ validFrom (some x) xs = true := by
      cases p with
      | none => simpa [validFrom] using h
      | some p => simp [validFrom] at h; exact ⟨h.1.1, h.2⟩
    rcases List.mem_cons.1 hr with rfl | hr
    · exact h2.1
    · exact ih _ h2.2 r hr
theorem valid_ok {l : List Run} (h : validR l = true) : ∀ r ∈ l, runOK r = true := validFrom_ok l none h
theorem valid_ranges {l : List Run} (h : validR l = true) : ∀ r ∈ l, 0 ≤ r.f0 ∧ r.f0 < 16 ∧ 0 ≤ r.f1 ∧ r.f2 ≤ 16 := by
  intro r hr
  have := (runOK_iff r).1 (valid_ok h r hr)
  omega
end Go.Proofs.Ytbgohbinonkhfaa.Pure

/- impl.CombineRegions: the runs of the grid of the pixels for which a rule holds for two regions. -/
namespace Go.Proofs.Ytbgohbinonkhfaa.Q
open Go.RowKit Go.Proofs.YtbgohbinonkhfaaW.PrintWords Go.Proofs.YtbgohbinonkhfaaW.PrintLast Go.Proofs.YtbgohbinonkhfaaW.PrintMore
attribute [local go_sem] max2_int min2_int max_two min_two max_three min_three max_four min_four
set_option linter.unusedVariables false
set_option linter.unusedSimpArgs false
open Go.Proofs.Ytbgohbinonkhfaa.Pure

/-- the rule of a kind -/
def combB (k : Int) (p q : Bool) : Bool := if k = 0 then p || q else if k = 1 then p && q else if k = 2 then p && !q else p != q
def combG (k : Int) (g1 g2 : Nat → Bool) (x y : Nat) : Bool := combB k (g1 (y * 16 + x)) (g2 (y * 16 + x))
def impl_CombineRegions.f (l0 l1 : List S47) (k : Int) : Option (List S47 × Bool) :=
  some (if (validR l0 && validR l1 && decide (0 ≤ k ∧ k ≤ 3)) = true then (runsL (gso (combG k (gridF l0) (gridF l1)) 256), true) else ([], false))

set_option maxHeartbeats 800000 in
set_option maxRecDepth 100000 in
theorem comb_calls (g1 g2 : Nat → Bool) (k : Int) (hk : 0 ≤ k ∧ k ≤ 3) (x y : Nat) (hx : x < 16) (hy : y < 16) (B1 B2 B3 : Nat) (w : World)
    (h1 : GridAt w B1 g1) (h2 : GridAt w B2 g2) (h3 : w.heap[B3]? = some (.cells #[.int .i64 k] 3 (0, 0))) :
    Calls Try.prog 102 #[.int .i64 (x : Int), .int .i64 (y : Int), .pointer (some ⟨B1, 0, none⟩), .pointer (some ⟨B2, 0, none⟩), .pointer (some ⟨B3, 0, none⟩)] w fun e w' => e = .returned (.bool (combG k g1 g2 x y)) ∧ Below w.heap.size w w' := by
  have c1 := h1.cell (y * 16 + x) (by omega)
  have c2 := h2.cell (y * 16 + x) (by omega)
  have c3 : w.cell? ⟨B3, 0, none⟩ = some (.int .i64 k) := (blk_cell h3 0).trans rfl
  clear h1 h2 h3
  obtain rfl | rfl | rfl | rfl : k = 0 ∨ k = 1 ∨ k = 2 ∨ k = 3 := by omega
  all_goals clear hk
  all_goals
    cases hp : g1 (y * 16 + x) <;> cases hq : g2 (y * 16 + x) <;> rw [hp] at c1 <;> rw [hq] at c2
  all_goals
    have HE := Aside0.mk (show ∀ k, combG k g1 g2 x y = combB k (g1 (y * 16 + x)) (g2 (y * 16 + x)) from fun _ => rfl)
    rw [hp, hq] at HE
    clear hp hq
    go_enter Try.func102, Try.ntmps102
    go_wp2
    go_quiet (fail)
    go_wp2
    go_ret
    exact ⟨by rw [HE.out]; rfl, pw_below_drewN (Below.refl _ _) _⟩

theorem setRow_keep' {W : World} {k g : Nat} {o : Obj} (h : W.heap[k]? = some o) (cs : Array Value) (hk : k ≠ g) : (W.setRow g cs).heap[k]? = some o := (setRow_other W g k cs hk).trans h

set_option maxHeartbeats 800000 in
set_option maxRecDepth 100000 in
theorem impl_CombineRegions.calls (A0 : Option Addr) (c0 : Nat) (l0 : List S47) (A1 : Option Addr) (c1 : Nat) (l1 : List S47) (a2 : Int) (r1 : List S47) (r2 : Bool) (w : World) (hr0 : Kd.C k47 w A0 l0.length l0) (hc0 : l0.length ≤ c0) (hr1 : Kd.C k47 w A1 l1.length l1) (hc1 : l1.length ≤ c1) (h : impl_CombineRegions.f l0 l1 a2 = some (r1, r2)) :
    Calls Try.prog 74 #[.slice A0 l0.length c0, .slice A1 l1.length c1, .int .i64 a2] w fun e w' => ∃ v0_ : Value, e = .returned (.tuple #[v0_, .bool r2]) ∧ Kd.R k47 47 w' w.heap.size (fun _ => True) v0_ r1 ∧ Below w.heap.size w w' := by
  have h' := Option.some.inj h
  clear h
  have HB0 := Aside0.mk (below_alloc (Below.refl w.heap.size w) (.cells #[.int .i64 a2] 3))
  have HK := Aside0.mk (blk_new w (.cells #[.int .i64 a2] 3))
  have HR0 := Aside0.mk (Kd.C_below hr0 HB0.out)
  have HR1 := Aside0.mk (Kd.C_below hr1 HB0.out)
  have HC0 := Aside0.mk (fun W (hb : Below (w.alloc (.cells #[.int .i64 a2] 3)).heap.size (w.alloc (.cells #[.int .i64 a2] 3)) W) => impl_isRegion.calls (2 * l0.length + 2) A0 c0 l0 (validR l0) W (Kd.C_below HR0.out hb) hc0 (impl_isRegion_eq l0 hr0.2.1 _ (by omega)))
  have HC1 := Aside0.mk (fun W (hb : Below (w.alloc (.cells #[.int .i64 a2] 3)).heap.size (w.alloc (.cells #[.int .i64 a2] 3)) W) => impl_isRegion.calls (2 * l1.length + 2) A1 c1 l1 (validR l1) W (Kd.C_below HR1.out hb) hc1 (impl_isRegion_eq l1 hr1.2.1 _ (by omega)))
  have q0 := (blk_cell HK.out 0).trans (show (#[.int .i64 a2] : Array Value)[0]? = some (.int .i64 a2) from rfl)
  clear hr0 hr1
  by_cases hv0 : validR l0 = true
  · by_cases hv1 : validR l1 = true
    · by_cases hk : 0 ≤ a2 ∧ a2 ≤ 3
      · have HV0 := Aside0.mk (valid_ranges hv0)
        have HV1 := Aside0.mk (valid_ranges hv1)
        rw [hv0, hv1, decide_eq_true hk, if_pos (by rfl)] at h'
        obtain ⟨rfl, rfl⟩ := Prod.mk.inj h'
        clear h'
        rw [hv0] at HC0
        rw [hv1] at HC1
        clear hv0 hv1
        have d1 : decide (a2 < 0) = false := by simp; omega
        have d2 : decide (3 < a2) = false := by simp; omega
        have HH := Aside0.mk hk
        clear hk
        have z0 := zero66
        have HSZ := Aside0.mk (fun g : Nat → Bool => show (gc fun _ => false).size = (gc g).size by rw [gc_size, gc_size])
        have HO := Aside0.mk (fun g : Nat → Bool => gc_one g)
        have HI := Aside0.mk (fun g : Nat → Bool => show (Try.prog.info? 75).map (·.size) = some (gc g).size by rw [gc_size]; exact info66)
        go_enter Try.func74, Try.ntmps74
        go_wp2_with (first
          | (go_at_call 56; (with_reducible refine (HC0.out _ (Below.refl _ _)).mono ?_); rintro e w1 ⟨rfl, hb1⟩; have HB1 := Aside0.mk hb1; clear hb1)
          | (go_at_call 56; (with_reducible refine (HC1.out w1 HB1.out).mono ?_); rintro e w2 ⟨rfl, hb2⟩; have HB2 := Aside0.mk (below_then HB1.out HB1.out.size hb2); clear hb2; have q2 : w2.cell? ⟨w.heap.size, 0, none⟩ = some (.int .i64 a2) := (blk_cell (blk_below HK.out HB2.out) 0).trans rfl)
          | (go_at_call 57; (with_reducible refine (gridOf_calls _ _ l0 w2 (Kd.C_below HR0.out HB2.out) HV0.out).mono ?_); rintro e w3 ⟨rfl, hb3⟩; have HB3 := Aside0.mk (below_then HB2.out HB2.out.size hb3); clear hb3)
          | (go_at_call 57; (with_reducible refine (gridOf_calls _ _ l1 w3 (Kd.C_below HR1.out HB3.out) HV1.out).mono ?_); rintro e w4 ⟨rfl, hb4⟩; have HB4 := Aside0.mk (below_then HB3.out HB3.out.size hb4); clear hb4;
              have HK4 := Aside0.mk (setRow_keep' (setRow_keep' (blk_alloc (blk_alloc (blk_below HK.out HB4.out) (.cells (gc fun _ => false) 75)) (.cells (gc fun _ => false) 75)) (gc (gridF l0)) (show w.heap.size ≠ w4.heap.size by have := HB4.out.size; simp only [World.size_alloc] at this; omega)) (gc (gridF l1)) (show w.heap.size ≠ w4.heap.size + 1 by have := HB4.out.size; simp only [World.size_alloc] at this; omega));
              have HA4 : Aside0 (((w4.alloc (.cells (gc fun _ => false) 75)).alloc (.cells (gc fun _ => false) 75)).heap[w4.heap.size]? = some (.cells (gc fun _ => false) 75 (0, 0))) := Aside0.mk (blk_alloc (blk_new w4 (.cells (gc fun _ => false) 75)) (.cells (gc fun _ => false) 75));
              have HA5 : Aside0 ((((w4.alloc (.cells (gc fun _ => false) 75)).alloc (.cells (gc fun _ => false) 75)).setRow w4.heap.size (gc (gridF l0))).heap[w4.heap.size + 1]? = some (.cells (gc fun _ => false) 75 (0, 0))) := Aside0.mk (setRow_keep' (by have h := blk_new (w4.alloc (.cells (gc fun _ => false) 75)) (.cells (gc fun _ => false) 75); simp only [World.size_alloc] at h; exact h) (gc (gridF l0)) (by omega));
              have HG1 : Aside0 (GridAt ((((w4.alloc (.cells (gc fun _ => false) 75)).alloc (.cells (gc fun _ => false) 75)).setRow w4.heap.size (gc (gridF l0))).setRow (w4.heap.size + 1) (gc (gridF l1))) w4.heap.size (gridF l0)) := Aside0.mk (setRow_keep' (GridAt.setRow (g := fun _ => false) HA4.out (gridF l0)) (gc (gridF l1)) (by omega));
              have HG2 : Aside0 (GridAt ((((w4.alloc (.cells (gc fun _ => false) 75)).alloc (.cells (gc fun _ => false) 75)).setRow w4.heap.size (gc (gridF l0))).setRow (w4.heap.size + 1) (gc (gridF l1))) (w4.heap.size + 1) (gridF l1)) := Aside0.mk (GridAt.setRow (g := fun _ => false) HA5.out (gridF l1));
              have HB5 := Aside0.mk (below_setRow (below_setRow (below_alloc (below_alloc (below_then HB0.out HB0.out.size HB4.out) (.cells (gc fun _ => false) 75)) (.cells (gc fun _ => false) 75)) (show w.heap.size ≤ w4.heap.size from (below_then HB0.out HB0.out.size HB4.out).size) (gc (gridF l0))) (show w.heap.size ≤ w4.heap.size + 1 from Nat.le_succ_of_le (below_then HB0.out HB0.out.size HB4.out).size) (gc (gridF l1))))
          | ((with_reducible refine wpList_store_row rfl 75 (.tmp 8) (.tmp 27) rfl w4.heap.size (gc (gridF l0)) ?hx ?hy 75 (gc fun _ => false) HA4.out (HI.out _) (HSZ.out _) (HO.out _) ?_); (case hx => rfl); (case hy => rfl))
          | ((with_reducible refine wpList_store_row rfl 75 (.tmp 9) (.tmp 29) rfl (w4.heap.size + 1) (gc (gridF l1)) ?hx ?hy 75 (gc fun _ => false) HA5.out (HI.out _) (HSZ.out _) (HO.out _) ?_); (case hx => rfl); (case hy => rfl))
          | (go_at_call 67; refine (gridBy_calls 102 #[.pointer (some ⟨w4.heap.size, 0, none⟩), .pointer (some ⟨w4.heap.size + 1, 0, none⟩), .pointer (some ⟨w.heap.size, 0, none⟩)] (combG a2 (gridF l0) (gridF l1)) ((((w4.alloc (.cells (gc fun _ => false) 75)).alloc (.cells (gc fun _ => false) 75)).setRow w4.heap.size (gc (gridF l0))).setRow (w4.heap.size + 1) (gc (gridF l1))) (enters_of Try.func102 (by kernel_rfl) rfl) (fun W x y hx hy hW => comb_calls (gridF l0) (gridF l1) a2 HH.out x y hx hy _ _ _ W (HG1.out.below hW) (HG2.out.below hW) (blk_below HK4.out hW))).mono ?_; rintro e w5 ⟨rfl, hb5⟩; have HB6 := Aside0.mk (below_then HB5.out HB5.out.size hb5); clear hb5)
          | (go_at_call 71; refine (runs_calls _ _).mono ?_; rintro e w6 ⟨v6, rfl, hr6, hb6⟩; have HR6 := Aside0.mk (Kd.R_lower hr6 HB6.out.size); have HB7 := Aside0.mk (below_then HB6.out HB6.out.size hb6); clear hb6 hr6))
        go_ret2
        exact ⟨v6, rfl, HR6.out, HB7.out⟩
      · rw [hv0, hv1, decide_eq_false hk, if_neg (by decide)] at h'
        obtain ⟨rfl, rfl⟩ := Prod.mk.inj h'
        clear h'
        rw [hv0] at HC0
        rw [hv1] at HC1
        clear hv0 hv1
        by_cases hk0 : a2 < 0
        · have d1 : decide (a2 < 0) = true := by simp; omega
          clear hk hk0
          go_enter Try.func74, Try.ntmps74
          go_wp2_with (first | (go_at_call 56; (with_reducible refine (HC0.out _ (Below.refl _ _)).mono ?_); rintro e w1 ⟨rfl, hb1⟩; have HB1 := Aside0.mk hb1; clear hb1) | (go_at_call 56; (with_reducible refine (HC1.out w1 HB1.out).mono ?_); rintro e w2 ⟨rfl, hb2⟩; have HB2 := Aside0.mk (below_then HB1.out HB1.out.size hb2); clear hb2; have q2 : w2.cell? ⟨w.heap.size, 0, none⟩ = some (.int .i64 a2) := (blk_cell (blk_below HK.out HB2.out) 0).trans rfl))
          go_ret2
          exact ⟨_, rfl, Kd.R_nil _ _ _ _ _, below_then HB0.out HB0.out.size HB2.out⟩
        · have d1 : decide (a2 < 0) = false := by simp; omega
          have d2 : decide (3 < a2) = true := by simp; omega
          clear hk hk0
          go_enter Try.func74, Try.ntmps74
          go_wp2_with (first | (go_at_call 56; (with_reducible refine (HC0.out _ (Below.refl _ _)).mono ?_); rintro e w1 ⟨rfl, hb1⟩; have HB1 := Aside0.mk hb1; clear hb1) | (go_at_call 56; (with_reducible refine (HC1.out w1 HB1.out).mono ?_); rintro e w2 ⟨rfl, hb2⟩; have HB2 := Aside0.mk (below_then HB1.out HB1.out.size hb2); clear hb2; have q2 : w2.cell? ⟨w.heap.size, 0, none⟩ = some (.int .i64 a2) := (blk_cell (blk_below HK.out HB2.out) 0).trans rfl))
          go_ret2
          exact ⟨_, rfl, Kd.R_nil _ _ _ _ _, below_then HB0.out HB0.out.size HB2.out⟩
    · replace hv1 : validR l1 = false := by simpa using hv1
      rw [hv0, hv1, if_neg (by simp)] at h'
      obtain ⟨rfl, rfl⟩ := Prod.mk.inj h'
      clear h'
      rw [hv0] at HC0
      rw [hv1] at HC1
      clear hv0 hv1
      go_enter Try.func74, Try.ntmps74
      go_wp2_with (first | (go_at_call 56; (with_reducible refine (HC0.out _ (Below.refl _ _)).mono ?_); rintro e w1 ⟨rfl, hb1⟩; have HB1 := Aside0.mk hb1; clear hb1) | (go_at_call 56; (with_reducible refine (HC1.out w1 HB1.out).mono ?_); rintro e w2 ⟨rfl, hb2⟩; have HB2 := Aside0.mk (below_then HB1.out HB1.out.size hb2); clear hb2; have q2 : w2.cell? ⟨w.heap.size, 0, none⟩ = some (.int .i64 a2) := (blk_cell (blk_below HK.out HB2.out) 0).trans rfl))
      go_ret2
      exact ⟨_, rfl, Kd.R_nil _ _ _ _ _, below_then HB0.out HB0.out.size HB2.out⟩
  · replace hv0 : validR l0 = false := by simpa using hv0
    rw [hv0, if_neg (by simp)] at h'
    obtain ⟨rfl, rfl⟩ := Prod.mk.inj h'
    clear h'
    rw [hv0] at HC0
    clear hv0
    go_enter Try.func74, Try.ntmps74
    go_wp2_with (first
      | (go_at_call 56; (with_reducible refine (HC0.out _ (Below.refl _ _)).mono ?_); rintro e w1 ⟨rfl, hb1⟩; have HB1 := Aside0.mk hb1; clear hb1))
    go_ret2
    exact ⟨_, rfl, Kd.R_nil _ _ _ _ _, below_then HB0.out HB0.out.size HB1.out⟩
end Go.Proofs.Ytbgohbinonkhfaa.Q

namespace Go.Proofs.Ytbgohbinonkhfaa.Q
open Go.RowKit Go.Proofs.YtbgohbinonkhfaaW.PrintWords Go.Proofs.YtbgohbinonkhfaaW.PrintLast Go.Proofs.YtbgohbinonkhfaaW.PrintMore
attribute [local go_sem] max2_int min2_int max_two min_two max_three min_three max_four min_four
set_option linter.unusedVariables false
set_option linter.unusedSimpArgs false
def laws_combined.f (l0 : List (S47)) (l1 : List (S47)) (a2 : Int) : Option ((List (S47))) := (impl_CombineRegions.f l0 l1 a2).bind fun bt29001 => (some bt29001.1)
set_option maxHeartbeats 8000000 in
set_option maxRecDepth 100000 in
theorem laws_combined.calls (A0 : Option Addr) (c0 : Nat) (l0 : List (S47)) (A1 : Option Addr) (c1 : Nat) (l1 : List (S47)) (a2 : Int) (r : List (S47)) (w : World) (hr0 : Kd.C k47 w A0 l0.length l0) (hc0 : l0.length ≤ c0) (hr1 : Kd.C k47 w A1 l1.length l1) (hc1 : l1.length ≤ c1) (h : laws_combined.f l0 l1 a2 = some r) :
    Calls Try.prog 28 #[.slice A0 l0.length c0, .slice A1 l1.length c1, .int .i64 a2] w fun e w' => ∃ v0_ : Value, e = .returned (v0_) ∧ Kd.R k47 47 w' w.heap.size (fun _ => True) v0_ r ∧ Below w.heap.size w w' := by
  have HR0 := Aside0.mk hr0
  have HC0 := Aside0.mk hc0
  clear hr0 hc0
  have HR1 := Aside0.mk hr1
  have HC1 := Aside0.mk hc1
  clear hr1 hc1
  have HB := Aside0.mk (Below.refl w.heap.size w)
  have H : ((impl_CombineRegions.f l0 l1 a2).bind fun bt29001 => (some bt29001.1)) = some r := h
  clear h
  replace H := Option.bind_eq_some_iff.mp H
  obtain ⟨⟨t29001, t29002⟩, A40, H⟩ := H
  replace H : (some t29001) = some r := H
  have A4 := Aside0.mk A40
  clear A40
  obtain rfl := Option.some.inj H
  go_enter Try.func28, Try.ntmps28
  go_wp2_with (first | ((with_reducible refine gate_callee (f := 74) rfl ?_); refine goesL_ (some 13) rfl rfl Try.func74 (by kernel_rfl) rfl #[.slice A0 l0.length c0, .slice A1 l1.length c1, .int .i64 a2] rfl (by (try simp only [List.map_toArray, List.map_cons, List.map_nil]); first | done | rfl | (simp only [List.length_drop, List.length_take]; rfl)) ?_; (with_reducible refine (impl_CombineRegions.calls _ _ l0 _ _ l1 a2 t29001 t29002 _ ?side1 ?side2 ?side3 ?side4 A4.out).mono ?_); (case side1 => repeat (first | exact HR0.out | (with_reducible refine Kd.C_alloc ?_ _) | (with_reducible refine Kd.C_drewN ?_ _) | (with_reducible refine Kd.C_drew ?_))); (case side2 => exact HC0.out); (case side3 => repeat (first | exact HR1.out | (with_reducible refine Kd.C_alloc ?_ _) | (with_reducible refine Kd.C_drewN ?_ _) | (with_reducible refine Kd.C_drew ?_))); (case side4 => exact HC1.out); rintro e w5 ⟨v29003, rfl, ho0, hb⟩; refine ⟨_, rfl, ?_⟩; have n0_ := Aside0.mk (Kd.R_lower ho0 (below_size (by repeat (first | (with_reducible first | exact HB.out | apply below_alloc | apply pw_below_drewN | apply below_drew1) | exact HB.out)))); have n1_ := Aside0.mk (below_step (by repeat (first | (with_reducible first | exact HB.out | apply below_alloc | apply pw_below_drewN | apply below_drew1) | exact HB.out)) hb); clear HB; have HO29004 := n0_; have HB := n1_; clear n0_ n1_; (try clear hb); (try clear hb2); (try clear hk); (try clear hi); (try clear ho0)))
  go_ret
  exact ⟨_, by first | rfl | (simp [errW_none, errW_some] <;> rfl) | (simp [*, errW_none, errW_some] <;> rfl), by (with_reducible repeat (first | apply Kd.R_alloc | apply Kd.R_drewN | apply Kd.R_drew)); exact HO29004.out, by repeat (first | (with_reducible first | exact HB.out | apply below_alloc | apply pw_below_drewN | apply below_drew1) | exact HB.out)⟩


def spec_copyInts.f (l0 : List Int) : Option (List Int) := (some (([] : List Int) : List Int)).bind fun y96001 => (if y96001.length + l0.length < 17592186044416 then (some (y96001 ++ l0)) else none)
set_option maxHeartbeats 8000000 in
set_option maxRecDepth 100000 in
theorem spec_copyInts.calls (A0 : Option Addr) (c0 : Nat) (l0 : List Int) (r : List Int) (w : World) (hr0 : Kd.C (Kd.int .i64) w A0 l0.length l0) (hc0 : l0.length ≤ c0) (h : spec_copyInts.f l0 = some r) :
    Calls Try.prog 95 #[.slice A0 l0.length c0] w fun e w' => ∃ v0_ : Value, e = .returned v0_ ∧ Kd.R (Kd.int .i64) 3 w' w.heap.size (fun _ => True) v0_ r ∧ Below w.heap.size w w' := by
  have HR0 := Aside0.mk hr0
  have HC0 := Aside0.mk hc0
  clear hr0 hc0
  have HB := Aside0.mk (Below.refl w.heap.size w)
  have H : ((some (([] : List Int) : List Int)).bind fun y96001 => (if y96001.length + l0.length < 17592186044416 then (some (y96001 ++ l0)) else none)) = some r := h
  clear h
  obtain ⟨y96001, hy96001⟩ : ∃ y_ : List Int, y_ = ([] : List Int) := ⟨_, rfl⟩
  replace H : (if y96001.length + l0.length < 17592186044416 then (some (y96001 ++ l0)) else none) = some r := by first | (rw [hy96001]; with_reducible exact H) | (have H2_ := (Option.bind_some _ _).symm.trans H; rw [hy96001]; with_reducible exact H2_) | (have H2_ := (Option.bind_some _ _).symm.trans H; with_reducible exact H2_) | with_reducible exact H | (rw [hy96001]; exact H) | exact H
  have Ny96001 := Aside0.mk hy96001
  clear hy96001
  by_cases c2 : y96001.length + l0.length < 17592186044416
  · rw [if_pos c2] at H
    have LMc2 := Aside0.mk c2
    clear c2
    obtain ⟨y96004, hy96004⟩ : ∃ y_ : List Int, y_ = (y96001 ++ l0) := ⟨_, rfl⟩
    replace H : (some y96004) = some r := by first | (rw [hy96004]; with_reducible exact H) | (have H2_ := (Option.bind_some _ _).symm.trans H; rw [hy96004]; with_reducible exact H2_) | (have H2_ := (Option.bind_some _ _).symm.trans H; with_reducible exact H2_) | with_reducible exact H | (rw [hy96004]; exact H) | exact H
    have Ny96004 := Aside0.mk hy96004
    clear hy96004
    obtain rfl := Option.some.inj H
    go_enter Try.func95, Try.ntmps95
    go_wp2_with (first | ((with_reducible refine gate_dst (N := 3) rfl ?_); refine Kd.R_lit (Kd.int .i64) _ 3 ?hg (N := 3) ?hd (xs := ([] : List Int)) (inner := []) (ok := fun _ => True) (okp := fun _ => True) ?hr ?hp (fun _ hk => hk) trivial (Below.refl _ _) (Nat.le_refl _) (by simp) ?_; (case hd => rfl); (case hg => rfl); (case hr => first | (go_simp; done) | (go_simp; rfl)); (case hp => exact (Reps.none _ _)); intro v96002 w3 ho4 hb hg_ hnew_; clear hg_ hnew_; (first | rw [← Ny96001.out] at ho4 | (simp only [Int.reduceToNat] at ho4; rw [← Ny96001.out] at ho4)); have n0_ := Aside0.mk (Kd.R_lower ho4 (below_size (by repeat (first | (with_reducible first | exact HB.out | apply below_alloc | apply pw_below_drewN | apply below_drew1) | exact HB.out)))); have n1_ := Aside0.mk (below_step (by repeat (first | (with_reducible first | exact HB.out | apply below_alloc | apply pw_below_drewN | apply below_drew1) | exact HB.out)) hb); clear HB; have HO96003 := n0_; have HB := n1_; clear n0_ n1_; clear hb ho4) | ((with_reducible refine gate_builtin (b := .append) (xs := #[.tmp 3, .tmp 4]) rfl ?_); at_builtin; refine Kd.R_append_rows (Kd.int .i64) (w0 := w) w.heap.size rfl (.tmp 3) (.tmp 4) 22 3 (.int .i64 0) 8 rfl Try.underlying22 info3 rfl (by decide) (by omega) v96002 y96001 l0 _ _ _ (fun _ => True) (fun _ => False) rfl rfl ?aO ?aR (fun _ _ h => h) (fun _ h => h.elim) ?aF ?aB ?aS ?aL ?_; (case aR => repeat (first | exact (Kd.C_below HR0.out HB.out) | (with_reducible refine Kd.C_alloc ?_ _) | (with_reducible refine Kd.C_drewN ?_ _) | (with_reducible refine Kd.C_drew ?_))); (case aB => exact (by repeat (first | (with_reducible first | exact HB.out | apply below_alloc | apply pw_below_drewN | apply below_drew1) | exact HB.out))); (case aF => exact (fun _ _ => trivial)); (case aO => exact (by (with_reducible repeat (first | apply Kd.R_alloc | apply Kd.R_drewN | apply Kd.R_drew)); exact HO96003.out)); (case aS => exact (below_size (by repeat (first | (with_reducible first | exact HB.out | apply below_alloc | apply pw_below_drewN | apply below_drew1) | exact HB.out)))); (case aL => have := LMc2.out; omega); intro v96005 w5 ho hb hg hat; rw [← Ny96004.out] at ho; have n0_ := Aside0.mk (hb); have n1_ := Aside0.mk (ho); clear HB; clear HO96003; have HB := n0_; have HO96006 := n1_; clear n0_ n1_; clear ho hb hg hat))
    go_ret
    exact ⟨_, by first | rfl | (simp [errW_none, errW_some] <;> rfl) | (simp [*, errW_none, errW_some] <;> rfl), by (with_reducible repeat (first | apply Kd.R_alloc | apply Kd.R_drewN | apply Kd.R_drew)); exact HO96006.out, by repeat (first | (with_reducible first | exact HB.out | apply below_alloc | apply pw_below_drewN | apply below_drew1) | exact HB.out)⟩
  · rw [if_neg c2] at H
    exact absurd H (by simp)


def spec_pixelAt.f (a0_0 : Int) (a0_1 : Int) (a0_2 : Int) (l0_3 : List Int) (a1 : Int) (a2 : Int) : Option (List Int) := if 0 ≤ (wrap64 ((wrap64 ((wrap64 (a2 * a0_0)) + a1)) * a0_2)) then (if (wrap64 ((wrap64 ((wrap64 (a2 * a0_0)) + a1)) * a0_2)) ≤ (wrap64 ((wrap64 ((wrap64 ((wrap64 (a2 * a0_0)) + a1)) * a0_2)) + a0_2)) then (if (wrap64 ((wrap64 ((wrap64 ((wrap64 (a2 * a0_0)) + a1)) * a0_2)) + a0_2)) ≤ (l0_3.length : Int) then ((spec_copyInts.f ((l0_3.take ((wrap64 ((wrap64 ((wrap64 ((wrap64 (a2 * a0_0)) + a1)) * a0_2)) + a0_2)) : Int).toNat).drop ((wrap64 ((wrap64 ((wrap64 (a2 * a0_0)) + a1)) * a0_2)) : Int).toNat)).bind fun t64003 => (some t64003)) else (none)) else (none)) else (none)
set_option maxHeartbeats 8000000 in
set_option maxRecDepth 100000 in
theorem spec_pixelAt.calls (a0_0 : Int) (a0_1 : Int) (a0_2 : Int) (A0_3 : Option Addr) (c0_3 : Nat) (l0_3 : List Int) (a1 : Int) (a2 : Int) (r : List Int) (w : World) (hr0_3 : Kd.C (Kd.int .i64) w A0_3 l0_3.length l0_3) (hc0_3 : l0_3.length ≤ c0_3) (h : spec_pixelAt.f a0_0 a0_1 a0_2 l0_3 a1 a2 = some r) :
    Calls Try.prog 63 #[.agg #[.int .i64 a0_0, .int .i64 a0_1, .int .i64 a0_2, .slice A0_3 l0_3.length c0_3], .int .i64 a1, .int .i64 a2] w fun e w' => ∃ v0_ : Value, e = .returned (v0_) ∧ Kd.R (Kd.int .i64) 3 w' w.heap.size (fun _ => True) v0_ r ∧ Below w.heap.size w w' := by
  have hu28 := Try.underlying28
  have HR0_3 := Aside0.mk hr0_3
  have HC0_3 := Aside0.mk hc0_3
  clear hr0_3 hc0_3
  have HB := Aside0.mk (Below.refl w.heap.size w)
  have H : (if 0 ≤ (wrap64 ((wrap64 ((wrap64 (a2 * a0_0)) + a1)) * a0_2)) then (if (wrap64 ((wrap64 ((wrap64 (a2 * a0_0)) + a1)) * a0_2)) ≤ (wrap64 ((wrap64 ((wrap64 ((wrap64 (a2 * a0_0)) + a1)) * a0_2)) + a0_2)) then (if (wrap64 ((wrap64 ((wrap64 ((wrap64 (a2 * a0_0)) + a1)) * a0_2)) + a0_2)) ≤ (l0_3.length : Int) then ((spec_copyInts.f ((l0_3.take ((wrap64 ((wrap64 ((wrap64 ((wrap64 (a2 * a0_0)) + a1)) * a0_2)) + a0_2)) : Int).toNat).drop ((wrap64 ((wrap64 ((wrap64 (a2 * a0_0)) + a1)) * a0_2)) : Int).toNat)).bind fun t64003 => (some t64003)) else (none)) else (none)) else (none)) = some r := h
  clear h
  obtain ⟨ji4, hji4⟩ : ∃ j_ : Int, (wrap64 ((wrap64 ((wrap64 (a2 * a0_0)) + a1)) * a0_2)) = j_ := ⟨_, rfl⟩
  replace H : (if 0 ≤ (ji4) then (if (ji4) ≤ (wrap64 ((ji4) + a0_2)) then (if (wrap64 ((ji4) + a0_2)) ≤ (l0_3.length : Int) then ((spec_copyInts.f ((l0_3.take ((wrap64 ((ji4) + a0_2)) : Int).toNat).drop ((ji4) : Int).toNat)).bind fun t64003 => (some t64003)) else (none)) else (none)) else (none)) = some r := by first | (rw [hji4] at H; exact H) | (simp only [hji4] at H ⊢; exact H)
  have hji4w : (IntKind.i64.wrap ((wrap64 ((wrap64 (a2 * a0_0)) + a1)) * a0_2)) = ji4 := (i64_w _).trans hji4
  by_cases c5 : 0 ≤ (ji4)
  · rw [if_pos c5] at H
    have c5b0 := eq_true c5
    have c5b1 : decide (0 ≤ (ji4)) = true := decide_eq_true c5
    clear c5
    by_cases c6 : (ji4) ≤ (wrap64 ((ji4) + a0_2))
    · rw [if_pos c6] at H
      have c6b0 := eq_true c6
      have c6b1 : decide ((ji4) ≤ (wrap64 ((ji4) + a0_2))) = true := decide_eq_true c6
      by_cases c7 : (wrap64 ((ji4) + a0_2)) ≤ (l0_3.length : Int)
      · rw [if_pos c7] at H
        have c7b0 := eq_true c7
        have c7b1 : decide ((wrap64 ((ji4) + a0_2)) ≤ (l0_3.length : Int)) = true := decide_eq_true c7
        replace H := Option.bind_eq_some_iff.mp H
        obtain ⟨t64003, A80, H⟩ := H
        replace H : (some t64003) = some r := H
        have A8 := Aside0.mk A80
        clear A80
        obtain rfl := Option.some.inj H
        go_enter Try.func63, Try.ntmps63
        go_wp2_with (first | ((with_reducible refine gate_dst (N := 3) rfl ?_); refine box_event ?hg (N := 3) ?hd (cs := #[.int .i64 a0_0, .int .i64 a0_1, .int .i64 a0_2, .slice A0_3 l0_3.length c0_3]) (t := 28) ?hr ?_; (case hd => rfl); (case hg => rfl); (case hr => first | (go_simp; done) | (go_simp; rfl)); intro gb64001 hg w9 hbox hb; have n0_ := Aside0.mk (below_step (by repeat (first | (with_reducible first | exact HB.out | apply below_alloc | apply pw_below_drewN | apply below_drew1) | exact HB.out)) hb); have n1_ := Aside0.mk (hbox); have n2_ := Aside0.mk ((by rw [hg]; exact (below_size (by repeat (first | (with_reducible first | exact HB.out | apply below_alloc | apply pw_below_drewN | apply below_drew1) | exact HB.out))) : w.heap.size ≤ gb64001)); have n3_ := Aside0.mk ((by rw [hg]; exact (below_size (by repeat (first | (with_reducible first | exact HB.out | apply below_alloc | apply pw_below_drewN | apply below_drew1) | exact HB.out))) : w.heap.size ≤ gb64001)); clear HB; have HB := n0_; have BK64001 := n1_; have GW64001 := n2_; have GE64001 := n3_; clear n0_ n1_ n2_ n3_; clear hb hbox hg; have hcz10_0 : w9.cell? ⟨gb64001, 0, none⟩ = some (.int .i64 a0_0) := (blk_cell BK64001.out 0).trans rfl; have hcz10_1 : w9.cell? ⟨gb64001, 1, none⟩ = some (.int .i64 a0_1) := (blk_cell BK64001.out 1).trans rfl; have hcz10_2 : w9.cell? ⟨gb64001, 2, none⟩ = some (.int .i64 a0_2) := (blk_cell BK64001.out 2).trans rfl; have hcz10_3 : w9.cell? ⟨gb64001, 3, none⟩ = some (.slice A0_3 l0_3.length c0_3) := (blk_cell BK64001.out 3).trans rfl; have hfz10_0 := blk_frozen BK64001.out 0; have hfz10_1 := blk_frozen BK64001.out 1; have hfz10_2 := blk_frozen BK64001.out 2; have hfz10_3 := blk_frozen BK64001.out 3; obtain ⟨i011, hi011, _, hsz11, _⟩ := info_parts info3; obtain ⟨A11, hcut11, hA11, hC11⟩ := print_mid_of (P := Try.prog) (Value.int .i64) 0 22 3 .i64 .i64 Try.underlying22 hi011 hsz11 A0_3 c0_3 l0_3 (ji4) (wrap64 ((ji4) + a0_2)) (of_decide_eq_true (by first | (with_reducible assumption) | assumption)) (by first | omega | exact of_decide_eq_true (by first | (with_reducible assumption) | assumption)) (of_decide_eq_true (by first | (with_reducible assumption) | assumption)) HC0_3.out; have HR64002 := Aside0.mk (Kd.C_of_reads (h1 := fun _ => rfl) (hA11 _ (Kd.reads_of_C HR0_3.out))); have HC64002 := Aside0.mk hC11; clear hA11 hC11 hi011 hsz11) | ((with_reducible refine gate_callee (f := 95) rfl ?_); refine goesL_ (some 25) rfl rfl Try.func95 (by kernel_rfl) rfl #[.slice A11 ((l0_3.take ((wrap64 ((ji4) + a0_2)) : Int).toNat).drop ((ji4) : Int).toNat).length (c0_3 - (ji4).toNat)] rfl (by (try simp only [List.map_toArray, List.map_cons, List.map_nil]); first | done | (rw [show ((l0_3.take ((wrap64 ((ji4) + a0_2)) : Int).toNat).drop ((ji4) : Int).toNat).length = ((wrap64 ((ji4) + a0_2)).toNat - (ji4).toNat) from (by rw [List.length_drop, List.length_take]; have h_ : ((wrap64 ((ji4) + a0_2)) : Int) ≤ (l0_3.length : Int) := of_decide_eq_true (by first | (with_reducible assumption) | assumption); omega)] <;> rfl) | (simp only [hji4]; rfl) | rfl | (simp only [List.length_drop, List.length_take]; rfl)) ?_; (with_reducible refine (spec_copyInts.calls _ _ ((l0_3.take ((wrap64 ((ji4) + a0_2)) : Int).toNat).drop ((ji4) : Int).toNat) t64003 _ ?side1 ?side2 A8.out).mono ?_); (case side1 => repeat (first | exact (Kd.C_below HR64002.out HB.out) | (with_reducible refine Kd.C_alloc ?_ _) | (with_reducible refine Kd.C_drewN ?_ _) | (with_reducible refine Kd.C_drew ?_))); (case side2 => exact HC64002.out); rintro e w12 ⟨v64004, rfl, ho0, hb⟩; refine ⟨_, rfl, ?_⟩; have n0_ := Aside0.mk (Kd.R_lower ho0 (below_size (by repeat (first | (with_reducible first | exact HB.out | apply below_alloc | apply pw_below_drewN | apply below_drew1 | refine below_set ?_ GE64001.out) | exact HB.out)))); have n1_ := Aside0.mk (blk_below (g := gb64001) (o := .cells #[.int .i64 a0_0, .int .i64 a0_1, .int .i64 a0_2, .slice A0_3 l0_3.length c0_3] 28 (0, 0)) (by (with_reducible repeat (first | refine blk_drewN ?_ _ | refine blk_drew ?_ | refine blk_alloc ?_ _)); exact BK64001.out) hb); have n2_ := Aside0.mk (below_step (by repeat (first | (with_reducible first | exact HB.out | apply below_alloc | apply pw_below_drewN | apply below_drew1 | refine below_set ?_ GE64001.out) | exact HB.out)) hb); clear BK64001; clear HB; have HO64005 := n0_; have BK64001 := n1_; have HB := n2_; clear n0_ n1_ n2_; (try clear hb); (try clear hb2); (try clear hk); (try clear hi); (try clear ho0)))
        go_ret
        exact ⟨_, by first | rfl | (simp [errW_none, errW_some] <;> rfl) | (simp only [← hji4]; first | rfl | (simp [errW_none, errW_some] <;> rfl)) | (simp [*, errW_none, errW_some] <;> rfl), by (with_reducible repeat (first | apply Kd.R_alloc | apply Kd.R_drewN | apply Kd.R_drew)); exact HO64005.out, by repeat (first | (with_reducible first | exact HB.out | apply below_alloc | apply pw_below_drewN | apply below_drew1 | refine below_set ?_ GE64001.out) | exact HB.out)⟩
      · rw [if_neg c7] at H
        exact absurd H (by simp)
    · rw [if_neg c6] at H
      exact absurd H (by simp)
  · rw [if_neg c5] at H
    exact absurd H (by simp)


mutual
def spec_runsOf.l0 : Nat → List Bool → List S47 → Int → Option ((List S47))
  | 0, _, _, _ => none
  | k + 1, x0, x3, x4 => if x4 < 16 then (spec_runsOf.l1 k x0 x3 x4 (-1) 0) else (some x3)
def spec_runsOf.l1 : Nat → List Bool → List S47 → Int → Int → Int → Option ((List S47))
  | 0, _, _, _, _, _ => none
  | k + 1, x0, x3, x4, x5, x6 => if x6 ≤ 16 then (if x6 < 16 then (if 0 ≤ (wrap64 ((wrap64 (x4 * 16)) + x6)) then (if (wrap64 ((wrap64 (x4 * 16)) + x6)) < (x0.length : Int) then (spec_runsOf.j2 k x0 x3 x4 x5 x6 (rdOf false x0 (wrap64 ((wrap64 (x4 * 16)) + x6)))) else none) else none) else (spec_runsOf.j2 k x0 x3 x4 x5 x6 false)) else (spec_runsOf.l0 k x0 x3 (wrap64 (x4 + 1)))
def spec_runsOf.j2 : Nat → List Bool → List S47 → Int → Int → Int → Bool → Option ((List S47))
  | 0, _, _, _, _, _, _ => none
  | k + 1, x0, x3, x4, x5, x6, x7 => if x7 = true then (spec_runsOf.j3 k x0 x3 x4 x5 x6 x7 (decide (x5 < 0))) else (spec_runsOf.j3 k x0 x3 x4 x5 x6 x7 false)
def spec_runsOf.j3 : Nat → List Bool → List S47 → Int → Int → Int → Bool → Bool → Option ((List S47))
  | 0, _, _, _, _, _, _, _ => none
  | k + 1, x0, x3, x4, x5, x6, x7, x32 => if x32 = true then (if x7 = true then (spec_runsOf.l1 k x0 x3 x4 x6 (wrap64 (x6 + 1))) else (if x6 ≥ 0 then (if x3.length < 5864062014805 then (spec_runsOf.l1 k x0 (x3 ++ [(⟨x4, x6, x6⟩ : S47)]) x4 (-1) (wrap64 (x6 + 1))) else none) else (spec_runsOf.l1 k x0 x3 x4 x6 (wrap64 (x6 + 1))))) else (if x7 = true then (spec_runsOf.l1 k x0 x3 x4 x5 (wrap64 (x6 + 1))) else (if x5 ≥ 0 then (if x3.length < 5864062014805 then (spec_runsOf.l1 k x0 (x3 ++ [(⟨x4, x5, x6⟩ : S47)]) x4 (-1) (wrap64 (x6 + 1))) else none) else (spec_runsOf.l1 k x0 x3 x4 x5 (wrap64 (x6 + 1)))))
end
def spec_runsOf.f (k : Nat) (l0 : List Bool) : Option ((List S47)) := spec_runsOf.l0 k l0 (([] : List S47)) 0
theorem spec_runsOf.mono_l : ∀ k, (∀ y0 y1 y2, LeO (spec_runsOf.l0 k y0 y1 y2) (spec_runsOf.l0 (k + 1) y0 y1 y2)) ∧ (∀ y0 y1 y2 y3 y4, LeO (spec_runsOf.l1 k y0 y1 y2 y3 y4) (spec_runsOf.l1 (k + 1) y0 y1 y2 y3 y4)) ∧ (∀ y0 y1 y2 y3 y4 y5, LeO (spec_runsOf.j2 k y0 y1 y2 y3 y4 y5) (spec_runsOf.j2 (k + 1) y0 y1 y2 y3 y4 y5)) ∧ (∀ y0 y1 y2 y3 y4 y5 y6, LeO (spec_runsOf.j3 k y0 y1 y2 y3 y4 y5 y6) (spec_runsOf.j3 (k + 1) y0 y1 y2 y3 y4 y5 y6))
  | 0 => ⟨fun _ _ _ r h => by simp [spec_runsOf.l0] at h, fun _ _ _ _ _ r h => by simp [spec_runsOf.l1] at h, fun _ _ _ _ _ _ r h => by simp [spec_runsOf.j2] at h, fun _ _ _ _ _ _ _ r h => by simp [spec_runsOf.j3] at h⟩
  | k + 1 => by
    obtain ⟨ih0, ih1, ih2, ih3⟩ := spec_runsOf.mono_l k
    refine ⟨?_, ?_, ?_, ?_⟩
    · intro y0 y1 y2
      unfold spec_runsOf.l0
      repeat' first | (with_reducible exact ih1 _ _ _ _ _) | (with_reducible exact LeO.refl _) | (with_reducible refine LeO.ite ?_ ?_)
    · intro y0 y1 y2 y3 y4
      unfold spec_runsOf.l1
      repeat' first | (with_reducible exact ih0 _ _ _) | (with_reducible exact ih2 _ _ _ _ _ _) | (with_reducible exact LeO.refl _) | (with_reducible refine LeO.ite ?_ ?_)
    · intro y0 y1 y2 y3 y4 y5
      unfold spec_runsOf.j2
      repeat' first | (with_reducible exact ih3 _ _ _ _ _ _ _) | (with_reducible refine LeO.ite ?_ ?_)
    · intro y0 y1 y2 y3 y4 y5 y6
      unfold spec_runsOf.j3
      repeat' first | (with_reducible exact ih1 _ _ _ _ _) | (with_reducible exact LeO.refl _) | (with_reducible refine LeO.ite ?_ ?_)
theorem spec_runsOf.mono : ∀ a0 k, LeO (spec_runsOf.f k a0) (spec_runsOf.f (k + 1) a0) := by
  intro a0 k
  obtain ⟨ih0, ih1, ih2, ih3⟩ := spec_runsOf.mono_l k
  unfold spec_runsOf.f
  repeat' (with_reducible exact ih0 _ _ _)
set_option maxHeartbeats 8000000 in
set_option maxRecDepth 100000 in
theorem spec_runsOf.calls (k : Nat) (A0 : Option Addr) (c0 : Nat) (l0 : List Bool) (r : List S47) (w : World) (hr0 : Kd.C Kd.bool w A0 l0.length l0) (hc0 : l0.length ≤ c0) (h : spec_runsOf.f k l0 = some r) :
    Calls Try.prog 65 #[.slice A0 l0.length c0] w fun e w' => ∃ v0_ : Value, e = .returned v0_ ∧ Kd.R k47 47 w' w.heap.size (fun _ => True) v0_ r ∧ Below w.heap.size w w' := by
  have hu47 := Try.underlying47
  have HR0 := Aside0.mk hr0
  have HC0 := Aside0.mk hc0
  clear hr0 hc0
  have HB := Aside0.mk (Below.refl w.heap.size w)
  have H : (spec_runsOf.l0 k l0 (([] : List S47)) 0) = some r := h
  clear h
  obtain ⟨y66001, hy66001⟩ : ∃ y_ : List (S47), y_ = (([] : List S47)) := ⟨_, rfl⟩
  replace H : (spec_runsOf.l0 k l0 y66001 0) = some r := by (rw [hy66001]; with_reducible exact H)
  have Ny66001 := Aside0.mk hy66001
  clear hy66001
  have H' := Aside0.mk H
  clear H
  go_enter Try.func65, Try.ntmps65
  go_wp2_with (first | ((with_reducible refine gate_dst (N := 8) rfl ?_); refine Kd.R_lit k47 _ 47 ?hg (N := 8) ?hd (xs := ([] : List S47)) (inner := []) (ok := fun _ => True) (okp := fun _ => True) ?hr ?hp (fun _ hk => hk) trivial (Below.refl _ _) (Nat.le_refl _) (by simp) ?_; (case hd => rfl); (case hg => rfl); (case hr => (go_simp; done)); (case hp => exact (Reps.none _ _)); intro v66002 w2 ho3 hb hg_ hnew_; clear hg_ hnew_; (rw [← Ny66001.out] at ho3); have n0_ := Aside0.mk (Kd.R_lower ho3 (below_size HB.out)); have n1_ := Aside0.mk (below_step HB.out hb); clear HB; have HO66003 := n0_; have HB := n1_; clear n0_ n1_; clear hb ho3))
  go_loopg [3, 4] k (fun kq v3 v4 w' => ∃ (x3_1 : List S47) (x4_1 : Int), v4 = .int .i64 x4_1 ∧ Aside0 (spec_runsOf.l0 kq l0 x3_1 x4_1 = some r) ∧ Aside0 (kq ≤ k) ∧ Aside0 (Kd.R k47 47 w' w.heap.size (fun _ => True) v3 x3_1) ∧ Aside0 (Below w.heap.size w w'))
  case atStart => exact ⟨(y66001), (0), (by rfl), H', ⟨Nat.le_refl _⟩, ⟨by (with_reducible repeat (first | apply Kd.R_alloc | apply Kd.R_drewN | apply Kd.R_drew)); exact HO66003.out⟩, ⟨by exact HB.out⟩⟩
  case round =>
    clear H'
    try clear p2
    obtain ⟨x3_1, x4_1, rfl, HA, HK1, HO_3, HB⟩ := hrel
    cases gk with
    | zero => exact absurd HA.out (by simp [spec_runsOf.l0])
    | succ k1 =>
      have H := HA.out
      clear HA
      simp only [spec_runsOf.l0] at H
      by_cases c4 : x4_1 < 16
      · rw [if_pos c4] at H
        have c4b0 : decide (x4_1 < 16) = true := decide_eq_true c4
        clear c4
        have H' := Aside0.mk H
        clear H
        go_wp2
        go_loopg [3, 5, 6] k1 (fun kq v3 v5 v6 w' => ∃ (x3_2 : List S47) (x5_2 : Int) (x6_2 : Int), v5 = .int .i64 x5_2 ∧ v6 = .int .i64 x6_2 ∧ Aside0 (spec_runsOf.l1 kq l0 x3_2 x4_1 x5_2 x6_2 = some r) ∧ Aside0 (kq ≤ k1) ∧ Aside0 (Kd.R k47 47 w' w.heap.size (fun _ => True) v3 x3_2) ∧ Aside0 (Below w.heap.size w w'))
        case atStart => exact ⟨(x3_1), (-1), (0), (by rfl), (by rfl), H', ⟨Nat.le_refl _⟩, ⟨by (with_reducible repeat (first | apply Kd.R_alloc | apply Kd.R_drewN | apply Kd.R_drew)); exact HO_3.out⟩, ⟨by exact HB.out⟩⟩
        case round =>
          clear H'
          try clear p2
          try clear c4
          try clear c4b0
          try clear p2
          obtain ⟨x3_2, x5_2, x6_2, rfl, rfl, HA, HK2, HO_3, HB⟩ := hrel
          cases gk with
          | zero => exact absurd HA.out (by simp [spec_runsOf.l1])
          | succ k2 =>
            have H := HA.out
            clear HA
            simp only [spec_runsOf.l1] at H
            by_cases c5 : x6_2 ≤ 16
            · rw [if_pos c5] at H
              have c5b0 : decide (x6_2 ≤ 16) = true := decide_eq_true c5
              clear c5
              have HC6 := Aside0.mk H
              clear H
              go_upto_region 9 with (fail)
              go_cut [7] (fun v7 wc => ∃ (kq : Nat) (x7_5 : Bool), v7 = .bool x7_5 ∧ Aside0 (spec_runsOf.j2 kq l0 x3_2 x4_1 x5_2 x6_2 x7_5 = some r) ∧ Aside0 (kq ≤ k2) ∧ Aside0 (Kd.R k47 47 wc w.heap.size (fun _ => True) u3 x3_2) ∧ Aside0 (Below w.heap.size w wc))
              case first =>
                have H := HC6.out
                clear HC6
                by_cases c7 : x6_2 < 16
                · rw [if_pos c7] at H
                  have c7b0 : decide (x6_2 < 16) = true := decide_eq_true c7
                  clear c7
                  (skip)
                  obtain ⟨ji8, hji8⟩ : ∃ j_ : Int, (wrap64 ((wrap64 (x4_1 * 16)) + x6_2)) = j_ := ⟨_, rfl⟩
                  replace H : (if 0 ≤ ji8 then (if ji8 < (l0.length : Int) then (spec_runsOf.j2 k2 l0 x3_2 x4_1 x5_2 x6_2 (rdOf false l0 ji8)) else none) else none) = some r := by (rw [hji8] at H; exact H)
                  have hji8w : (IntKind.i64.wrap ((wrap64 (x4_1 * 16)) + x6_2)) = ji8 := (i64_w _).trans hji8
                  by_cases c9 : 0 ≤ (ji8)
                  · rw [if_pos c9] at H
                    have c9b0 : decide (0 ≤ ji8) = true := decide_eq_true c9
                    clear c9
                    by_cases c10 : ji8 < (l0.length : Int)
                    · rw [if_pos c10] at H
                      have c10b0 : decide (ji8 < (l0.length : Int)) = true := decide_eq_true c10
                      clear c10
                      have H' := Aside0.mk H
                      clear H
                      have p66004 : 0 ≤ (ji8 : Int) := of_decide_eq_true (by (with_reducible assumption))
                      have q66004 : ji8 < (l0.length : Int) := of_decide_eq_true (by (with_reducible assumption))
                      obtain ⟨ad66004, e66004, hx66004_0⟩ := Kd.at_bool HR0.out ji8 p66004 q66004
                      cases e66004
                      replace hx66004_0 := (HB.out.cell (World.block_lt_of_cell? w _ hx66004_0)).trans hx66004_0
                      replace p66004 := eq_true p66004
                      replace q66004 := eq_true q66004
                      go_wp2
                      go_meet
                      case rel => exact ⟨_, (rdOf false l0 ji8), (by rfl), H', ⟨by have := HK1.out; have := HK2.out; omega⟩, ⟨by (with_reducible repeat (first | apply Kd.R_alloc | apply Kd.R_drewN | apply Kd.R_drew)); exact HO_3.out⟩, ⟨by exact HB.out⟩⟩
                    · rw [if_neg c10] at H
                      exact absurd H (by simp)
                  · rw [if_neg c9] at H
                    exact absurd H (by simp)
                · rw [if_neg c7] at H
                  have c7b0 : decide (x6_2 < 16) = false := decide_eq_false c7
                  clear c7
                  (skip)
                  have H' := Aside0.mk H
                  clear H
                  go_wp2
                  go_meet
                  case rel => exact ⟨_, (false), (by rfl), H', ⟨by have := HK1.out; have := HK2.out; omega⟩, ⟨by (with_reducible repeat (first | apply Kd.R_alloc | apply Kd.R_drewN | apply Kd.R_drew)); exact HO_3.out⟩, ⟨by exact HB.out⟩⟩
              case rest =>
                clear HC6
                try clear c1
                try clear p2
                try clear c4
                try clear c4b0
                try clear c5
                try clear c5b0
                try clear c6
                try clear p6
                try clear q6
                try clear hx6
                try clear c7
                try clear c7b0
                try clear c9
                try clear c9b0
                try clear c10
                try clear c10b0
                try clear hx66004_0
                try clear p2
                try clear p66004
                try clear q66004
                obtain ⟨kq, x7_5, rfl, HA, HJ5, HO_3, HB⟩ := hcut
                cases kq with
                | zero => exact absurd HA.out (by simp [spec_runsOf.j2])
                | succ kj5 =>
                  have H := HA.out
                  clear HA
                  simp only [spec_runsOf.j2] at H
                  have HC11 := Aside0.mk H
                  clear H
                  go_upto_region 10 with (fail)
                  go_cut [32] (fun v32 wc => ∃ (kq : Nat) (x32_10 : Bool), v32 = .bool x32_10 ∧ Aside0 (spec_runsOf.j3 kq l0 x3_2 x4_1 x5_2 x6_2 x7_5 x32_10 = some r) ∧ Aside0 (kq ≤ kj5) ∧ Aside0 (Kd.R k47 47 wc w.heap.size (fun _ => True) u3 x3_2) ∧ Aside0 (Below w.heap.size w wc))
                  case first =>
                    have H := HC11.out
                    clear HC11
                    by_cases c12 : x7_5 = true
                    · subst c12
                      have H1 : (spec_runsOf.j3 kj5 l0 x3_2 x4_1 x5_2 x6_2 true (decide (x5_2 < 0))) = some r := by rw [if_pos rfl] at H; exact H
                      clear H
                      have H := H1
                      clear H1
                      have H' := Aside0.mk H
                      clear H
                      go_wp2
                      go_meet
                      case rel => exact ⟨_, (decide (x5_2 < 0)), (by rfl), H', ⟨by have := HK1.out; have := HK2.out; have := HJ5.out; omega⟩, ⟨by (with_reducible repeat (first | apply Kd.R_alloc | apply Kd.R_drewN | apply Kd.R_drew)); exact HO_3.out⟩, ⟨by exact HB.out⟩⟩
                    · replace c12 := Bool.eq_false_iff.mpr c12
                      subst c12
                      have H1 : (spec_runsOf.j3 kj5 l0 x3_2 x4_1 x5_2 x6_2 false false) = some r := by rw [if_neg (show ¬ (false = true) by decide)] at H; exact H
                      clear H
                      have H := H1
                      clear H1
                      have H' := Aside0.mk H
                      clear H
                      go_wp2
                      go_meet
                      case rel => exact ⟨_, (false), (by rfl), H', ⟨by have := HK1.out; have := HK2.out; have := HJ5.out; omega⟩, ⟨by (with_reducible repeat (first | apply Kd.R_alloc | apply Kd.R_drewN | apply Kd.R_drew)); exact HO_3.out⟩, ⟨by exact HB.out⟩⟩
                  case rest =>
                    clear HC11
                    try clear c1
                    try clear p2
                    try clear c4
                    try clear c4b0
                    try clear c5
                    try clear c5b0
                    try clear c6
                    try clear p6
                    try clear q6
                    try clear hx6
                    try clear c7
                    try clear c7b0
                    try clear c9
                    try clear c9b0
                    try clear c10
                    try clear c10b0
                    try clear c12
                    try clear hx66004_0
                    try clear p2
                    try clear p6
                    try clear p66004
                    try clear q6
                    try clear q66004
                    obtain ⟨kq, x32_10, rfl, HA, HJ10, HO_3, HB⟩ := hcut
                    cases kq with
                    | zero => exact absurd HA.out (by simp [spec_runsOf.j3])
                    | succ kj10 =>
                      have H := HA.out
                      clear HA
                      simp only [spec_runsOf.j3] at H
                      by_cases c13 : x32_10 = true
                      · subst c13
                        have H1 : (if x7_5 = true then (spec_runsOf.l1 kj10 l0 x3_2 x4_1 x6_2 (wrap64 (x6_2 + 1))) else (if x6_2 ≥ 0 then (if x3_2.length < 5864062014805 then (spec_runsOf.l1 kj10 l0 (x3_2 ++ [(⟨x4_1, x6_2, x6_2⟩ : S47)]) x4_1 (-1) (wrap64 (x6_2 + 1))) else none) else (spec_runsOf.l1 kj10 l0 x3_2 x4_1 x6_2 (wrap64 (x6_2 + 1))))) = some r := by rw [if_pos rfl] at H; exact H
                        clear H
                        have H := H1
                        clear H1
                        by_cases c14 : x7_5 = true
                        · subst c14
                          have H1 : (spec_runsOf.l1 kj10 l0 x3_2 x4_1 x6_2 (wrap64 (x6_2 + 1))) = some r := by rw [if_pos rfl] at H; exact H
                          clear H
                          have H := H1
                          clear H1
                          have H' := Aside0.mk H
                          clear H
                          go_wp2
                          go_roundg kj10
                          case measure => have := HK1.out; have := HK2.out; have := HJ5.out; have := HJ10.out; omega
                          case rel => exact ⟨(x3_2), (x6_2), (wrap64 (x6_2 + 1)), (by rfl), (by rfl), H', ⟨by have := HK1.out; have := HK2.out; have := HJ5.out; have := HJ10.out; omega⟩, ⟨by (with_reducible repeat (first | apply Kd.R_alloc | apply Kd.R_drewN | apply Kd.R_drew)); exact HO_3.out⟩, ⟨by exact HB.out⟩⟩
                        · replace c14 := Bool.eq_false_iff.mpr c14
                          subst c14
                          have H1 : (if x6_2 ≥ 0 then (if x3_2.length < 5864062014805 then (spec_runsOf.l1 kj10 l0 (x3_2 ++ [(⟨x4_1, x6_2, x6_2⟩ : S47)]) x4_1 (-1) (wrap64 (x6_2 + 1))) else none) else (spec_runsOf.l1 kj10 l0 x3_2 x4_1 x6_2 (wrap64 (x6_2 + 1)))) = some r := by rw [if_neg (show ¬ (false = true) by decide)] at H; exact H
                          clear H
                          have H := H1
                          clear H1
                          by_cases c15 : x6_2 ≥ 0
                          · rw [if_pos c15] at H
                            have c15b0 : decide (0 ≤ x6_2) = true := decide_eq_true c15
                            clear c15
                            by_cases c16 : x3_2.length < 5864062014805
                            · rw [if_pos c16] at H
                              have LMc16 := Aside0.mk c16
                              clear c16
                              obtain ⟨y66005, hy66005⟩ : ∃ y_ : List (S47), y_ = (x3_2 ++ [(⟨x4_1, x6_2, x6_2⟩ : S47)]) := ⟨_, rfl⟩
                              replace H : (spec_runsOf.l1 kj10 l0 y66005 x4_1 (-1) (wrap64 (x6_2 + 1))) = some r := by (rw [hy66005]; with_reducible exact H)
                              have Ny66005 := Aside0.mk hy66005
                              clear hy66005
                              have H' := Aside0.mk H
                              clear H
                              go_wp2_with (first | ((with_reducible refine gate_builtin (b := .append) (xs := #[.tmp 40, .tmp 45]) rfl ?_); at_builtin; refine Kd.R_append k47 (w0 := w) w.heap.size rfl (.tmp 40) (.tmp 45) 26 47 (.agg #[(.int .i64 0), (.int .i64 0), (.int .i64 0)]) 24 rfl Try.underlying26 info47 rfl (by decide) (by omega) u3 x3_2 (⟨x4_1, x6_2, x6_2⟩ : S47) [.int .i64 x4_1, .int .i64 x6_2, .int .i64 x6_2] (fun _ => True) (fun _ => False) rfl rfl ?aP (fun _ hk => hk.elim) ?aF ?aO ?aB ?aS ?aL ?_; (case aP => exact k47_mkM _ _ _ (⟨x4_1, x6_2, x6_2⟩ : S47)); (case aB => exact HB.out); (case aF => exact (fun _ _ => trivial)); (case aO => exact HO_3.out); (case aS => exact (below_size HB.out)); (case aL => have := LMc16.out; omega); intro v66006 w17 ho hb hg hat; rw [← Ny66005.out] at ho; have n0_ := Aside0.mk (hb); have n1_ := Aside0.mk (ho); clear HB; clear HO_3; have HB := n0_; have HO66007 := n1_; clear n0_ n1_; clear ho hb hg hat))
                              go_roundg kj10
                              case measure => have := HK1.out; have := HK2.out; have := HJ5.out; have := HJ10.out; omega
                              case rel => exact ⟨(y66005), (-1), (wrap64 (x6_2 + 1)), (by rfl), (by rfl), H', ⟨by have := HK1.out; have := HK2.out; have := HJ5.out; have := HJ10.out; omega⟩, ⟨by (with_reducible repeat (first | apply Kd.R_alloc | apply Kd.R_drewN | apply Kd.R_drew)); exact HO66007.out⟩, ⟨by exact HB.out⟩⟩
                            · rw [if_neg c16] at H
                              exact absurd H (by simp)
                          · rw [if_neg c15] at H
                            have c15b0 : decide (0 ≤ x6_2) = false := decide_eq_false c15
                            clear c15
                            have H' := Aside0.mk H
                            clear H
                            go_wp2
                            go_roundg kj10
                            case measure => have := HK1.out; have := HK2.out; have := HJ5.out; have := HJ10.out; omega
                            case rel => exact ⟨(x3_2), (x6_2), (wrap64 (x6_2 + 1)), (by rfl), (by rfl), H', ⟨by have := HK1.out; have := HK2.out; have := HJ5.out; have := HJ10.out; omega⟩, ⟨by (with_reducible repeat (first | apply Kd.R_alloc | apply Kd.R_drewN | apply Kd.R_drew)); exact HO_3.out⟩, ⟨by exact HB.out⟩⟩
                      · replace c13 := Bool.eq_false_iff.mpr c13
                        subst c13
                        have H1 : (if x7_5 = true then (spec_runsOf.l1 kj10 l0 x3_2 x4_1 x5_2 (wrap64 (x6_2 + 1))) else (if x5_2 ≥ 0 then (if x3_2.length < 5864062014805 then (spec_runsOf.l1 kj10 l0 (x3_2 ++ [(⟨x4_1, x5_2, x6_2⟩ : S47)]) x4_1 (-1) (wrap64 (x6_2 + 1))) else none) else (spec_runsOf.l1 kj10 l0 x3_2 x4_1 x5_2 (wrap64 (x6_2 + 1))))) = some r := by rw [if_neg (show ¬ (false = true) by decide)] at H; exact H
                        clear H
                        have H := H1
                        clear H1
                        by_cases c18 : x7_5 = true
                        · subst c18
                          have H1 : (spec_runsOf.l1 kj10 l0 x3_2 x4_1 x5_2 (wrap64 (x6_2 + 1))) = some r := by rw [if_pos rfl] at H; exact H
                          clear H
                          have H := H1
                          clear H1
                          have H' := Aside0.mk H
                          clear H
                          go_wp2
                          go_roundg kj10
                          case measure => have := HK1.out; have := HK2.out; have := HJ5.out; have := HJ10.out; omega
                          case rel => exact ⟨(x3_2), (x5_2), (wrap64 (x6_2 + 1)), (by rfl), (by rfl), H', ⟨by have := HK1.out; have := HK2.out; have := HJ5.out; have := HJ10.out; omega⟩, ⟨by (with_reducible repeat (first | apply Kd.R_alloc | apply Kd.R_drewN | apply Kd.R_drew)); exact HO_3.out⟩, ⟨by exact HB.out⟩⟩
                        · replace c18 := Bool.eq_false_iff.mpr c18
                          subst c18
                          have H1 : (if x5_2 ≥ 0 then (if x3_2.length < 5864062014805 then (spec_runsOf.l1 kj10 l0 (x3_2 ++ [(⟨x4_1, x5_2, x6_2⟩ : S47)]) x4_1 (-1) (wrap64 (x6_2 + 1))) else none) else (spec_runsOf.l1 kj10 l0 x3_2 x4_1 x5_2 (wrap64 (x6_2 + 1)))) = some r := by rw [if_neg (show ¬ (false = true) by decide)] at H; exact H
                          clear H
                          have H := H1
                          clear H1
                          by_cases c19 : x5_2 ≥ 0
                          · rw [if_pos c19] at H
                            have c19b0 : decide (0 ≤ x5_2) = true := decide_eq_true c19
                            clear c19
                            by_cases c20 : x3_2.length < 5864062014805
                            · rw [if_pos c20] at H
                              have LMc20 := Aside0.mk c20
                              clear c20
                              obtain ⟨y66008, hy66008⟩ : ∃ y_ : List (S47), y_ = (x3_2 ++ [(⟨x4_1, x5_2, x6_2⟩ : S47)]) := ⟨_, rfl⟩
                              replace H : (spec_runsOf.l1 kj10 l0 y66008 x4_1 (-1) (wrap64 (x6_2 + 1))) = some r := by (rw [hy66008]; with_reducible exact H)
                              have Ny66008 := Aside0.mk hy66008
                              clear hy66008
                              have H' := Aside0.mk H
                              clear H
                              go_wp2_with (first | ((with_reducible refine gate_builtin (b := .append) (xs := #[.tmp 40, .tmp 45]) rfl ?_); at_builtin; refine Kd.R_append k47 (w0 := w) w.heap.size rfl (.tmp 40) (.tmp 45) 26 47 (.agg #[(.int .i64 0), (.int .i64 0), (.int .i64 0)]) 24 rfl Try.underlying26 info47 rfl (by decide) (by omega) u3 x3_2 (⟨x4_1, x5_2, x6_2⟩ : S47) [.int .i64 x4_1, .int .i64 x5_2, .int .i64 x6_2] (fun _ => True) (fun _ => False) rfl rfl ?aP (fun _ hk => hk.elim) ?aF ?aO ?aB ?aS ?aL ?_; (case aP => exact k47_mkM _ _ _ (⟨x4_1, x5_2, x6_2⟩ : S47)); (case aB => exact HB.out); (case aF => exact (fun _ _ => trivial)); (case aO => exact HO_3.out); (case aS => exact (below_size HB.out)); (case aL => have := LMc20.out; omega); intro v66009 w21 ho hb hg hat; rw [← Ny66008.out] at ho; have n0_ := Aside0.mk (hb); have n1_ := Aside0.mk (ho); clear HB; clear HO_3; have HB := n0_; have HO66010 := n1_; clear n0_ n1_; clear ho hb hg hat))
                              go_roundg kj10
                              case measure => have := HK1.out; have := HK2.out; have := HJ5.out; have := HJ10.out; omega
                              case rel => exact ⟨(y66008), (-1), (wrap64 (x6_2 + 1)), (by rfl), (by rfl), H', ⟨by have := HK1.out; have := HK2.out; have := HJ5.out; have := HJ10.out; omega⟩, ⟨by (with_reducible repeat (first | apply Kd.R_alloc | apply Kd.R_drewN | apply Kd.R_drew)); exact HO66010.out⟩, ⟨by exact HB.out⟩⟩
                            · rw [if_neg c20] at H
                              exact absurd H (by simp)
                          · rw [if_neg c19] at H
                            have c19b0 : decide (0 ≤ x5_2) = false := decide_eq_false c19
                            clear c19
                            have H' := Aside0.mk H
                            clear H
                            go_wp2
                            go_roundg kj10
                            case measure => have := HK1.out; have := HK2.out; have := HJ5.out; have := HJ10.out; omega
                            case rel => exact ⟨(x3_2), (x5_2), (wrap64 (x6_2 + 1)), (by rfl), (by rfl), H', ⟨by have := HK1.out; have := HK2.out; have := HJ5.out; have := HJ10.out; omega⟩, ⟨by (with_reducible repeat (first | apply Kd.R_alloc | apply Kd.R_drewN | apply Kd.R_drew)); exact HO_3.out⟩, ⟨by exact HB.out⟩⟩
            · rw [if_neg c5] at H
              have c5b0 : decide (x6_2 ≤ 16) = false := decide_eq_false c5
              clear c5
              have H' := Aside0.mk H
              clear H
              go_wp2
              go_roundg k2
              case measure => have := HK1.out; have := HK2.out; omega
              case rel => exact ⟨(x3_2), (wrap64 (x4_1 + 1)), (by rfl), H', ⟨by have := HK1.out; have := HK2.out; omega⟩, ⟨by (with_reducible repeat (first | apply Kd.R_alloc | apply Kd.R_drewN | apply Kd.R_drew)); exact HO_3.out⟩, ⟨by exact HB.out⟩⟩
      · rw [if_neg c4] at H
        have c4b0 : decide (x4_1 < 16) = false := decide_eq_false c4
        clear c4
        obtain rfl := Option.some.inj H
        go_wp2
        go_ret
        exact ⟨_, by rfl, by (with_reducible repeat (first | apply Kd.R_alloc | apply Kd.R_drewN | apply Kd.R_drew)); exact HO_3.out, by exact HB.out⟩


def spec_equalInts.l0 : Nat → List Int → List Int → Int → Option (Bool)
  | 0, _, _, _ => none
  | k + 1, x0, x1, x5 => if x5 < (x0.length : Int) then (if 0 ≤ x5 then (if x5 < (x1.length : Int) then (if (rd x0 x5) = (rd x1 x5) then (spec_equalInts.l0 k x0 x1 (wrap64 (x5 + 1))) else (some false)) else (none)) else (none)) else (some true)
def spec_equalInts.f (k : Nat) (l0 : List Int) (l1 : List Int) : Option (Bool) := if (l0.length : Int) = (l1.length : Int) then (spec_equalInts.l0 k l0 l1 0) else (some false)
theorem spec_equalInts.mono_l : ∀ k, (∀ y0 y1 y2, LeO (spec_equalInts.l0 k y0 y1 y2) (spec_equalInts.l0 (k + 1) y0 y1 y2))
  | 0 => fun _ _ _ r h => by simp [spec_equalInts.l0] at h
  | k + 1 => by
    have ih0 := spec_equalInts.mono_l k
    · intro y0 y1 y2
      unfold spec_equalInts.l0
      repeat' first
      | (with_reducible exact ih0 _ _ _)
      | (with_reducible exact LeO.refl _)
      | (with_reducible exact LeO.none _)
      | (with_reducible refine LeO.ite ?_ ?_)
      | (with_reducible refine LeO.bind ?_ (fun _ => ?_))
      | exact ih0 _ _ _
      | exact LeO.none _
      | refine LeO.ite ?_ ?_
      | refine LeO.bind ?_ (fun _ => ?_)
theorem spec_equalInts.mono : ∀ a0 a1 k, LeO (spec_equalInts.f k a0 a1) (spec_equalInts.f (k + 1) a0 a1) := by
  intro a0 a1 k
  have ih0 := spec_equalInts.mono_l k
  unfold spec_equalInts.f
  repeat' first
      | (with_reducible exact ih0 _ _ _)
      | (with_reducible exact LeO.refl _)
      | (with_reducible exact LeO.none _)
      | (with_reducible refine LeO.ite ?_ ?_)
      | (with_reducible refine LeO.bind ?_ (fun _ => ?_))
      | exact ih0 _ _ _
      | exact LeO.none _
      | refine LeO.ite ?_ ?_
      | refine LeO.bind ?_ (fun _ => ?_)
set_option maxHeartbeats 8000000 in
set_option maxRecDepth 100000 in
theorem spec_equalInts.calls (k : Nat) (A0 : Option Addr) (c0 : Nat) (l0 : List Int) (A1 : Option Addr) (c1 : Nat) (l1 : List Int) (r : Bool) (w : World) (hr0 : Kd.C (Kd.int .i64) w A0 l0.length l0) (hc0 : l0.length ≤ c0) (hr1 : Kd.C (Kd.int .i64) w A1 l1.length l1) (hc1 : l1.length ≤ c1) (h : spec_equalInts.f k l0 l1 = some r) :
    Calls Try.prog 90 #[.slice A0 l0.length c0, .slice A1 l1.length c1] w fun e w' => e = .returned (.bool r) ∧ Drawn0 w w' := by
  have HR0 := Aside0.mk hr0
  have HC0 := Aside0.mk hc0
  clear hr0 hc0
  have HR1 := Aside0.mk hr1
  have HC1 := Aside0.mk hc1
  clear hr1 hc1
  have H : (if (l0.length : Int) = (l1.length : Int) then (spec_equalInts.l0 k l0 l1 0) else (some false)) = some r := h
  clear h
  by_cases c3 : (l0.length : Int) = (l1.length : Int)
  · rw [if_pos c3] at H
    have c3b0 : ((l0.length : Int) == (l1.length : Int)) = true := beq_iff_eq.mpr c3
    have c3b1 : ((l0.length : Int) != (l1.length : Int)) = false := bne_eq_false_iff_eq.mpr c3
    have c3b2 : (l0.length == l1.length) = true := by first | simpa using c3 | (simp at c3 ⊢; omega)
    clear c3
    have H' := Aside0.mk H
    clear H
    go_enter Try.func90, Try.ntmps90
    go_wp2
    repeat (go_quiet (fail); try go_wp2)
    go_loopg [5] k (fun kq v5 w' => ∃ (x5_1 : Int), v5 = .int .i64 x5_1 ∧ Aside0 (spec_equalInts.l0 kq l0 l1 x5_1 = some r) ∧ Aside0 (kq ≤ k) ∧ Drawn0 w w')
    case atStart => exact ⟨(0), (by first | rfl | (simp; done) | (simp [*]; done)), H', ⟨Nat.le_refl _⟩, by repeat (first | exact Drawn0.refl _ | apply Drawn0.step)⟩
    case round =>
      clear H'
      try clear c1
      try clear p2
      try clear c3
      try clear c3b0
      try clear c3b1
      try clear c3b2
      obtain ⟨x5_1, rfl, HA, HK1, ⟨m1, rfl⟩⟩ := hrel
      cases gk with
      | zero => exact absurd HA.out (by simp [spec_equalInts.l0])
      | succ k1 =>
        have H := HA.out
        clear HA
        simp only [spec_equalInts.l0] at H
        by_cases c4 : x5_1 < (l0.length : Int)
        · rw [if_pos c4] at H
          have c4b0 : decide (x5_1 < (l0.length : Int)) = true := decide_eq_true c4
          clear c4
          by_cases c5 : 0 ≤ x5_1
          · rw [if_pos c5] at H
            have c5b0 : decide (0 ≤ x5_1) = true := decide_eq_true c5
            clear c5
            by_cases c6 : x5_1 < (l1.length : Int)
            · rw [if_pos c6] at H
              have c6b0 : decide (x5_1 < (l1.length : Int)) = true := decide_eq_true c6
              clear c6
              by_cases c7 : (rd l0 x5_1) = (rd l1 x5_1)
              · rw [if_pos c7] at H
                have c7b0 : ((rd l0 x5_1) == (rd l1 x5_1)) = true := beq_iff_eq.mpr c7
                have c7b1 : ((rd l0 x5_1) != (rd l1 x5_1)) = false := bne_eq_false_iff_eq.mpr c7
                clear c7
                have H' := Aside0.mk H
                clear H
                have p91001 : 0 ≤ (x5_1 : Int) := of_decide_eq_true (by first | (with_reducible assumption) | assumption)
                have q91001 : x5_1 < (l0.length : Int) := of_decide_eq_true (by first | (with_reducible assumption) | assumption)
                obtain ⟨ad91001, e91001, hx91001_0⟩ := Kd.at_int HR0.out x5_1 p91001 q91001
                cases e91001
                replace p91001 := eq_true p91001
                replace q91001 := eq_true q91001
                have p91002 : 0 ≤ (x5_1 : Int) := of_decide_eq_true (by first | (with_reducible assumption) | assumption)
                have q91002 : x5_1 < (l1.length : Int) := of_decide_eq_true (by first | (with_reducible assumption) | assumption)
                obtain ⟨ad91002, e91002, hx91002_0⟩ := Kd.at_int HR1.out x5_1 p91002 q91002
                cases e91002
                replace p91002 := eq_true p91002
                replace q91002 := eq_true q91002
                go_wp2
                repeat (go_quiet (fail); try go_wp2)
                go_roundg k1
                case measure => have := HK1.out; omega
                case rel => exact ⟨(wrap64 (x5_1 + 1)), (by first | rfl | (simp; done) | (simp [*]; done)), H', ⟨by have := HK1.out; omega⟩, by repeat (first | exact Drawn0.refl _ | apply Drawn0.step)⟩
              · rw [if_neg c7] at H
                have c7b0 : ((rd l0 x5_1) == (rd l1 x5_1)) = false := beq_eq_false_iff_ne.mpr c7
                have c7b1 : ((rd l0 x5_1) != (rd l1 x5_1)) = true := bne_iff_ne.mpr c7
                obtain rfl := Option.some.inj H
                have p91001 : 0 ≤ (x5_1 : Int) := of_decide_eq_true (by first | (with_reducible assumption) | assumption)
                have q91001 : x5_1 < (l0.length : Int) := of_decide_eq_true (by first | (with_reducible assumption) | assumption)
                obtain ⟨ad91001, e91001, hx91001_0⟩ := Kd.at_int HR0.out x5_1 p91001 q91001
                cases e91001
                replace p91001 := eq_true p91001
                replace q91001 := eq_true q91001
                have p91002 : 0 ≤ (x5_1 : Int) := of_decide_eq_true (by first | (with_reducible assumption) | assumption)
                have q91002 : x5_1 < (l1.length : Int) := of_decide_eq_true (by first | (with_reducible assumption) | assumption)
                obtain ⟨ad91002, e91002, hx91002_0⟩ := Kd.at_int HR1.out x5_1 p91002 q91002
                cases e91002
                replace p91002 := eq_true p91002
                replace q91002 := eq_true q91002
                go_wp2
                repeat (go_quiet (fail); try go_wp2)
                go_ret
                exact ⟨by first | rfl | (simp; done) | (simp [*]; done), by repeat (first | exact Drawn0.refl _ | apply Drawn0.step)⟩
            · rw [if_neg c6] at H
              exact absurd H (by simp)
          · rw [if_neg c5] at H
            exact absurd H (by simp)
        · rw [if_neg c4] at H
          have c4b0 : decide (x5_1 < (l0.length : Int)) = false := decide_eq_false c4
          clear c4
          obtain rfl := Option.some.inj H
          go_wp2
          repeat (go_quiet (fail); try go_wp2)
          go_ret
          exact ⟨by first | rfl | (simp; done) | (simp [*]; done), by repeat (first | exact Drawn0.refl _ | apply Drawn0.step)⟩
  · rw [if_neg c3] at H
    have c3b0 : ((l0.length : Int) == (l1.length : Int)) = false := beq_eq_false_iff_ne.mpr c3
    have c3b1 : ((l0.length : Int) != (l1.length : Int)) = true := bne_iff_ne.mpr c3
    have c3b2 : (l0.length == l1.length) = false := by first | simpa using c3 | (simp at c3 ⊢; omega)
    obtain rfl := Option.some.inj H
    go_enter Try.func90, Try.ntmps90
    go_wp2
    repeat (go_quiet (fail); try go_wp2)
    go_ret
    exact ⟨by first | rfl | (simp; done) | (simp [*]; done), by repeat (first | exact Drawn0.refl _ | apply Drawn0.step)⟩


mutual
def spec_changed.l0 : Nat → List Bool → Int → Int → Int → Int → List Int → Int → Int → Int → List Int → Option ((List S47))
  | 0, _, _, _, _, _, _, _, _, _, _ => none
  | k + 1, x5, x6, x47002000, x47002001, x47002002, x47002003, x47003000, x47003001, x47003002, x47003003 => if x6 < x47002001 then (spec_changed.l1 k x5 x6 0 x47002000 x47002001 x47002002 x47002003 x47003000 x47003001 x47003002 x47003003) else ((spec_runsOf.f k x5).bind fun t47006 => (some t47006))
def spec_changed.l1 : Nat → List Bool → Int → Int → Int → Int → Int → List Int → Int → Int → Int → List Int → Option ((List S47))
  | 0, _, _, _, _, _, _, _, _, _, _, _ => none
  | k + 1, x5, x6, x7, x47002000, x47002001, x47002002, x47002003, x47003000, x47003001, x47003002, x47003003 => if x7 < x47002000 then ((spec_pixelAt.f x47002000 x47002001 x47002002 x47002003 x7 x6).bind fun t47009 => ((spec_pixelAt.f x47003000 x47003001 x47003002 x47003003 x7 x6).bind fun t47012 => ((spec_equalInts.f k t47009 t47012).bind fun t47015 => (if 0 ≤ (wrap64 ((wrap64 (x6 * 16)) + x7)) then (if (wrap64 ((wrap64 (x6 * 16)) + x7)) < (x5.length : Int) then (spec_changed.l1 k (x5.set ((wrap64 ((wrap64 (x6 * 16)) + x7)) : Int).toNat (!t47015)) x6 (wrap64 (x7 + 1)) x47002000 x47002001 x47002002 x47002003 x47003000 x47003001 x47003002 x47003003) else none) else none)))) else (spec_changed.l0 k x5 (wrap64 (x6 + 1)) x47002000 x47002001 x47002002 x47002003 x47003000 x47003001 x47003002 x47003003)
end
def spec_changed.f (k : Nat) (a0_0 : Int) (a0_1 : Int) (a0_2 : Int) (l0_3 : List Int) (a1_0 : Int) (a1_1 : Int) (a1_2 : Int) (l1_3 : List Int) : Option ((List S47)) := if 256 ≤ 281474976710656 then (spec_changed.l0 k (List.replicate 256 false) 0 a0_0 a0_1 a0_2 l0_3 a1_0 a1_1 a1_2 l1_3) else (none)
theorem spec_changed.mono_l : ∀ k, (∀ y0 y1 y2 y3 y4 y5 y6 y7 y8 y9, LeO (spec_changed.l0 k y0 y1 y2 y3 y4 y5 y6 y7 y8 y9) (spec_changed.l0 (k + 1) y0 y1 y2 y3 y4 y5 y6 y7 y8 y9)) ∧ (∀ y0 y1 y2 y3 y4 y5 y6 y7 y8 y9 y10, LeO (spec_changed.l1 k y0 y1 y2 y3 y4 y5 y6 y7 y8 y9 y10) (spec_changed.l1 (k + 1) y0 y1 y2 y3 y4 y5 y6 y7 y8 y9 y10))
  | 0 => ⟨fun _ _ _ _ _ _ _ _ _ _ r h => by simp [spec_changed.l0] at h, fun _ _ _ _ _ _ _ _ _ _ _ r h => by simp [spec_changed.l1] at h⟩
  | k + 1 => by
    obtain ⟨ih0, ih1⟩ := spec_changed.mono_l k
    refine ⟨?_, ?_⟩
    · intro y0 y1 y2 y3 y4 y5 y6 y7 y8 y9
      unfold spec_changed.l0
      repeat' first | (with_reducible exact ih1 _ _ _ _ _ _ _ _ _ _ _) | (with_reducible exact spec_runsOf.mono _ _) | (with_reducible exact LeO.refl _) | (with_reducible refine LeO.ite ?_ ?_) | (with_reducible refine LeO.bind ?_ (fun _ => ?_))
    · intro y0 y1 y2 y3 y4 y5 y6 y7 y8 y9 y10
      unfold spec_changed.l1
      repeat' first | (with_reducible exact ih0 _ _ _ _ _ _ _ _ _ _) | (with_reducible exact ih1 _ _ _ _ _ _ _ _ _ _ _) | (with_reducible exact spec_equalInts.mono _ _ _) | (with_reducible exact LeO.refl _) | (with_reducible refine LeO.ite ?_ ?_) | (with_reducible refine LeO.bind ?_ (fun _ => ?_))
theorem spec_changed.mono : ∀ a0 a1 a2 a3 a4 a5 a6 a7 k, LeO (spec_changed.f k a0 a1 a2 a3 a4 a5 a6 a7) (spec_changed.f (k + 1) a0 a1 a2 a3 a4 a5 a6 a7) := by
  intro a0 a1 a2 a3 a4 a5 a6 a7 k
  obtain ⟨ih0, ih1⟩ := spec_changed.mono_l k
  unfold spec_changed.f
  repeat' first | (with_reducible exact ih0 _ _ _ _ _ _ _ _ _ _) | (with_reducible exact LeO.refl _) | (with_reducible refine LeO.ite ?_ ?_)
def spec_changed.T8 : Bool × List (List Nat × List Nat) := (true, [([], []), ([], []), ([1], [1]), ([], []), ([2, 3], [2, 3]), ([], []), ([], []), ([], []), ([5, 6, 7], [5, 6, 7]), ([], []), ([], []), ([], []), ([9, 10, 11, 8], [9, 10, 11]), ([8, 12, 12], [8, 12]), ([13], [13]), ([0, 4, 0, 1, 2, 3, 4, 5, 6, 7, 8, 9, 10, 11, 12, 13, 14], [0, 4]), ([15, 14, 13, 0, 1, 2, 3, 4, 5, 6, 7, 8, 9, 10, 11, 12, 13, 14], [14, 15])])
def spec_changed.B8 : List Nat := [0, 0, 2, 0, 14, 0, 0, 0, 224, 0, 0, 0, 4064, 8160, 16352, 32767, 65535]
theorem spec_changed.tab8 : rtab .any (opsOf Try.f46 8) = spec_changed.T8 := by kernel_rfl
theorem spec_changed.bits8 : waitsOk spec_changed.T8.2 spec_changed.B8 = true := by kernel_rfl
set_option maxHeartbeats 8000000 in
set_option maxRecDepth 100000 in
theorem spec_changed.calls (k : Nat) (a0_0 : Int) (a0_1 : Int) (a0_2 : Int) (A0_3 : Option Addr) (c0_3 : Nat) (l0_3 : List Int) (a1_0 : Int) (a1_1 : Int) (a1_2 : Int) (A1_3 : Option Addr) (c1_3 : Nat) (l1_3 : List Int) (r : List S47) (w : World) (hr0_3 : Kd.C (Kd.int .i64) w A0_3 l0_3.length l0_3) (hc0_3 : l0_3.length ≤ c0_3) (hr1_3 : Kd.C (Kd.int .i64) w A1_3 l1_3.length l1_3) (hc1_3 : l1_3.length ≤ c1_3) (h : spec_changed.f k a0_0 a0_1 a0_2 l0_3 a1_0 a1_1 a1_2 l1_3 = some r) :
    Calls Try.prog 46 #[.agg #[.int .i64 a0_0, .int .i64 a0_1, .int .i64 a0_2, .slice A0_3 l0_3.length c0_3], .agg #[.int .i64 a1_0, .int .i64 a1_1, .int .i64 a1_2, .slice A1_3 l1_3.length c1_3]] w fun e w' => ∃ v0_ : Value, e = .returned v0_ ∧ Kd.R k47 47 w' w.heap.size (fun _ => True) v0_ r ∧ Below w.heap.size w w' := by
  have hu28 := Try.underlying28
  have HR0_3 := Aside0.mk hr0_3
  have HC0_3 := Aside0.mk hc0_3
  clear hr0_3 hc0_3
  have HR1_3 := Aside0.mk hr1_3
  have HC1_3 := Aside0.mk hc1_3
  clear hr1_3 hc1_3
  have HB := Aside0.mk (Below.refl w.heap.size w)
  have H : (if 256 ≤ 281474976710656 then (spec_changed.l0 k (List.replicate 256 false) 0 a0_0 a0_1 a0_2 l0_3 a1_0 a1_1 a1_2 l1_3) else none) = some r := h
  clear h
  by_cases c3 : 256 ≤ 281474976710656
  · rw [if_pos c3] at H
    have c3b0 := eq_true c3
    have c3b1 : decide (256 ≤ 281474976710656) = true := decide_eq_true c3
    clear c3
    obtain ⟨y47003, hy47003⟩ : ∃ y_ : List Bool, y_ = (List.replicate 256 false) := ⟨_, rfl⟩
    replace H : (spec_changed.l0 k y47003 0 a0_0 a0_1 a0_2 l0_3 a1_0 a1_1 a1_2 l1_3) = some r := by (rw [hy47003]; with_reducible exact H)
    have Ny47003 := Aside0.mk hy47003
    clear hy47003
    have H' := Aside0.mk H
    clear H
    go_enter Try.func46, Try.ntmps46
    go_wp2_with (first | ((with_reducible refine gate_dst (N := 2) rfl ?_); refine box_event ?hg (N := 2) ?hd (cs := #[.int .i64 a0_0, .int .i64 a0_1, .int .i64 a0_2, .slice A0_3 l0_3.length c0_3]) (t := 28) ?hr ?_; (case hd => rfl); (case hg => rfl); (case hr => (go_simp; done)); intro gb47001 hg w4 hbox hb; have n0_ := Aside0.mk (below_step HB.out hb); have n1_ := Aside0.mk (hbox); have n2_ := Aside0.mk ((by rw [hg]; exact (below_size HB.out) : w.heap.size ≤ gb47001)); have n3_ := Aside0.mk ((by rw [hg]; exact (below_size HB.out) : w.heap.size ≤ gb47001)); clear HB; have HB := n0_; have BK47001 := n1_; have GW47001 := n2_; have GE47001 := n3_; clear n0_ n1_ n2_ n3_; clear hb hbox hg) | ((with_reducible refine gate_dst (N := 3) rfl ?_); refine box_event ?hg (N := 3) ?hd (cs := #[.int .i64 a1_0, .int .i64 a1_1, .int .i64 a1_2, .slice A1_3 l1_3.length c1_3]) (t := 28) ?hr ?_; (case hd => rfl); (case hg => rfl); (case hr => (go_simp; done)); intro gb47002 hg w5 hbox hb; have n0_ := Aside0.mk (blk_below BK47001.out hb); have n1_ := Aside0.mk (below_step HB.out hb); have n2_ := Aside0.mk (hbox); have n3_ := Aside0.mk ((by rw [hg]; exact (below_size HB.out) : w.heap.size ≤ gb47002)); have n4_ := Aside0.mk ((by rw [hg]; exact (below_size HB.out) : w.heap.size ≤ gb47002)); have n5_ := Aside0.mk ((by rw [hg]; exact Nat.ne_of_lt (blk_lt BK47001.out) : gb47001 ≠ gb47002)); have n6_ := Aside0.mk ((by rw [hg]; exact Nat.ne_of_gt (blk_lt BK47001.out) : gb47002 ≠ gb47001)); clear BK47001; clear HB; have BK47001 := n0_; have HB := n1_; have BK47002 := n2_; have GW47002 := n3_; have GE47002 := n4_; have NB47001_47002 := n5_; have NB47002_47001 := n6_; clear n0_ n1_ n2_ n3_ n4_ n5_ n6_; clear hb hbox hg) | ((with_reducible refine gate_dst (N := 8) rfl ?_); refine Kd.R_make Kd.bool _ 4 rfl (N := 8) rfl 81 _ _ rfl 256 rfl rfl Try.underlying81 (.bool false) 1 info4 rfl (by decide) (by omega) false (ok := fun _ => True) (okp := fun _ => True) rfl (fun _ hk => hk) trivial (by omega) (by omega) (Below.refl _ _) (Nat.le_refl _) ?_; intro v47004 w6 ho7 hb hg_ hnew_; clear hg_ hnew_; (simp only [Int.reduceToNat] at ho7; rw [← Ny47003.out] at ho7); have n0_ := Aside0.mk (Kd.R_lower ho7 (below_size HB.out)); have n1_ := Aside0.mk (blk_below BK47001.out hb); have n2_ := Aside0.mk (blk_below BK47002.out hb); have n3_ := Aside0.mk (below_step HB.out hb); clear BK47001; clear BK47002; clear HB; have HO47005 := n0_; have BK47001 := n1_; have BK47002 := n2_; have HB := n3_; clear n0_ n1_ n2_ n3_; clear hb ho7))
    go_loopg [6] k (fun kq v6 w' => ∃ (x5_1 : List Bool) (x6_1 : Int), v6 = .int .i64 x6_1 ∧ Aside0 (spec_changed.l0 kq x5_1 x6_1 a0_0 a0_1 a0_2 l0_3 a1_0 a1_1 a1_2 l1_3 = some r) ∧ Aside0 (kq ≤ k) ∧ Aside0 (Kd.R Kd.bool 4 w' w.heap.size (fun _ => True) v47004 x5_1) ∧ Aside0 (w'.heap[gb47001]? = some (.cells #[.int .i64 a0_0, .int .i64 a0_1, .int .i64 a0_2, (.slice A0_3 l0_3.length c0_3)] 28 (0, 0))) ∧ Aside0 (w'.heap[gb47002]? = some (.cells #[.int .i64 a1_0, .int .i64 a1_1, .int .i64 a1_2, (.slice A1_3 l1_3.length c1_3)] 28 (0, 0))) ∧ Aside0 (Below w.heap.size w w'))
    case atStart => exact ⟨(y47003), (0), (by rfl), H', ⟨Nat.le_refl _⟩, ⟨by (with_reducible repeat (first | apply Kd.R_alloc | apply Kd.R_drewN | apply Kd.R_drew)); exact HO47005.out⟩, ⟨by (with_reducible repeat (first | refine blk_drewN ?_ _ | refine blk_drew ?_ | refine blk_alloc ?_ _)); exact BK47001.out⟩, ⟨by (with_reducible repeat (first | refine blk_drewN ?_ _ | refine blk_drew ?_ | refine blk_alloc ?_ _)); exact BK47002.out⟩, ⟨by exact HB.out⟩⟩
    case round =>
      clear H'
      try clear c1
      try clear p2
      try clear c3
      try clear c3b0
      try clear c3b1
      try clear c4
      obtain ⟨x5_1, x6_1, rfl, HA, HK1, HO_5, BK47001, BK47002, HB⟩ := hrel
      cases gk with
      | zero => exact absurd HA.out (by simp [spec_changed.l0])
      | succ k1 =>
        have H := HA.out
        clear HA
        simp only [spec_changed.l0] at H
        by_cases c8 : x6_1 < a0_1
        · rw [if_pos c8] at H
          have c8b0 : decide (x6_1 < a0_1) = true := decide_eq_true c8
          clear c8
          have H' := Aside0.mk H
          clear H
          have hnb9 := NB47001_47002.out
          have hnc9 := NB47002_47001.out
          have hcz10_0 : wr.cell? ⟨gb47001, 0, none⟩ = some (.int .i64 a0_0) := (blk_cell BK47001.out 0).trans rfl
          have hcz10_1 : wr.cell? ⟨gb47001, 1, none⟩ = some (.int .i64 a0_1) := (blk_cell BK47001.out 1).trans rfl
          have hcz10_2 : wr.cell? ⟨gb47001, 2, none⟩ = some (.int .i64 a0_2) := (blk_cell BK47001.out 2).trans rfl
          have hcz10_3 : wr.cell? ⟨gb47001, 3, none⟩ = some (.slice A0_3 l0_3.length c0_3) := (blk_cell BK47001.out 3).trans rfl
          have hfz10_0 := blk_frozen BK47001.out 0
          have hfz10_1 := blk_frozen BK47001.out 1
          have hfz10_2 := blk_frozen BK47001.out 2
          have hfz10_3 := blk_frozen BK47001.out 3
          go_wp2
          go_loopg [7] k1 (fun kq v7 w' => ∃ (x5_2 : List Bool) (x7_2 : Int), v7 = .int .i64 x7_2 ∧ Aside0 (spec_changed.l1 kq x5_2 x6_1 x7_2 a0_0 a0_1 a0_2 l0_3 a1_0 a1_1 a1_2 l1_3 = some r) ∧ Aside0 (kq ≤ k1) ∧ Aside0 (Kd.R Kd.bool 4 w' w.heap.size (fun _ => True) v47004 x5_2) ∧ Aside0 (w'.heap[gb47001]? = some (.cells #[.int .i64 a0_0, .int .i64 a0_1, .int .i64 a0_2, (.slice A0_3 l0_3.length c0_3)] 28 (0, 0))) ∧ Aside0 (w'.heap[gb47002]? = some (.cells #[.int .i64 a1_0, .int .i64 a1_1, .int .i64 a1_2, (.slice A1_3 l1_3.length c1_3)] 28 (0, 0))) ∧ Aside0 (Below w.heap.size w w'))
          case atStart => exact ⟨(x5_1), (0), (by rfl), H', ⟨Nat.le_refl _⟩, ⟨by (with_reducible repeat (first | apply Kd.R_alloc | apply Kd.R_drewN | apply Kd.R_drew)); exact HO_5.out⟩, ⟨by (with_reducible repeat (first | refine blk_drewN ?_ _ | refine blk_drew ?_ | refine blk_alloc ?_ _)); exact BK47001.out⟩, ⟨by (with_reducible repeat (first | refine blk_drewN ?_ _ | refine blk_drew ?_ | refine blk_alloc ?_ _)); exact BK47002.out⟩, ⟨by exact HB.out⟩⟩
          case round =>
            clear H'
            try clear c1
            try clear p2
            try clear c3
            try clear c3b0
            try clear c3b1
            try clear c4
            try clear c8
            try clear c8b0
            try clear c9
            try clear hcz10_0
            try clear hcz10_1
            try clear hcz10_2
            try clear hcz10_3
            try clear hfz10_0
            try clear hfz10_1
            try clear hfz10_2
            try clear hfz10_3
            try clear p2
            obtain ⟨x5_2, x7_2, rfl, HA, HK2, HO_5, BK47001, BK47002, HB⟩ := hrel
            cases gk with
            | zero => exact absurd HA.out (by simp [spec_changed.l1])
            | succ k2 =>
              have H := HA.out
              clear HA
              simp only [spec_changed.l1] at H
              by_cases c11 : x7_2 < a0_0
              · rw [if_pos c11] at H
                have c11b0 : decide (x7_2 < a0_0) = true := decide_eq_true c11
                clear c11
                replace H := Option.bind_eq_some_iff.mp H
                obtain ⟨t47009, A120, H⟩ := H
                replace H : ((spec_pixelAt.f a1_0 a1_1 a1_2 l1_3 x7_2 x6_1).bind fun t47012 => ((spec_equalInts.f k2 t47009 t47012).bind fun t47015 => (if 0 ≤ (wrap64 ((wrap64 (x6_1 * 16)) + x7_2)) then (if (wrap64 ((wrap64 (x6_1 * 16)) + x7_2)) < (x5_2.length : Int) then (spec_changed.l1 k2 (x5_2.set ((wrap64 ((wrap64 (x6_1 * 16)) + x7_2)) : Int).toNat (!t47015)) x6_1 (wrap64 (x7_2 + 1)) a0_0 a0_1 a0_2 l0_3 a1_0 a1_1 a1_2 l1_3) else none) else none))) = some r := H
                have A12 := Aside0.mk A120
                clear A120
                replace H := Option.bind_eq_some_iff.mp H
                obtain ⟨t47012, A130, H⟩ := H
                replace H : ((spec_equalInts.f k2 t47009 t47012).bind fun t47015 => (if 0 ≤ (wrap64 ((wrap64 (x6_1 * 16)) + x7_2)) then (if (wrap64 ((wrap64 (x6_1 * 16)) + x7_2)) < (x5_2.length : Int) then (spec_changed.l1 k2 (x5_2.set ((wrap64 ((wrap64 (x6_1 * 16)) + x7_2)) : Int).toNat (!t47015)) x6_1 (wrap64 (x7_2 + 1)) a0_0 a0_1 a0_2 l0_3 a1_0 a1_1 a1_2 l1_3) else none) else none)) = some r := H
                have A13 := Aside0.mk A130
                clear A130
                replace H := Option.bind_eq_some_iff.mp H
                obtain ⟨t47015, A140, H⟩ := H
                replace H : (if 0 ≤ (wrap64 ((wrap64 (x6_1 * 16)) + x7_2)) then (if (wrap64 ((wrap64 (x6_1 * 16)) + x7_2)) < (x5_2.length : Int) then (spec_changed.l1 k2 (x5_2.set ((wrap64 ((wrap64 (x6_1 * 16)) + x7_2)) : Int).toNat (!t47015)) x6_1 (wrap64 (x7_2 + 1)) a0_0 a0_1 a0_2 l0_3 a1_0 a1_1 a1_2 l1_3) else none) else none) = some r := H
                have A14 := Aside0.mk A140
                clear A140
                obtain ⟨ji15, hji15⟩ : ∃ j_ : Int, (wrap64 ((wrap64 (x6_1 * 16)) + x7_2)) = j_ := ⟨_, rfl⟩
                replace H : (if 0 ≤ ji15 then (if ji15 < (x5_2.length : Int) then (spec_changed.l1 k2 (x5_2.set (ji15 : Int).toNat (!t47015)) x6_1 (wrap64 (x7_2 + 1)) a0_0 a0_1 a0_2 l0_3 a1_0 a1_1 a1_2 l1_3) else none) else none) = some r := by (rw [hji15] at H; exact H)
                have hji15w : (IntKind.i64.wrap ((wrap64 (x6_1 * 16)) + x7_2)) = ji15 := (i64_w _).trans hji15
                by_cases c16 : 0 ≤ (ji15)
                · rw [if_pos c16] at H
                  have c16b0 : decide (0 ≤ ji15) = true := decide_eq_true c16
                  clear c16
                  by_cases c17 : ji15 < (x5_2.length : Int)
                  · rw [if_pos c17] at H
                    have c17b0 : decide (ji15 < (x5_2.length : Int)) = true := decide_eq_true c17
                    clear c17
                    obtain ⟨y47016, hy47016⟩ : ∃ y_ : List Bool, y_ = (x5_2.set (ji15 : Int).toNat (!t47015)) := ⟨_, rfl⟩
                    replace H : (spec_changed.l1 k2 y47016 x6_1 (wrap64 (x7_2 + 1)) a0_0 a0_1 a0_2 l0_3 a1_0 a1_1 a1_2 l1_3) = some r := by (rw [hy47016]; with_reducible exact H)
                    have Ny47016 := Aside0.mk hy47016
                    clear hy47016
                    have H' := Aside0.mk H
                    clear H
                    have hnb19 := NB47001_47002.out
                    have hnc19 := NB47002_47001.out
                    have hcz20_0 : wr.cell? ⟨gb47001, 0, none⟩ = some (.int .i64 a0_0) := (blk_cell BK47001.out 0).trans rfl
                    have hcz20_1 : wr.cell? ⟨gb47001, 1, none⟩ = some (.int .i64 a0_1) := (blk_cell BK47001.out 1).trans rfl
                    have hcz20_2 : wr.cell? ⟨gb47001, 2, none⟩ = some (.int .i64 a0_2) := (blk_cell BK47001.out 2).trans rfl
                    have hcz20_3 : wr.cell? ⟨gb47001, 3, none⟩ = some (.slice A0_3 l0_3.length c0_3) := (blk_cell BK47001.out 3).trans rfl
                    have hfz20_0 := blk_frozen BK47001.out 0
                    have hfz20_1 := blk_frozen BK47001.out 1
                    have hfz20_2 := blk_frozen BK47001.out 2
                    have hfz20_3 := blk_frozen BK47001.out 3
                    try go_wp2
                    have n0_ := Aside0.mk (Kd.R_drew HO_5.out)
                    have n1_ := Aside0.mk (blk_drew BK47001.out)
                    have n2_ := Aside0.mk (blk_drew BK47002.out)
                    have n3_ := Aside0.mk (below_drew1 HB.out)
                    clear HO_5 BK47001 BK47002 HB
                    revert n0_ n1_ n2_ n3_; intro HO_5 BK47001 BK47002 HB
                    refine start_ (n := 17) (S := fun w' => w'.cell? ⟨gb47001, 0, none⟩ = some (.int .i64 a0_0) ∧ w'.cell? ⟨gb47001, 1, none⟩ = some (.int .i64 a0_1) ∧ w'.cell? ⟨gb47001, 2, none⟩ = some (.int .i64 a0_2) ∧ w'.cell? ⟨gb47001, 3, none⟩ = some (.slice A0_3 l0_3.length c0_3) ∧ w'.cell? ⟨gb47002, 0, none⟩ = some (.int .i64 a1_0) ∧ w'.cell? ⟨gb47002, 1, none⟩ = some (.int .i64 a1_1) ∧ w'.cell? ⟨gb47002, 2, none⟩ = some (.int .i64 a1_2) ∧ w'.cell? ⟨gb47002, 3, none⟩ = some (.slice A1_3 l1_3.length c1_3)) (ds := [16]) #[false, false, false, false, false, false, false, false, false, false, false, false, false, false, false, false, false] (by kernel_rfl) rfl rfl ⟨(blk_cell BK47001.out 0).trans rfl, (blk_cell BK47001.out 1).trans rfl, (blk_cell BK47001.out 2).trans rfl, (blk_cell BK47001.out 3).trans rfl, (blk_cell BK47002.out 0).trans rfl, (blk_cell BK47002.out 1).trans rfl, (blk_cell BK47002.out 2).trans rfl, (blk_cell BK47002.out 3).trans rfl⟩ (fun hHeld => ?_); refine with_tabW spec_changed.tab8 spec_changed.bits8 (fun HT_ HW_ => ?_)
                    generalize wr.drew = w21 at HO_5 BK47001 BK47002 HB hHeld ⊢
                    refine pure_ (i := 0) (N := some 21) (v := ?_) (a' := ?_) #[true, false, false, false, false, false, false, false, false, false, false, false, false, false, false, false, false] rfl rfl (any_of HT_.out (by kernel_rfl)) (fun _ _ _ h => h) (Or.inl ⟨by rfl, ?_⟩) ?_ ?_
                    rotate_left
                    · intro w'
                      go_simp
                      with_reducible rfl
                    rotate_left
                    · simp only [Act.put, List.setIfInBounds_toArray, List.set_cons_zero, List.set_cons_succ, i64_w, i32_w]
                      rfl
                    refine pure_ (i := 1) (N := some 22) (v := ?_) (a' := ?_) #[true, true, false, false, false, false, false, false, false, false, false, false, false, false, false, false, false] rfl rfl (any_of HT_.out (by kernel_rfl)) (fun _ _ _ h => h) (Or.inl ⟨by rfl, ?_⟩) ?_ ?_
                    rotate_left
                    · intro w'
                      go_simp
                      with_reducible rfl
                    rotate_left
                    · simp only [Act.put, List.setIfInBounds_toArray, List.set_cons_zero, List.set_cons_succ, i64_w, i32_w]
                      rfl
                    refine pure_ (i := 2) (N := some 23) (v := ?_) (a' := ?_) #[true, true, true, false, false, false, false, false, false, false, false, false, false, false, false, false, false] rfl rfl (any_of HT_.out (by kernel_rfl)) (fun _ _ _ h => h) (Or.inl ⟨by rfl, ?_⟩) ?_ ?_
                    rotate_left
                    · intro w'
                      go_simp
                      with_reducible rfl
                    rotate_left
                    · simp only [Act.put, List.setIfInBounds_toArray, List.set_cons_zero, List.set_cons_succ, i64_w, i32_w]
                      rfl
                    refine pure_ (i := 3) (N := some 24) (v := ?_) (a' := ?_) #[true, true, true, true, false, false, false, false, false, false, false, false, false, false, false, false, false] rfl rfl (any_of HT_.out (by kernel_rfl)) (fun _ _ _ h => h) (Or.inl ⟨by rfl, ?_⟩) ?_ ?_
                    rotate_left
                    · intro w'
                      go_simp
                      with_reducible rfl
                    rotate_left
                    · simp only [Act.put, List.setIfInBounds_toArray, List.set_cons_zero, List.set_cons_succ, i64_w, i32_w]
                      rfl
                    refine pure_ (i := 4) (N := some 25) (v := ?_) (a' := ?_) #[true, true, true, true, true, false, false, false, false, false, false, false, false, false, false, false, false] rfl rfl (any_of HT_.out (by kernel_rfl)) (fun _ _ _ h => h) (Or.inl ⟨by rfl, ?_⟩) ?_ ?_
                    rotate_left
                    · intro w'
                      go_simp
                      with_reducible rfl
                    rotate_left
                    · simp only [Act.put, List.setIfInBounds_toArray, List.set_cons_zero, List.set_cons_succ, i64_w, i32_w]
                      rfl
                    refine pure_ (i := 6) (N := some 27) (v := ?_) (a' := ?_) #[true, true, true, true, true, false, true, false, false, false, false, false, false, false, false, false, false] rfl rfl (any_of HT_.out (by kernel_rfl)) (fun _ _ _ h => h) (Or.inl ⟨by rfl, ?_⟩) ?_ ?_
                    rotate_left
                    · intro w'
                      go_simp
                      with_reducible rfl
                    rotate_left
                    · simp only [Act.put, List.setIfInBounds_toArray, List.set_cons_zero, List.set_cons_succ, i64_w, i32_w]
                      rfl
                    refine pure_ (i := 7) (N := some 28) (v := ?_) (a' := ?_) #[true, true, true, true, true, false, true, true, false, false, false, false, false, false, false, false, false] rfl rfl (any_of HT_.out (by kernel_rfl)) (fun _ _ _ h => h) (Or.inl ⟨by rfl, ?_⟩) ?_ ?_
                    rotate_left
                    · intro w'
                      go_simp
                      with_reducible rfl
                    rotate_left
                    · simp only [Act.put, List.setIfInBounds_toArray, List.set_cons_zero, List.set_cons_succ, i64_w, i32_w]
                      rfl
                    refine pure_ (i := 10) (N := some 31) (v := ?_) (a' := ?_) #[true, true, true, true, true, false, true, true, false, false, true, false, false, false, false, false, false] rfl rfl (any_of HT_.out (by kernel_rfl)) (fun _ _ _ h => h) (Or.inl ⟨by rfl, ?_⟩) ?_ ?_
                    rotate_left
                    · intro w'
                      go_simp
                      with_reducible rfl
                    rotate_left
                    · simp only [Act.put, List.setIfInBounds_toArray, List.set_cons_zero, List.set_cons_succ, i64_w, i32_w]
                      rfl
                    refine pure_ (i := 11) (N := some 32) (v := ?_) (a' := ?_) #[true, true, true, true, true, false, true, true, false, false, true, true, false, false, false, false, false] rfl rfl (any_of HT_.out (by kernel_rfl)) (fun _ _ _ h => h) (Or.inl ⟨by rfl, ?_⟩) ?_ ?_
                    rotate_left
                    · intro w'
                      go_simp
                      with_reducible rfl
                    rotate_left
                    · simp only [Act.put, List.setIfInBounds_toArray, List.set_cons_zero, List.set_cons_succ, i64_w, i32_w]
                      rfl
                    refine take_ (i := 5) (N := some 26) (v := ?_) (a' := ?_) #[true, true, true, true, true, true, true, true, false, false, true, true, false, false, false, false, false] rfl rfl (take_ofW HT_.out HW_.out (by kernel_rfl)) (fun _ _ _ h => h) (Or.inl ⟨by rfl, ?_⟩) hHeld ?_ ?_
                    rotate_left
                    · rintro w' ⟨s0, s1, s2, s3, s4, s5, s6, s7⟩
                      go_simp
                      with_reducible rfl
                    rotate_left
                    · simp only [Act.put, List.setIfInBounds_toArray, List.set_cons_zero, List.set_cons_succ, i64_w, i32_w]
                      rfl
                    refine take_ (i := 9) (N := some 30) (v := ?_) (a' := ?_) #[true, true, true, true, true, true, true, true, false, true, true, true, false, false, false, false, false] rfl rfl (take_ofW HT_.out HW_.out (by kernel_rfl)) (fun _ _ _ h => h) (Or.inl ⟨by rfl, ?_⟩) hHeld ?_ ?_
                    rotate_left
                    · rintro w' ⟨s0, s1, s2, s3, s4, s5, s6, s7⟩
                      go_simp
                      with_reducible rfl
                    rotate_left
                    · simp only [Act.put, List.setIfInBounds_toArray, List.set_cons_zero, List.set_cons_succ, i64_w, i32_w]
                      rfl
                    refine one_ (i := 8) (N := some 29) #[true, true, true, true, true, true, true, true, true, true, true, true, false, false, false, false, false] rfl rfl (one_of HT_.out (by kernel_rfl)) (by decide) (fun K hK => ?_)
                    refine goes_ Try.func63 (by kernel_rfl) rfl #[.agg #[.int .i64 a0_0, .int .i64 a0_1, .int .i64 a0_2, .slice A0_3 l0_3.length c0_3], .int .i64 x7_2, .int .i64 x6_1] (by rfl) rfl rfl (by (try simp only [List.map_toArray, List.map_cons, List.map_nil]); rfl) ?_
                    with_reducible refine (spec_pixelAt.calls a0_0 a0_1 a0_2 _ _ l0_3 x7_2 x6_1 t47009 _ ?side1 ?side2 A12.out).mono ?_
                    (case side1 => repeat (exact (Kd.C_below HR0_3.out HB.out)))
                    (case side2 => exact HC0_3.out)
                    rintro e w22 ⟨v47010, rfl, ho0, hb⟩
                    refine ⟨_, rfl, ?_⟩
                    have n0_ := Aside0.mk (Kd.R_below HO_5.out hb)
                    have n1_ := Aside0.mk (Kd.R_lower ho0 (below_size HB.out))
                    have n2_ := Aside0.mk (blk_below BK47001.out hb)
                    have n3_ := Aside0.mk (blk_below BK47002.out hb)
                    have n4_ := Aside0.mk (below_step HB.out hb)
                    clear HO_5 BK47001 BK47002 HB
                    revert n0_ n1_ n2_ n3_ n4_; intro HO_5 HO47011 BK47001 BK47002 HB
                    (try clear hb)
                    (try clear ho0)
                    refine hK.out _ _ ⟨(blk_cell BK47001.out 0).trans rfl, (blk_cell BK47001.out 1).trans rfl, (blk_cell BK47001.out 2).trans rfl, (blk_cell BK47001.out 3).trans rfl, (blk_cell BK47002.out 0).trans rfl, (blk_cell BK47002.out 1).trans rfl, (blk_cell BK47002.out 2).trans rfl, (blk_cell BK47002.out 3).trans rfl⟩ (fun hHeld => ?_)
                    clear hK K
                    refine norm_ (a' := ?_) ?_ ?_
                    rotate_left
                    · show Act.put _ (some 29) _ = _
                      simp only [Act.put, List.setIfInBounds_toArray, List.set_cons_zero, List.set_cons_succ, i64_w, i32_w]
                      rfl
                    refine one_ (i := 12) (N := some 33) #[true, true, true, true, true, true, true, true, true, true, true, true, true, false, false, false, false] rfl rfl (one_of HT_.out (by kernel_rfl)) (by decide) (fun K hK => ?_)
                    refine goes_ Try.func63 (by kernel_rfl) rfl #[.agg #[.int .i64 a1_0, .int .i64 a1_1, .int .i64 a1_2, .slice A1_3 l1_3.length c1_3], .int .i64 x7_2, .int .i64 x6_1] (by rfl) rfl rfl (by (try simp only [List.map_toArray, List.map_cons, List.map_nil]); rfl) ?_
                    with_reducible refine (spec_pixelAt.calls a1_0 a1_1 a1_2 _ _ l1_3 x7_2 x6_1 t47012 _ ?side1 ?side2 A13.out).mono ?_
                    (case side1 => repeat (exact (Kd.C_below HR1_3.out HB.out)))
                    (case side2 => exact HC1_3.out)
                    rintro e w23 ⟨v47013, rfl, ho0, hb⟩
                    refine ⟨_, rfl, ?_⟩
                    have n0_ := Aside0.mk (Kd.R_below HO_5.out hb)
                    have n1_ := Aside0.mk (Kd.R_elder' HO47011.out (Kd.R_base ho0) hb)
                    have n2_ := Aside0.mk (Kd.R_lower (Kd.R_new' ho0 (Kd.R_lt HO47011.out)) (below_size HB.out))
                    have n3_ := Aside0.mk (blk_below BK47001.out hb)
                    have n4_ := Aside0.mk (blk_below BK47002.out hb)
                    have n5_ := Aside0.mk (below_step HB.out hb)
                    clear HO_5 HO47011 BK47001 BK47002 HB
                    revert n0_ n1_ n2_ n3_ n4_ n5_; intro HO_5 HO47011 HO47014 BK47001 BK47002 HB
                    (try clear hb)
                    (try clear ho0)
                    obtain ⟨Ao24, co24, eo24⟩ := Kd.R_slice HO47011.out
                    (subst eo24)
                    obtain ⟨Ao25, co25, eo25⟩ := Kd.R_slice HO47014.out
                    (subst eo25)
                    refine hK.out _ _ ⟨(blk_cell BK47001.out 0).trans rfl, (blk_cell BK47001.out 1).trans rfl, (blk_cell BK47001.out 2).trans rfl, (blk_cell BK47001.out 3).trans rfl, (blk_cell BK47002.out 0).trans rfl, (blk_cell BK47002.out 1).trans rfl, (blk_cell BK47002.out 2).trans rfl, (blk_cell BK47002.out 3).trans rfl⟩ (fun hHeld => ?_)
                    clear hK K
                    refine norm_ (a' := ?_) ?_ ?_
                    rotate_left
                    · show Act.put _ (some 33) _ = _
                      simp only [Act.put, List.setIfInBounds_toArray, List.set_cons_zero, List.set_cons_succ, i64_w, i32_w]
                      rfl
                    refine one_ (i := 13) (N := some 34) #[true, true, true, true, true, true, true, true, true, true, true, true, true, true, false, false, false] rfl rfl (one_of HT_.out (by kernel_rfl)) (by decide) (fun K hK => ?_)
                    refine goes_ Try.func90 (by kernel_rfl) rfl #[.slice Ao24 t47009.length co24, .slice Ao25 t47012.length co25] (by rfl) rfl rfl (by (try simp only [List.map_toArray, List.map_cons, List.map_nil]); rfl) ?_
                    with_reducible refine (spec_equalInts.calls k2 _ _ t47009 _ _ t47012 t47015 _ ?side1 ?side2 ?side3 ?side4 A14.out).mono ?_
                    (case side1 => repeat (exact (Kd.R_reads' HO47011.out).2.2))
                    (case side2 => exact (Kd.R_reads' HO47011.out).2.1)
                    (case side3 => repeat (exact (Kd.R_reads' HO47014.out).2.2))
                    (case side4 => exact (Kd.R_reads' HO47014.out).2.1)
                    rintro e w' ⟨rfl, ⟨nd, rfl⟩⟩
                    refine ⟨_, rfl, ?_⟩
                    have p18 : 0 ≤ (ji15 : Int) := of_decide_eq_true (by (with_reducible assumption))
                    have q18 : (ji15 : Int) < ((x5_2.length : Int) : Int) := of_decide_eq_true (by (with_reducible assumption))
                    obtain ⟨go18, co18, eo18, gb18, gl18, cl18, HG18⟩ := Kd.R_form HO_5.out (by omega)
                    (cases eo18)
                    have GB18 := Aside0.mk gb18
                    have GG18 := Aside0.mk HG18
                    clear gb18 gl18 HG18
                    obtain ⟨hx18_0, hf18_0⟩ := Kd.R_celln false HO_5.out (ji15 : Int) p18 q18
                    replace p18 := eq_true p18
                    replace q18 := eq_true q18
                    have HP26 := Kd.R_putn HO_5.out (ji15 : Int) (!t47015)
                    rw [← Ny47016.out] at HP26
                    have HQ26 := Aside0.mk HP26
                    clear HP26
                    refine hK.out _ _ ⟨(blk_cell BK47001.out 0).trans rfl, (blk_cell BK47001.out 1).trans rfl, (blk_cell BK47001.out 2).trans rfl, (blk_cell BK47001.out 3).trans rfl, (blk_cell BK47002.out 0).trans rfl, (blk_cell BK47002.out 1).trans rfl, (blk_cell BK47002.out 2).trans rfl, (blk_cell BK47002.out 3).trans rfl⟩ (fun hHeld => ?_)
                    clear hK K
                    refine norm_ (a' := ?_) ?_ ?_
                    rotate_left
                    · show Act.put _ (some 34) _ = _
                      simp only [Act.put, List.setIfInBounds_toArray, List.set_cons_zero, List.set_cons_succ, i64_w, i32_w]
                      rfl
                    refine pure_ (i := 14) (N := some 35) (v := ?_) (a' := ?_) #[true, true, true, true, true, true, true, true, true, true, true, true, true, true, true, false, false] rfl rfl (any_of HT_.out (by kernel_rfl)) (fun _ _ _ h => h) (Or.inl ⟨by rfl, ?_⟩) ?_ ?_
                    rotate_left
                    · intro w'
                      go_simp
                      with_reducible rfl
                    rotate_left
                    · simp only [Act.put, List.setIfInBounds_toArray, List.set_cons_zero, List.set_cons_succ, i64_w, i32_w]
                      rfl
                    refine pure_ (i := 15) (N := some 36) (v := ?_) (a' := ?_) #[true, true, true, true, true, true, true, true, true, true, true, true, true, true, true, true, false] rfl rfl (any_of HT_.out (by kernel_rfl)) (fun _ _ _ h => h) (Or.inl ⟨by rfl, ?_⟩) ?_ ?_
                    rotate_left
                    · intro w'
                      go_simp
                      with_reducible rfl
                    rotate_left
                    · simp only [Act.put, List.setIfInBounds_toArray, List.set_cons_zero, List.set_cons_succ, i64_w, i32_w]
                      rfl
                    refine last_ (i := 16) (N := none) #[true, true, true, true, true, true, true, true, true, true, true, true, true, true, true, true, true] rfl rfl (one_of HT_.out (by kernel_rfl)) (by decide) (fun K hK => ?_)
                    refine skip_ (w1 := ?_) (by rfl) rfl ?_ ?_
                    rotate_left
                    · go_simp
                      rfl
                    refine hK.out _ _ ?_
                    clear hK K
                    refine done_ (done_of HT_.out (by kernel_rfl)) ?_
                    try go_wp2
                    go_roundg k2
                    case measure => have := HK1.out; have := HK2.out; omega
                    case rel => exact ⟨(y47016), (wrap64 (x7_2 + 1)), (by rfl), H', ⟨by have := HK1.out; have := HK2.out; omega⟩, ⟨by (with_reducible repeat (first | apply Kd.R_alloc | apply Kd.R_drewN | apply Kd.R_drew)); exact HQ26.out⟩, ⟨by (with_reducible repeat (first | refine blk_drewN ?_ _ | refine blk_drew ?_ | refine blk_alloc ?_ _)); refine blk_far ?_ (by have h_ := Kd.R_ne HO_5.out BK47001.out (by decide); intro e_; exact h_ (by rw [e_]; rfl)) _; (with_reducible repeat (refine blk_drewN ?_ _)); exact BK47001.out⟩, ⟨by (with_reducible repeat (first | refine blk_drewN ?_ _ | refine blk_drew ?_ | refine blk_alloc ?_ _)); refine blk_far ?_ (by have h_ := Kd.R_ne HO_5.out BK47002.out (by decide); intro e_; exact h_ (by rw [e_]; rfl)) _; (with_reducible repeat (refine blk_drewN ?_ _)); exact BK47002.out⟩, ⟨by repeat (with_reducible first | exact HB.out | apply pw_below_drewN | refine below_set ?_ GB18.out)⟩⟩
                  · rw [if_neg c17] at H
                    exact absurd H (by simp)
                · rw [if_neg c16] at H
                  exact absurd H (by simp)
              · rw [if_neg c11] at H
                have c11b0 : decide (x7_2 < a0_0) = false := decide_eq_false c11
                clear c11
                have H' := Aside0.mk H
                clear H
                have hnb27 := NB47001_47002.out
                have hnc27 := NB47002_47001.out
                have hcz28_0 : wr.cell? ⟨gb47001, 0, none⟩ = some (.int .i64 a0_0) := (blk_cell BK47001.out 0).trans rfl
                have hcz28_1 : wr.cell? ⟨gb47001, 1, none⟩ = some (.int .i64 a0_1) := (blk_cell BK47001.out 1).trans rfl
                have hcz28_2 : wr.cell? ⟨gb47001, 2, none⟩ = some (.int .i64 a0_2) := (blk_cell BK47001.out 2).trans rfl
                have hcz28_3 : wr.cell? ⟨gb47001, 3, none⟩ = some (.slice A0_3 l0_3.length c0_3) := (blk_cell BK47001.out 3).trans rfl
                have hfz28_0 := blk_frozen BK47001.out 0
                have hfz28_1 := blk_frozen BK47001.out 1
                have hfz28_2 := blk_frozen BK47001.out 2
                have hfz28_3 := blk_frozen BK47001.out 3
                go_wp2
                go_roundg k2
                case measure => have := HK1.out; have := HK2.out; omega
                case rel => exact ⟨(x5_2), (wrap64 (x6_1 + 1)), (by rfl), H', ⟨by have := HK1.out; have := HK2.out; omega⟩, ⟨by (with_reducible repeat (first | apply Kd.R_alloc | apply Kd.R_drewN | apply Kd.R_drew)); exact HO_5.out⟩, ⟨by (with_reducible repeat (first | refine blk_drewN ?_ _ | refine blk_drew ?_ | refine blk_alloc ?_ _)); exact BK47001.out⟩, ⟨by (with_reducible repeat (first | refine blk_drewN ?_ _ | refine blk_drew ?_ | refine blk_alloc ?_ _)); exact BK47002.out⟩, ⟨by exact HB.out⟩⟩
        · rw [if_neg c8] at H
          have c8b0 : decide (x6_1 < a0_1) = false := decide_eq_false c8
          clear c8
          replace H := Option.bind_eq_some_iff.mp H
          obtain ⟨t47006, A290, H⟩ := H
          replace H : (some t47006) = some r := H
          have A29 := Aside0.mk A290
          clear A290
          obtain rfl := Option.some.inj H
          have hnb30 := NB47001_47002.out
          have hnc30 := NB47002_47001.out
          have hcz31_0 : wr.cell? ⟨gb47001, 0, none⟩ = some (.int .i64 a0_0) := (blk_cell BK47001.out 0).trans rfl
          have hcz31_1 : wr.cell? ⟨gb47001, 1, none⟩ = some (.int .i64 a0_1) := (blk_cell BK47001.out 1).trans rfl
          have hcz31_2 : wr.cell? ⟨gb47001, 2, none⟩ = some (.int .i64 a0_2) := (blk_cell BK47001.out 2).trans rfl
          have hcz31_3 : wr.cell? ⟨gb47001, 3, none⟩ = some (.slice A0_3 l0_3.length c0_3) := (blk_cell BK47001.out 3).trans rfl
          have hfz31_0 := blk_frozen BK47001.out 0
          have hfz31_1 := blk_frozen BK47001.out 1
          have hfz31_2 := blk_frozen BK47001.out 2
          have hfz31_3 := blk_frozen BK47001.out 3
          obtain ⟨Ao32, co32, eo32⟩ := Kd.R_slice HO_5.out
          subst eo32
          go_wp2_with (first | ((with_reducible refine gate_callee (f := 65) rfl ?_); refine goesL_ (some 38) rfl rfl Try.func65 (by kernel_rfl) rfl #[.slice Ao32 x5_1.length co32] rfl (by (try simp only [List.map_toArray, List.map_cons, List.map_nil]); rfl) ?_; (with_reducible refine (spec_runsOf.calls k1 _ _ x5_1 t47006 _ ?side1 ?side2 A29.out).mono ?_); (case side1 => repeat (exact (Kd.R_reads' HO_5.out).2.2)); (case side2 => exact (Kd.R_reads' HO_5.out).2.1); rintro e w33 ⟨v47007, rfl, ho0, hb⟩; refine ⟨_, rfl, ?_⟩; have n0_ := Aside0.mk (Kd.R_below HO_5.out hb); have n1_ := Aside0.mk (Kd.R_lower ho0 (below_size HB.out)); have n2_ := Aside0.mk (blk_below BK47001.out hb); have n3_ := Aside0.mk (blk_below BK47002.out hb); have n4_ := Aside0.mk (below_step HB.out hb); clear HO_5; clear BK47001; clear BK47002; clear HB; have HO_5 := n0_; have HO47008 := n1_; have BK47001 := n2_; have BK47002 := n3_; have HB := n4_; clear n0_ n1_ n2_ n3_ n4_; (try clear hb); (try clear ho0)))
          go_ret
          exact ⟨_, by rfl, by (with_reducible repeat (first | apply Kd.R_alloc | apply Kd.R_drewN | apply Kd.R_drew)); exact HO47008.out, by exact HB.out⟩
  · rw [if_neg c3] at H
    exact absurd H (by simp)


mutual
def spec_gridOf.l0 : Nat → List S47 → List Bool → Int → Option (List Bool)
  | 0, _, _, _ => none
  | k + 1, x0, x3, x4 => if x4 < (x0.length : Int) then (if 0 ≤ x4 then (spec_gridOf.l1 k x0 x3 x4 ((rd_T47 x0 x4).f1)) else none) else (some x3)
def spec_gridOf.l1 : Nat → List S47 → List Bool → Int → Int → Option (List Bool)
  | 0, _, _, _, _ => none
  | k + 1, x0, x3, x4, x5 => if 0 ≤ x4 then (if x4 < (x0.length : Int) then (if x5 < ((rd_T47 x0 x4).f2) then (if 0 ≤ (wrap64 ((wrap64 (((rd_T47 x0 x4).f0) * 16)) + x5)) then (if (wrap64 ((wrap64 (((rd_T47 x0 x4).f0) * 16)) + x5)) < (x3.length : Int) then (spec_gridOf.l1 k x0 (x3.set ((wrap64 ((wrap64 (((rd_T47 x0 x4).f0) * 16)) + x5)) : Int).toNat true) x4 (wrap64 (x5 + 1))) else none) else none) else (spec_gridOf.l0 k x0 x3 (wrap64 (x4 + 1)))) else none) else (none)
end
def spec_gridOf.f (k : Nat) (l0 : List S47) : Option (List Bool) := if 256 ≤ 281474976710656 then (spec_gridOf.l0 k l0 (List.replicate 256 false) 0) else (none)
theorem spec_gridOf.mono_l : ∀ k, (∀ y0 y1 y2, LeO (spec_gridOf.l0 k y0 y1 y2) (spec_gridOf.l0 (k + 1) y0 y1 y2)) ∧ (∀ y0 y1 y2 y3, LeO (spec_gridOf.l1 k y0 y1 y2 y3) (spec_gridOf.l1 (k + 1) y0 y1 y2 y3))
  | 0 => ⟨fun _ _ _ r h => by simp [spec_gridOf.l0] at h, fun _ _ _ _ r h => by simp [spec_gridOf.l1] at h⟩
  | k + 1 => by
    obtain ⟨ih0, ih1⟩ := spec_gridOf.mono_l k
    refine ⟨?_, ?_⟩
    · intro y0 y1 y2
      unfold spec_gridOf.l0
      repeat' first | (with_reducible exact ih1 _ _ _ _) | (with_reducible exact LeO.refl _) | (with_reducible refine LeO.ite ?_ ?_)
    · intro y0 y1 y2 y3
      unfold spec_gridOf.l1
      repeat' first | (with_reducible exact ih0 _ _ _) | (with_reducible exact ih1 _ _ _ _) | (with_reducible exact LeO.refl _) | (with_reducible refine LeO.ite ?_ ?_)
theorem spec_gridOf.mono : ∀ a0 k, LeO (spec_gridOf.f k a0) (spec_gridOf.f (k + 1) a0) := by
  intro a0 k
  obtain ⟨ih0, ih1⟩ := spec_gridOf.mono_l k
  unfold spec_gridOf.f
  repeat' first | (with_reducible exact ih0 _ _ _) | (with_reducible exact LeO.refl _) | (with_reducible refine LeO.ite ?_ ?_)
set_option maxHeartbeats 8000000 in
set_option maxRecDepth 100000 in
theorem spec_gridOf.calls (k : Nat) (A0 : Option Addr) (c0 : Nat) (l0 : List S47) (r : List Bool) (w : World) (hr0 : Kd.C k47 w A0 l0.length l0) (hc0 : l0.length ≤ c0) (h : spec_gridOf.f k l0 = some r) :
    Calls Try.prog 104 #[.slice A0 l0.length c0] w fun e w' => ∃ v0_ : Value, e = .returned v0_ ∧ Kd.R Kd.bool 4 w' w.heap.size (fun _ => True) v0_ r ∧ Below w.heap.size w w' := by
  have HR0 := Aside0.mk hr0
  have HC0 := Aside0.mk hc0
  clear hr0 hc0
  have HB := Aside0.mk (Below.refl w.heap.size w)
  have H : (if 256 ≤ 281474976710656 then (spec_gridOf.l0 k l0 (List.replicate 256 false) 0) else none) = some r := h
  clear h
  by_cases c2 : 256 ≤ 281474976710656
  · rw [if_pos c2] at H
    have c2b0 := eq_true c2
    have c2b1 : decide (256 ≤ 281474976710656) = true := decide_eq_true c2
    clear c2
    obtain ⟨y105001, hy105001⟩ : ∃ y_ : List Bool, y_ = (List.replicate 256 false) := ⟨_, rfl⟩
    replace H : (spec_gridOf.l0 k l0 y105001 0) = some r := by (rw [hy105001]; with_reducible exact H)
    have Ny105001 := Aside0.mk hy105001
    clear hy105001
    have H' := Aside0.mk H
    clear H
    go_enter Try.func104, Try.ntmps104
    go_wp2_with (first | ((with_reducible refine gate_dst (N := 6) rfl ?_); refine Kd.R_make Kd.bool _ 4 rfl (N := 6) rfl 81 _ _ rfl 256 rfl rfl Try.underlying81 (.bool false) 1 info4 rfl (by decide) (by omega) false (ok := fun _ => True) (okp := fun _ => True) rfl (fun _ hk => hk) trivial (by omega) (by omega) (Below.refl _ _) (Nat.le_refl _) ?_; intro v105002 w3 ho4 hb hg_ hnew_; clear hg_ hnew_; (simp only [Int.reduceToNat] at ho4; rw [← Ny105001.out] at ho4); have n0_ := Aside0.mk (Kd.R_lower ho4 (below_size HB.out)); have n1_ := Aside0.mk (below_step HB.out hb); clear HB; have HO105003 := n0_; have HB := n1_; clear n0_ n1_; clear hb ho4))
    go_loopg [4] k (fun kq v4 w' => ∃ (x3_1 : List Bool) (x4_1 : Int), v4 = .int .i64 x4_1 ∧ Aside0 (spec_gridOf.l0 kq l0 x3_1 x4_1 = some r) ∧ Aside0 (kq ≤ k) ∧ Aside0 (Kd.R Kd.bool 4 w' w.heap.size (fun _ => True) v105002 x3_1) ∧ Aside0 (Below w.heap.size w w'))
    case atStart => exact ⟨(y105001), (0), (by rfl), H', ⟨Nat.le_refl _⟩, ⟨by (with_reducible repeat (first | apply Kd.R_alloc | apply Kd.R_drewN | apply Kd.R_drew)); exact HO105003.out⟩, ⟨by exact HB.out⟩⟩
    case round =>
      clear H'
      try clear c1
      try clear c2
      try clear c2b0
      try clear c2b1
      try clear p2
      obtain ⟨x3_1, x4_1, rfl, HA, HK1, HO_3, HB⟩ := hrel
      cases gk with
      | zero => exact absurd HA.out (by simp [spec_gridOf.l0])
      | succ k1 =>
        have H := HA.out
        clear HA
        simp only [spec_gridOf.l0] at H
        by_cases c5 : x4_1 < (l0.length : Int)
        · rw [if_pos c5] at H
          have c5b0 : decide (x4_1 < (l0.length : Int)) = true := decide_eq_true c5
          clear c5
          by_cases c6 : 0 ≤ x4_1
          · rw [if_pos c6] at H
            have c6b0 : decide (0 ≤ x4_1) = true := decide_eq_true c6
            clear c6
            have H' := Aside0.mk H
            clear H
            have p105004 : 0 ≤ (x4_1 : Int) := of_decide_eq_true (by (with_reducible assumption))
            have q105004 : x4_1 < (l0.length : Int) := of_decide_eq_true (by (with_reducible assumption))
            obtain ⟨ad105004, e105004, hx105004_0, hx105004_1, hx105004_2⟩ := at_T47 HR0.out x4_1 p105004 q105004
            cases e105004
            replace hx105004_0 := (HB.out.cell (World.block_lt_of_cell? w _ hx105004_0)).trans hx105004_0
            replace hx105004_1 := (HB.out.cell (World.block_lt_of_cell? w _ hx105004_1)).trans hx105004_1
            replace hx105004_2 := (HB.out.cell (World.block_lt_of_cell? w _ hx105004_2)).trans hx105004_2
            replace p105004 := eq_true p105004
            replace q105004 := eq_true q105004
            go_wp2
            go_loopg [5] k1 (fun kq v5 w' => ∃ (x3_2 : List Bool) (x5_2 : Int), v5 = .int .i64 x5_2 ∧ Aside0 (spec_gridOf.l1 kq l0 x3_2 x4_1 x5_2 = some r) ∧ Aside0 (kq ≤ k1) ∧ Aside0 (Kd.R Kd.bool 4 w' w.heap.size (fun _ => True) v105002 x3_2) ∧ Aside0 (Below w.heap.size w w'))
            case atStart => exact ⟨(x3_1), ((rd_T47 l0 x4_1).f1), (by rfl), H', ⟨Nat.le_refl _⟩, ⟨by (with_reducible repeat (first | apply Kd.R_alloc | apply Kd.R_drewN | apply Kd.R_drew)); exact HO_3.out⟩, ⟨by exact HB.out⟩⟩
            case round =>
              clear H'
              try clear c1
              try clear p1
              try clear q1
              try clear hx1
              try clear c2
              try clear c2b0
              try clear c2b1
              try clear p2
              try clear c5
              try clear c5b0
              try clear c6
              try clear c6b0
              try clear hx105004_0
              try clear hx105004_1
              try clear hx105004_2
              try clear p105004
              try clear p2
              try clear q105004
              obtain ⟨x3_2, x5_2, rfl, HA, HK2, HO_3, HB⟩ := hrel
              cases gk with
              | zero => exact absurd HA.out (by simp [spec_gridOf.l1])
              | succ k2 =>
                have H := HA.out
                clear HA
                simp only [spec_gridOf.l1] at H
                by_cases c7 : 0 ≤ x4_1
                · rw [if_pos c7] at H
                  have c7b0 : decide (0 ≤ x4_1) = true := decide_eq_true c7
                  clear c7
                  by_cases c8 : x4_1 < (l0.length : Int)
                  · rw [if_pos c8] at H
                    have c8b0 : decide (x4_1 < (l0.length : Int)) = true := decide_eq_true c8
                    clear c8
                    by_cases c9 : x5_2 < ((rd_T47 l0 x4_1).f2)
                    · rw [if_pos c9] at H
                      have c9b0 : decide (x5_2 < ((rd_T47 l0 x4_1).f2)) = true := decide_eq_true c9
                      clear c9
                      obtain ⟨ji10, hji10⟩ : ∃ j_ : Int, (wrap64 ((wrap64 (((rd_T47 l0 x4_1).f0) * 16)) + x5_2)) = j_ := ⟨_, rfl⟩
                      replace H : (if 0 ≤ ji10 then (if ji10 < (x3_2.length : Int) then (spec_gridOf.l1 k2 l0 (x3_2.set (ji10 : Int).toNat true) x4_1 (wrap64 (x5_2 + 1))) else none) else none) = some r := by (rw [hji10] at H; exact H)
                      have hji10w : (IntKind.i64.wrap ((wrap64 (((rd_T47 l0 x4_1).f0) * 16)) + x5_2)) = ji10 := (i64_w _).trans hji10
                      by_cases c11 : 0 ≤ (ji10)
                      · rw [if_pos c11] at H
                        have c11b0 : decide (0 ≤ ji10) = true := decide_eq_true c11
                        clear c11
                        by_cases c12 : ji10 < (x3_2.length : Int)
                        · rw [if_pos c12] at H
                          have c12b0 : decide (ji10 < (x3_2.length : Int)) = true := decide_eq_true c12
                          clear c12
                          obtain ⟨y105007, hy105007⟩ : ∃ y_ : List Bool, y_ = (x3_2.set (ji10 : Int).toNat true) := ⟨_, rfl⟩
                          replace H : (spec_gridOf.l1 k2 l0 y105007 x4_1 (wrap64 (x5_2 + 1))) = some r := by (rw [hy105007]; with_reducible exact H)
                          have Ny105007 := Aside0.mk hy105007
                          clear hy105007
                          have H' := Aside0.mk H
                          clear H
                          have p105005 : 0 ≤ (x4_1 : Int) := of_decide_eq_true (by (with_reducible assumption))
                          have q105005 : x4_1 < (l0.length : Int) := of_decide_eq_true (by (with_reducible assumption))
                          obtain ⟨ad105005, e105005, hx105005_0, hx105005_1, hx105005_2⟩ := at_T47 HR0.out x4_1 p105005 q105005
                          obtain rfl : ad105004 = ad105005 := (by injection e105005)
                          replace hx105005_0 := (HB.out.cell (World.block_lt_of_cell? w _ hx105005_0)).trans hx105005_0
                          replace hx105005_1 := (HB.out.cell (World.block_lt_of_cell? w _ hx105005_1)).trans hx105005_1
                          replace hx105005_2 := (HB.out.cell (World.block_lt_of_cell? w _ hx105005_2)).trans hx105005_2
                          replace p105005 := eq_true p105005
                          replace q105005 := eq_true q105005
                          have p105006 : 0 ≤ (x4_1 : Int) := of_decide_eq_true (by (with_reducible assumption))
                          have q105006 : x4_1 < (l0.length : Int) := of_decide_eq_true (by (with_reducible assumption))
                          obtain ⟨ad105006, e105006, hx105006_0, hx105006_1, hx105006_2⟩ := at_T47 HR0.out x4_1 p105006 q105006
                          obtain rfl : ad105004 = ad105006 := (by injection e105006)
                          replace hx105006_0 := (HB.out.cell (World.block_lt_of_cell? w _ hx105006_0)).trans hx105006_0
                          replace hx105006_1 := (HB.out.cell (World.block_lt_of_cell? w _ hx105006_1)).trans hx105006_1
                          replace hx105006_2 := (HB.out.cell (World.block_lt_of_cell? w _ hx105006_2)).trans hx105006_2
                          replace p105006 := eq_true p105006
                          replace q105006 := eq_true q105006
                          have p13 : 0 ≤ (ji10 : Int) := of_decide_eq_true (by (with_reducible assumption))
                          have q13 : (ji10 : Int) < ((x3_2.length : Int) : Int) := of_decide_eq_true (by (with_reducible assumption))
                          obtain ⟨go13, co13, eo13, gb13, gl13, cl13, HG13⟩ := Kd.R_form HO_3.out (by omega)
                          (cases eo13)
                          have GB13 := Aside0.mk gb13
                          have GG13 := Aside0.mk HG13
                          clear gb13 gl13 HG13
                          obtain ⟨hx13_0, hf13_0⟩ := Kd.R_celln false HO_3.out (ji10 : Int) p13 q13
                          replace p13 := eq_true p13
                          replace q13 := eq_true q13
                          have HP14 := Kd.R_putg HO_3.out (ji10 : Int) true
                          go_wp2_with (first | ((with_reducible refine gate_store (t := 4) (p := 36) rfl ?_); refine store_event (t := 4) (p := 36) (v := ?vo_w15) (w1 := (wr.setCell ⟨go13, (ji10 : Int).toNat, none⟩ (.bool true))) ?hg ?ho ?hn ?hr ?_; (case ho => rfl); (case hg => rfl); (case hn => rfl); (case hr => (go_simp; done)); intro w15 hw; have hg : wr.grownBy w15 (some go13) := (by rw [hw]; exact HP14.2); have hp_ : Kd.R Kd.bool 4 w15 w.heap.size (fun _ => True) (.slice (some ⟨go13, 0, none⟩) x3_2.length co13) y105007 := (by rw [hw, Ny105007.out]; exact HP14.1); clear HP14; have n0_ := Aside0.mk (hp_); have n1_ := Aside0.mk ((by rw [hw]; exact below_set HB.out GB13.out : Below w.heap.size w w15)); clear HO_3; clear HB; have HO_3 := n0_; have HB := n1_; clear n0_ n1_; clear hg hw hp_))
                          go_roundg k2
                          case measure => have := HK1.out; have := HK2.out; omega
                          case rel => exact ⟨(y105007), (wrap64 (x5_2 + 1)), (by rfl), H', ⟨by have := HK1.out; have := HK2.out; omega⟩, ⟨by (with_reducible repeat (first | apply Kd.R_alloc | apply Kd.R_drewN | apply Kd.R_drew)); exact HO_3.out⟩, ⟨by exact HB.out⟩⟩
                        · rw [if_neg c12] at H
                          exact absurd H (by simp)
                      · rw [if_neg c11] at H
                        exact absurd H (by simp)
                    · rw [if_neg c9] at H
                      have c9b0 : decide (x5_2 < ((rd_T47 l0 x4_1).f2)) = false := decide_eq_false c9
                      clear c9
                      have H' := Aside0.mk H
                      clear H
                      have p105005 : 0 ≤ (x4_1 : Int) := of_decide_eq_true (by (with_reducible assumption))
                      have q105005 : x4_1 < (l0.length : Int) := of_decide_eq_true (by (with_reducible assumption))
                      obtain ⟨ad105005, e105005, hx105005_0, hx105005_1, hx105005_2⟩ := at_T47 HR0.out x4_1 p105005 q105005
                      obtain rfl : ad105004 = ad105005 := (by injection e105005)
                      replace hx105005_0 := (HB.out.cell (World.block_lt_of_cell? w _ hx105005_0)).trans hx105005_0
                      replace hx105005_1 := (HB.out.cell (World.block_lt_of_cell? w _ hx105005_1)).trans hx105005_1
                      replace hx105005_2 := (HB.out.cell (World.block_lt_of_cell? w _ hx105005_2)).trans hx105005_2
                      replace p105005 := eq_true p105005
                      replace q105005 := eq_true q105005
                      go_wp2
                      go_roundg k2
                      case measure => have := HK1.out; have := HK2.out; omega
                      case rel => exact ⟨(x3_2), (wrap64 (x4_1 + 1)), (by rfl), H', ⟨by have := HK1.out; have := HK2.out; omega⟩, ⟨by (with_reducible repeat (first | apply Kd.R_alloc | apply Kd.R_drewN | apply Kd.R_drew)); exact HO_3.out⟩, ⟨by exact HB.out⟩⟩
                  · rw [if_neg c8] at H
                    exact absurd H (by simp)
                · rw [if_neg c7] at H
                  exact absurd H (by simp)
          · rw [if_neg c6] at H
            exact absurd H (by simp)
        · rw [if_neg c5] at H
          have c5b0 : decide (x4_1 < (l0.length : Int)) = false := decide_eq_false c5
          clear c5
          obtain rfl := Option.some.inj H
          go_wp2
          go_ret
          exact ⟨_, by rfl, by (with_reducible repeat (first | apply Kd.R_alloc | apply Kd.R_drewN | apply Kd.R_drew)); exact HO_3.out, by exact HB.out⟩
  · rw [if_neg c2] at H
    exact absurd H (by simp)

end Go.Proofs.Ytbgohbinonkhfaa.Q

/- Grids and their runs, as the reference has them: lists of 256 bools. -/
namespace Go.Proofs.Ytbgohbinonkhfaa.Pure
open Go.RowKit Go.Proofs.Ytbgohbinonkhfaa.Q Go.Proofs.YtbgohbinonkhfaaW.PrintWords Go.Proofs.YtbgohbinonkhfaaW.PrintLast Go.Proofs.YtbgohbinonkhfaaW.PrintMore
set_option linter.unusedVariables false
set_option linter.unusedSimpArgs false

/-- A grid as a list. -/
def tab (g : Nat → Bool) : List Bool := (List.range 256).map g
theorem tab_length (g : Nat → Bool) : (tab g).length = 256 := by simp [tab]
theorem tab_get (g : Nat → Bool) (i : Nat) (h : i < 256) : rdOf false (tab g) (i : Int) = g i := by
  simp [rdOf, tab, List.getD_eq_getElem?_getD, h]
theorem tab_set (g : Nat → Bool) (i : Nat) (b : Bool) : (tab g).set i b = tab (fun p => if p = i then b else g p) := by
  apply List.ext_getElem
  · simp [tab]
  · intro j h1 h2
    rw [List.getElem_set]
    simp only [tab, List.getElem_map, List.getElem_range]
    by_cases e : i = j
    · rw [if_pos e, if_pos e.symm]
    · rw [if_neg e, if_neg (fun h => e h.symm)]
theorem tab_congr {g g' : Nat → Bool} (h : ∀ p, p < 256 → g p = g' p) : tab g = tab g' := by
  unfold tab
  apply List.map_congr_left
  intro p hp
  exact h p (by simpa using hp)
theorem tab_false : List.replicate 256 false = tab (fun _ => false) := by
  refine List.ext_getElem (by rw [List.length_replicate, tab_length]) (fun j h1 h2 => ?_)
  rw [List.getElem_replicate]
  simp only [tab, List.getElem_map]
/-- a grid's cells beyond 256 do not matter to its runs -/
theorem endAt_congr {g g' : Nat → Bool} (h : ∀ p, p < 256 → g p = g' p) (y : Nat) (hy : y < 16) : ∀ n x, endAt g y n x = endAt g' y n x := by
  intro n
  induction n with
  | zero => intro x; rfl
  | succ n ih =>
    intro x
    unfold endAt
    by_cases hx : x < 16
    · rw [h (y * 16 + x) (by omega), ih (x + 1)]
    · rw [if_neg (fun c => hx c.1), if_neg (fun c => hx c.1)]
theorem scan_congr {g g' : Nat → Bool} (h : ∀ p, p < 256 → g p = g' p) (y : Nat) (hy : y < 16) : ∀ d x, 17 ≤ x + d → scanRow g y x = scanRow g' y x := by
  intro d
  induction d with
  | zero => intro x hx; rw [scan_end g y x (by omega), scan_end g' y x (by omega)]
  | succ d ih =>
    intro x hx
    by_cases h16 : x < 16
    · cases hv : g (y * 16 + x) with
      | true =>
        have hv' : g' (y * 16 + x) = true := by rw [← h _ (by omega)]; exact hv
        have := endAt_ge g y (16 - x) x
        rw [scan_true g y x h16 hv, scan_true g' y x h16 hv', endAt_congr h y hy, ih _ (by rw [← endAt_congr h y hy]; omega)]
      | false =>
        have hv' : g' (y * 16 + x) = false := by rw [← h _ (by omega)]; exact hv
        rw [scan_false g y x h16 hv, scan_false g' y x h16 hv', ih _ (by omega)]
    · rw [scan_end g y x (by omega), scan_end g' y x (by omega)]
theorem runsL_congr {g g' : Nat → Bool} (h : ∀ p, p < 256 → g p = g' p) : runsL g = runsL g' := by
  unfold runsL runsTo
  rw [List.flatMap_def, List.flatMap_def]
  congr 1
  apply List.map_congr_left
  intro y hy
  exact scan_congr h y (by simpa using hy) 17 0 (by omega)
/-! the reference's grid -/
theorem spec_gridOf_ev (l : List Run) (hl : l.length ≤ 1000000000) (hok : ∀ r ∈ l, 0 ≤ r.f0 ∧ r.f0 < 16 ∧ 0 ≤ r.f1 ∧ r.f2 ≤ 16) : Ev (fun k => spec_gridOf.f k l) (tab (gridF l)) := by
  have key := ev_up2 l.length (fun k i (s : List Bool) => spec_gridOf.l0 k l s (i : Int)) (fun i s => s = tab (gridF (l.take i))) (fun _ _ => tab (gridF l))
    (by
      intro i s hi hs
      right
      have ho := hok l[i] (List.getElem_mem hi)
      refine ⟨tab (gridF (l.take (i + 1))), fun r hr => ?_, rfl, rfl⟩
      have inner : ∀ d x : Nat, l[i].f1 ≤ (x : Int) → ((x : Int) + d = l[i].f2 ∨ (d = 0 ∧ l[i].f2 ≤ x ∧ (x : Int) = l[i].f1)) →
          Ev (fun k => spec_gridOf.l1 k l (tab (fun p => gridF (l.take i) p || runTo l[i] x p)) (i : Int) (x : Int)) r := by
        intro d
        induction d with
        | zero =>
          intro x hx hd
          have he : tab (fun p => gridF (l.take i) p || runTo l[i] x p) = tab (gridF (l.take (i + 1))) := by
            apply tab_congr
            intro p _
            rw [gridF_succ l i hi]
            congr 1
            unfold runTo runIn
            by_cases c : l[i].f1 ≤ ((p % 16 : Nat) : Int)
            · congr 1
              rw [decide_eq_decide]
              omega
            · rw [decide_eq_false c, Bool.and_false, Bool.false_and, Bool.false_and]
          refine Ev.step (fun k => ?_) hr
          simp only [spec_gridOf.l1]
          rw [if_pos (by omega), if_pos (by omega), rdRun l i hi, if_neg (by omega), w64n i (by omega), he]
        | succ d ih =>
          intro x hx hd
          have hx16 : x < 16 := by omega
          obtain ⟨Y, hY⟩ := Int.eq_ofNat_of_zero_le ho.1
          have hs' : (tab (fun p => gridF (l.take i) p || runTo l[i] x p)).set (Y * 16 + x) true = tab (fun p => gridF (l.take i) p || runTo l[i] (x + 1) p) := by
            rw [tab_set]
            exact tab_congr (fun p _ => runTo_step l[i] Y x hY hx16 hx _ p)
          have hn := ih (x + 1) (by omega) (by omega)
          refine Ev.step (fun k => ?_) hn
          simp only [spec_gridOf.l1]
          have e1 : wrap64 (wrap64 (l[i].f0 * 16) + (x : Int)) = ((Y * 16 + x : Nat) : Int) := by
            rw [hY, w64 (x := (Y : Int) * 16) (by omega) (by omega), w64 (x := (Y : Int) * 16 + (x : Int)) (by omega) (by omega)]; omega
          rw [if_pos (by omega), if_pos (by omega), rdRun l i hi, if_pos (by omega), e1, if_pos (by omega), tab_length, if_pos (by omega), Int.toNat_natCast, hs', w64n x (by omega)]
      obtain ⟨F, hF⟩ := Int.eq_ofNat_of_zero_le ho.2.2.1
      have h0 : Ev (fun k => spec_gridOf.l1 k l (tab (fun p => gridF (l.take i) p || runTo l[i] F p)) (i : Int) (F : Int)) r := by
        by_cases c : l[i].f1 ≤ l[i].f2
        · exact inner (l[i].f2 - l[i].f1).toNat F (by omega) (.inl (by omega))
        · exact inner 0 F (by omega) (.inr ⟨rfl, by omega, by omega⟩)
      have he : tab (fun p => gridF (l.take i) p || runTo l[i] F p) = s := by
        rw [hs]
        apply tab_congr
        intro p _
        have : runTo l[i] F p = false := by
          unfold runTo
          rw [hF]
          by_cases c : ((F : Nat) : Int) ≤ ((p % 16 : Nat) : Int)
          · rw [decide_eq_false (show ¬ p % 16 < F by omega), Bool.and_false]
          · rw [decide_eq_false c, Bool.and_false, Bool.false_and]
        rw [this, Bool.or_false]
      rw [he] at h0
      refine Ev.step (fun k => ?_) h0
      simp only [spec_gridOf.l0]
      rw [if_pos (by omega), if_pos (by omega), rdRun l i hi, hF])
    (by
      intro s hs
      refine Ev.step (f := fun _ => some s) (fun k => ?_) (ev_val (Ev.now s) (by rw [hs, List.take_length]))
      simp only [spec_gridOf.l0]
      rw [if_neg (by omega)])
    l.length 0 (tab (gridF (l.take 0))) (by omega) rfl
  unfold spec_gridOf.f
  refine Ev.congr (fun k => ?_) key
  rw [if_pos (by omega), tab_false]
  rfl
/-! the reference's runs -/
def rowRest (g : Nat → Bool) (y x : Nat) (from_ : Int) : List Run :=
  if from_ < 0 then scanRow g y x else ⟨(y : Int), from_, (endAt g y (16 - x) x : Nat)⟩ :: scanRow g y (endAt g y (16 - x) x + 1)
theorem spec_runsOf_ev (g : Nat → Bool) : Ev (fun k => spec_runsOf.f k (tab g)) (runsL g) := by
  have key := ev_up2 16 (fun k y (s : List Run) => spec_runsOf.l0 k (tab g) s (y : Int)) (fun y s => s = runsTo g y ∧ s.length ≤ 17 * y) (fun _ _ => runsL g)
    (by
      intro y s hy hs
      right
      have inner : ∀ r, (∀ acc : List Run, acc = runsTo g (y + 1) → acc.length ≤ 17 * (y + 1) → Ev (fun k => spec_runsOf.l0 k (tab g) acc ((y + 1 : Nat) : Int)) r) →
          Ev (fun k => spec_runsOf.l1 k (tab g) s (y : Int) (-1) 0) r := by
        intro r hnext
        have h := ev_up2 17 (fun k x (q : List Run × Int) => spec_runsOf.l1 k (tab g) q.1 (y : Int) q.2 (x : Int))
          (fun x q => q.1 ++ rowRest g y x q.2 = runsTo g (y + 1) ∧ q.1.length ≤ 17 * y + x ∧ (q.2 = -1 ∨ (0 ≤ q.2 ∧ q.2 < x ∧ x ≤ 16))) (fun _ _ => r)
          (by
            intro x q hx hq
            obtain ⟨acc, fr⟩ := q
            obtain ⟨h1, h2, h3⟩ := hq
            simp only at h1 h2 h3
            right
            have j3 : ∀ (b : Bool), (x < 16 → b = g (y * 16 + x)) → (x = 16 → b = false) → ∃ s' : List Run × Int,
                (∀ r, Ev (fun k => spec_runsOf.l1 k (tab g) s'.1 (y : Int) s'.2 ((x + 1 : Nat) : Int)) r → Ev (fun k => spec_runsOf.j2 k (tab g) acc (y : Int) fr (x : Int) b) r) ∧
                (s'.1 ++ rowRest g y (x + 1) s'.2 = runsTo g (y + 1) ∧ s'.1.length ≤ 17 * y + (x + 1) ∧ (s'.2 = -1 ∨ (0 ≤ s'.2 ∧ s'.2 < ((x + 1 : Nat) : Int) ∧ x + 1 ≤ 16))) := by
              intro b hb hb16
              rcases h3 with h3 | h3
              · subst h3
                cases b with
                | true =>
                  have hx16 : x < 16 := by
                    by_cases c : x = 16
                    · have := hb16 c; cases this
                    · omega
                  refine ⟨(acc, (x : Int)), fun r hr => ?_, ?_, by simp only; omega, .inr (by simp only; omega)⟩
                  · refine Ev.step (f := fun k => spec_runsOf.j3 k (tab g) acc (y : Int) (-1) (x : Int) true true) (fun k => ?_) (Ev.step (fun k => ?_) hr)
                    · simp only [spec_runsOf.j2]; simp
                    · simp only [spec_runsOf.j3]
                      rw [if_pos trivial, if_pos trivial, w64n x (by omega)]
                  · have hv := (hb hx16).symm
                    rw [← h1]
                    show acc ++ rowRest g y (x + 1) (x : Int) = acc ++ rowRest g y x (-1)
                    unfold rowRest
                    rw [if_neg (by omega), if_pos (by omega), scan_true g y x hx16 hv, endAt_step g y x hx16 hv]
                | false =>
                  refine ⟨(acc, -1), fun r hr => ?_, ?_, by simp only; omega, .inl rfl⟩
                  · refine Ev.step (f := fun k => spec_runsOf.j3 k (tab g) acc (y : Int) (-1) (x : Int) false false) (fun k => ?_) (Ev.step (fun k => ?_) hr)
                    · simp only [spec_runsOf.j2]; simp
                    · simp only [spec_runsOf.j3]
                      rw [if_neg (by simp), if_neg (by simp), if_neg (by omega), w64n x (by omega)]
                  · rw [← h1]
                    show acc ++ rowRest g y (x + 1) (-1) = acc ++ rowRest g y x (-1)
                    unfold rowRest
                    rw [if_pos (by omega), if_pos (by omega)]
                    by_cases c : x < 16
                    · rw [scan_false g y x c (hb c).symm]
                    · rw [scan_end g y x (by omega), scan_end g y (x + 1) (by omega)]
              · cases b with
                | true =>
                  have hx16 : x < 16 := by
                    by_cases c : x = 16
                    · have := hb16 c; cases this
                    · omega
                  refine ⟨(acc, fr), fun r hr => ?_, ?_, by simp only; omega, .inr (by simp only; omega)⟩
                  · refine Ev.step (f := fun k => spec_runsOf.j3 k (tab g) acc (y : Int) fr (x : Int) true false) (fun k => ?_) (Ev.step (fun k => ?_) hr)
                    · simp only [spec_runsOf.j2]
                      rw [if_pos trivial, decide_eq_false (show ¬ fr < 0 by omega)]
                    · simp only [spec_runsOf.j3]
                      rw [if_neg (by simp), if_pos trivial, w64n x (by omega)]
                  · have hv := (hb hx16).symm
                    rw [← h1]
                    show acc ++ rowRest g y (x + 1) fr = acc ++ rowRest g y x fr
                    unfold rowRest
                    rw [if_neg (by omega), if_neg (by omega), endAt_step g y x hx16 hv]
                | false =>
                  refine ⟨(acc ++ [⟨(y : Int), fr, (x : Int)⟩], -1), fun r hr => ?_, ?_, by simp; omega, .inl rfl⟩
                  · refine Ev.step (f := fun k => spec_runsOf.j3 k (tab g) acc (y : Int) fr (x : Int) false false) (fun k => ?_) (Ev.step (fun k => ?_) hr)
                    · simp only [spec_runsOf.j2]; simp
                    · simp only [spec_runsOf.j3]
                      rw [if_neg (by simp), if_neg (by simp), if_pos (by omega), if_pos (by omega), w64n x (by omega)]
                  · rw [← h1]
                    show acc ++ [⟨(y : Int), fr, (x : Int)⟩] ++ rowRest g y (x + 1) (-1) = acc ++ rowRest g y x fr
                    unfold rowRest
                    have hst : endAt g y (16 - x) x = x := endAt_stop g y x (by
                      by_cases c : x < 16
                      · right; exact (hb c).symm
                      · left; omega)
                    rw [if_pos (by omega), if_neg (by omega), hst]
                    simp
            by_cases hx16 : x < 16
            · obtain ⟨s', e1, e2⟩ := j3 (g (y * 16 + x)) (fun _ => rfl) (fun c => by omega)
              refine ⟨s', fun r hr => ?_, e2, rfl⟩
              refine Ev.step (fun k => ?_) (e1 r hr)
              simp only [spec_runsOf.l1]
              have e3 : wrap64 (wrap64 ((y : Int) * 16) + (x : Int)) = ((y * 16 + x : Nat) : Int) := by
                rw [w64 (x := (y : Int) * 16) (by omega) (by omega), w64 (x := (y : Int) * 16 + (x : Int)) (by omega) (by omega)]; omega
              rw [if_pos (by omega), if_pos (by omega), e3, if_pos (by omega), tab_length, if_pos (by omega), tab_get g _ (by omega)]
            · obtain ⟨s', e1, e2⟩ := j3 false (fun c => by omega) (fun _ => rfl)
              refine ⟨s', fun r hr => ?_, e2, rfl⟩
              refine Ev.step (fun k => ?_) (e1 r hr)
              simp only [spec_runsOf.l1]
              rw [if_pos (by omega), if_neg (by omega)])
          (by
            intro q hq
            obtain ⟨acc, fr⟩ := q
            obtain ⟨h1, h2, h3⟩ := hq
            simp only at h1 h2 h3
            have hf : fr = -1 := by omega
            subst hf
            have he : acc = runsTo g (y + 1) := by
              rw [← h1]
              unfold rowRest
              rw [if_pos (by omega), scan_end g y 17 (by omega), List.append_nil]
            refine Ev.step (fun k => ?_) (hnext acc he (by omega))
            simp only [spec_runsOf.l1]
            rw [if_neg (by omega), w64n y (by omega)])
          17 0 (s, -1) (by omega) ⟨by
            unfold rowRest
            rw [if_pos (by omega), hs.1, ← runsTo_succ], by have := hs.2; simp only; omega, .inl rfl⟩
        exact h
      have hlen : (runsTo g (y + 1)).length ≤ 17 * (y + 1) := by
        rw [runsTo_succ, List.length_append]
        have hsc : ∀ d x, 17 ≤ x + d → (scanRow g y x).length ≤ 17 - x := by
          intro d
          induction d with
          | zero => intro x hx; rw [scan_end g y x (by omega)]; simp
          | succ d ih =>
            intro x hx
            by_cases h16 : x < 16
            · cases hv : g (y * 16 + x) with
              | true =>
                have := endAt_ge g y (16 - x) x
                rw [scan_true g y x h16 hv, List.length_cons]
                have := ih (endAt g y (16 - x) x + 1) (by omega)
                omega
              | false =>
                rw [scan_false g y x h16 hv]
                have := ih (x + 1) (by omega)
                omega
            · rw [scan_end g y x (by omega)]; simp
        have h1 := hsc 17 0 (by omega)
        have h2 := hs.2
        rw [hs.1] at h2
        omega
      refine ⟨runsTo g (y + 1), fun r hr => ?_, ⟨rfl, hlen⟩, rfl⟩
      refine Ev.step (fun k => ?_) (inner r (fun acc ha _ => by rw [ha]; exact hr))
      simp only [spec_runsOf.l0]
      rw [if_pos (by omega)])
    (by
      intro s hs
      refine Ev.step (f := fun _ => some s) (fun k => ?_) (ev_val (Ev.now s) hs.1)
      simp only [spec_runsOf.l0]
      rw [if_neg (by omega)])
    16 0 [] (by omega) ⟨by simp [runsTo], by simp⟩
  exact key
end Go.Proofs.Ytbgohbinonkhfaa.Pure

/- (impl.grid).has: whether a pixel, which may be anywhere, is in a grid. -/
namespace Go.Proofs.Ytbgohbinonkhfaa.Q
open Go.RowKit Go.Proofs.YtbgohbinonkhfaaW.PrintWords Go.Proofs.YtbgohbinonkhfaaW.PrintLast Go.Proofs.YtbgohbinonkhfaaW.PrintMore
attribute [local go_sem] max2_int min2_int max_two min_two max_three min_three max_four min_four
set_option linter.unusedVariables false
set_option linter.unusedSimpArgs false

def hasP (g : Nat → Bool) (x y : Int) : Bool := decide (x ≥ 0) && decide (x < 16) && decide (y ≥ 0) && decide (y < 16) && g (y.toNat * 16 + x.toNat)

set_option maxHeartbeats 2000000 in
set_option maxRecDepth 100000 in
theorem has_calls (g : Nat → Bool) (x y : Int) (w : World) :
    Calls Try.prog 58 #[.agg (gc g), .int .i64 x, .int .i64 y] w fun e w' => e = .returned (.bool (hasP g x y)) ∧ Below w.heap.size w w' := by
  have hB := Aside0.mk (below_alloc (Below.refl w.heap.size w) (.cells (gc g) 75))
  have hgs := gc_size g
  by_cases h1 : x ≥ 0
  · have d1 : decide (0 ≤ x) = true := by simpa using h1
    by_cases h2 : x < 16
    · have d2 : decide (x < 16) = true := by simpa using h2
      by_cases h3 : y ≥ 0
      · have d3 : decide (0 ≤ y) = true := by simpa using h3
        by_cases h4 : y < 16
        · have d4 : decide (y < 16) = true := by simpa using h4
          obtain ⟨x, rfl⟩ := Int.eq_ofNat_of_zero_le h1
          obtain ⟨y, rfl⟩ := Int.eq_ofNat_of_zero_le h3
          have hE := Aside0.mk (show hasP g (x : Int) (y : Int) = g (y * 16 + x) by simp [hasP]; omega)
          have hc := (GridAt.new w g).cell (y * 16 + x) (by omega)
          go_enter Try.func58, Try.ntmps58
          go_wp2
          go_ret
          exact ⟨by rw [hE.out]; rfl, hB.out⟩
        · have d4 : decide (y < 16) = false := by simpa using h4
          have hE := Aside0.mk (show hasP g x y = false by simp [hasP, h4])
          go_enter Try.func58, Try.ntmps58
          go_wp2
          go_ret
          exact ⟨by rw [hE.out]; rfl, hB.out⟩
      · have d3 : decide (0 ≤ y) = false := by simpa using h3
        have hE := Aside0.mk (show hasP g x y = false by simp [hasP, h3])
        go_enter Try.func58, Try.ntmps58
        go_wp2
        go_ret
        exact ⟨by rw [hE.out]; rfl, hB.out⟩
    · have d2 : decide (x < 16) = false := by simpa using h2
      have hE := Aside0.mk (show hasP g x y = false by simp [hasP, h2])
      go_enter Try.func58, Try.ntmps58
      go_wp2
      go_ret
      exact ⟨by rw [hE.out]; rfl, hB.out⟩
  · have d1 : decide (0 ≤ x) = false := by simpa using h1
    have hE := Aside0.mk (show hasP g x y = false by simp [hasP, h1])
    go_enter Try.func58, Try.ntmps58
    go_wp2
    go_ret
    exact ⟨by rw [hE.out]; rfl, hB.out⟩

/- Pixels that are connected in a grid: what a search finds that begins at one of them. -/

/-- q and r are neighbours in a row or a column. -/
def Adj (q r : Nat) : Prop := (r = q + 1 ∧ q % 16 < 15) ∨ (q = r + 1 ∧ r % 16 < 15) ∨ r = q + 16 ∨ q = r + 16
inductive Reach (g : Nat → Bool) (s : Nat) : Nat → Prop
  | here : Reach g s s
  | step (q r : Nat) : Reach g s q → Adj q r → r < 256 → g r = true → Reach g s r
/-- The pixels that are connected with pixel s. -/
noncomputable def comp (g : Nat → Bool) (s q : Nat) : Bool := @decide (Reach g s q) (Classical.propDecidable _)
theorem comp_iff (g : Nat → Bool) (s q : Nat) : comp g s q = true ↔ Reach g s q := by
  unfold comp
  exact @decide_eq_true_iff _ (Classical.propDecidable _)
/-- A search from s: what has been seen, what is still to be looked at, and the neighbours of p that are still to be looked at. -/
structure Mid (g : Nat → Bool) (s : Nat) (out : Nat → Bool) (todo : List Nat) (p : Nat) (pend : List (Int × Int)) : Prop where
  start : out s = true
  reach : ∀ q, q < 256 → out q = true → Reach g s q
  todo_ok : ∀ q, q ∈ todo → q < 256 ∧ out q = true
  cur : p < 256 ∧ out p = true
  done : ∀ q r, q < 256 → r < 256 → out q = true → Adj q r → g r = true → out r = true ∨ q ∈ todo ∨ (q = p ∧ (((r % 16 : Nat) : Int), ((r / 16 : Nat) : Int)) ∈ pend)
theorem mid_init (g : Nat → Bool) (s : Nat) (hs : s < 256) : Mid g s (fun q => decide (q = s)) [s] s [] where
  start := by simp
  reach := fun q _ h => by
    have : q = s := by simpa using h
    subst this; exact .here
  todo_ok := fun q h => by
    have : q = s := by simpa using h
    subst this; exact ⟨hs, by simp⟩
  cur := ⟨hs, by simp⟩
  done := fun q r _ _ h _ _ => by
    have : q = s := by simpa using h
    right; left; simp [this]
theorem mid_pop {g : Nat → Bool} {s : Nat} {out : Nat → Bool} {todo todo' : List Nat} {p p0 : Nat} {pend : List (Int × Int)} (h : Mid g s out todo p0 []) (hp : p ∈ todo) (h1 : ∀ q, q ∈ todo → q = p ∨ q ∈ todo') (h2 : ∀ q, q ∈ todo' → q ∈ todo)
    (h3 : ∀ r, r < 256 → Adj p r → (((r % 16 : Nat) : Int), ((r / 16 : Nat) : Int)) ∈ pend) : Mid g s out todo' p pend where
  start := h.start
  reach := h.reach
  todo_ok := fun q hq => h.todo_ok q (h2 q hq)
  cur := h.todo_ok p hp
  done := fun q r hq hr ho ha hg => by
    rcases h.done q r hq hr ho ha hg with c | c | c
    · exact .inl c
    · rcases h1 q c with e | e
      · subst e; exact .inr (.inr ⟨rfl, h3 r hr ha⟩)
      · exact .inr (.inl e)
    · cases c.2
theorem hasP_iff (g : Nat → Bool) (x y : Int) : hasP g x y = true ↔ 0 ≤ x ∧ x < 16 ∧ 0 ≤ y ∧ y < 16 ∧ g (y.toNat * 16 + x.toNat) = true := by
  simp [hasP, and_assoc]
theorem hasP_nat (g : Nat → Bool) (r : Nat) (hr : r < 256) : hasP g ((r % 16 : Nat) : Int) ((r / 16 : Nat) : Int) = g r := by
  have e : r / 16 * 16 + r % 16 = r := by omega
  rw [Bool.eq_iff_iff, hasP_iff, Int.toNat_natCast, Int.toNat_natCast, e]
  constructor
  · intro h; exact h.2.2.2.2
  · intro h; exact ⟨by omega, by omega, by omega, by omega, h⟩
theorem mid_skip {g : Nat → Bool} {s : Nat} {out : Nat → Bool} {todo : List Nat} {p : Nat} {x y : Int} {pend : List (Int × Int)} (h : Mid g s out todo p ((x, y) :: pend)) (hc : hasP g x y = false ∨ out (y.toNat * 16 + x.toNat) = true) : Mid g s out todo p pend where
  start := h.start
  reach := h.reach
  todo_ok := h.todo_ok
  cur := h.cur
  done := fun q r hq hr ho ha hg => by
    rcases h.done q r hq hr ho ha hg with c | c | ⟨c1, c2⟩
    · exact .inl c
    · exact .inr (.inl c)
    · rcases List.mem_cons.1 c2 with e | e
      · injection e with e1 e2
        subst e1 e2
        rcases hc with hc | hc
        · rw [hasP_nat g r hr, hg] at hc; cases hc
        · rw [Int.toNat_natCast, Int.toNat_natCast, show r / 16 * 16 + r % 16 = r by omega] at hc
          exact .inl hc
      · exact .inr (.inr ⟨c1, e⟩)
theorem mid_push {g : Nat → Bool} {s : Nat} {out : Nat → Bool} {todo todo' : List Nat} {p : Nat} {x y : Int} {pend : List (Int × Int)} (h : Mid g s out todo p ((x, y) :: pend)) (hc : hasP g x y = true) (ha0 : Adj p (y.toNat * 16 + x.toNat))
    (h1 : ∀ q, q ∈ todo' → q = y.toNat * 16 + x.toNat ∨ q ∈ todo) (h2 : ∀ q, q ∈ todo → q ∈ todo') (h3 : y.toNat * 16 + x.toNat ∈ todo') : Mid g s (fun q => if q = y.toNat * 16 + x.toNat then true else out q) todo' p pend := by
  have hx := (hasP_iff g x y).1 hc
  refine ⟨?_, ?_, ?_, ?_, ?_⟩
  · show (if s = _ then true else out s) = true
    rw [h.start]; split <;> rfl
  · intro q hq ho
    by_cases e : q = y.toNat * 16 + x.toNat
    · subst e
      exact .step p _ (h.reach p h.cur.1 h.cur.2) ha0 hq hx.2.2.2.2
    · rw [if_neg e] at ho
      exact h.reach q hq ho
  · intro q hq
    rcases h1 q hq with e | e
    · subst e; exact ⟨by omega, by simp⟩
    · have := h.todo_ok q e
      refine ⟨this.1, ?_⟩
      rw [this.2]; split <;> rfl
  · refine ⟨h.cur.1, ?_⟩
    rw [h.cur.2]; split <;> rfl
  · intro q r hq hr ho ha hg
    by_cases e : q = y.toNat * 16 + x.toNat
    · subst e; exact .inr (.inl h3)
    · rw [if_neg e] at ho
      rcases h.done q r hq hr ho ha hg with c | c | ⟨c1, c2⟩
      · left; rw [c]; split <;> rfl
      · exact .inr (.inl (h2 q c))
      · rcases List.mem_cons.1 c2 with e | e
        · left
          injection e with e1 e2
          subst e1 e2
          rw [Int.toNat_natCast, Int.toNat_natCast, if_pos (by omega)]
        · exact .inr (.inr ⟨c1, e⟩)
theorem mid_end {g : Nat → Bool} {s : Nat} (hs : s < 256) {out : Nat → Bool} {p : Nat} (h : Mid g s out [] p []) (q : Nat) (hq : q < 256) : out q = comp g s q := by
  rw [Bool.eq_iff_iff, comp_iff]
  constructor
  · exact h.reach q hq
  · intro hr
    have key : ∀ q, Reach g s q → q < 256 ∧ out q = true := by
      intro q hr
      induction hr with
      | here => exact ⟨hs, h.start⟩
      | step q r _ ha hr hg ih =>
        refine ⟨hr, ?_⟩
        rcases h.done q r ih.1 hr ih.2 ha hg with c | c | ⟨_, c⟩
        · exact c
        · cases c
        · cases c
    exact (key q hr).2
/-- how much has not been seen -/
def unseen (out : Nat → Bool) : Nat := (List.range 256).countP fun q => !out q
theorem unseen_set (out : Nat → Bool) (p : Nat) (hp : p < 256) (h : out p = false) : unseen (fun q => if q = p then true else out q) + 1 = unseen out := by
  unfold unseen
  have key : ∀ (l : List Nat), l.Nodup → p ∈ l → l.countP (fun q => !(if q = p then true else out q)) + 1 = l.countP (fun q => !out q) := by
    intro l
    induction l with
    | nil => intro _ h; cases h
    | cons a l ih =>
      intro hn hm
      rw [List.countP_cons, List.countP_cons]
      by_cases e : a = p
      · subst e
        have hne : ∀ q ∈ l, (!(if q = a then true else out q)) = !out q := by
          intro q hq
          have : q ≠ a := fun e => (List.nodup_cons.1 hn).1 (e ▸ hq)
          rw [if_neg this]
        have hcc : l.countP (fun q => !(if q = a then true else out q)) = l.countP (fun q => !out q) := List.countP_congr (fun q hq => by rw [hne q hq])
        rw [hcc]
        simp [h]
      · have hm' : p ∈ l := by
          rcases List.mem_cons.1 hm with e' | e'
          · exact absurd e'.symm e
          · exact e'
        have := ih (List.nodup_cons.1 hn).2 hm'
        rw [if_neg e]
        omega
  exact key (List.range 256) List.nodup_range (by simpa using hp)
theorem nb_adj (p : Nat) (hp : p < 256) (x y : Int) (h0 : 0 ≤ x) (h1 : x < 16) (h2 : 0 ≤ y) (h3 : y < 16)
    (h : (x = ((p % 16 : Nat) : Int) - 1 ∧ y = ((p / 16 : Nat) : Int)) ∨ (x = ((p % 16 : Nat) : Int) + 1 ∧ y = ((p / 16 : Nat) : Int)) ∨ (x = ((p % 16 : Nat) : Int) ∧ y = ((p / 16 : Nat) : Int) - 1) ∨ (x = ((p % 16 : Nat) : Int) ∧ y = ((p / 16 : Nat) : Int) + 1)) :
    Adj p (y.toNat * 16 + x.toNat) := by
  unfold Adj
  omega
theorem adj_nb (p r : Nat) (hp : p < 256) (hr : r < 256) (h : Adj p r) :
    (((r % 16 : Nat) : Int) = ((p % 16 : Nat) : Int) - 1 ∧ ((r / 16 : Nat) : Int) = ((p / 16 : Nat) : Int)) ∨ (((r % 16 : Nat) : Int) = ((p % 16 : Nat) : Int) + 1 ∧ ((r / 16 : Nat) : Int) = ((p / 16 : Nat) : Int)) ∨ (((r % 16 : Nat) : Int) = ((p % 16 : Nat) : Int) ∧ ((r / 16 : Nat) : Int) = ((p / 16 : Nat) : Int) - 1) ∨ (((r % 16 : Nat) : Int) = ((p % 16 : Nat) : Int) ∧ ((r / 16 : Nat) : Int) = ((p / 16 : Nat) : Int) + 1) := by
  unfold Adj at h
  omega
end Go.Proofs.Ytbgohbinonkhfaa.Q

/- Neighbours of a grid's pixels, by their numbers; a loop that fills a grid. -/
namespace Go.Proofs.Ytbgohbinonkhfaa.Pure
open Go.RowKit Go.Proofs.Ytbgohbinonkhfaa.Q Go.Proofs.YtbgohbinonkhfaaW.PrintWords Go.Proofs.YtbgohbinonkhfaaW.PrintLast Go.Proofs.YtbgohbinonkhfaaW.PrintMore
set_option linter.unusedVariables false
set_option linter.unusedSimpArgs false

theorem gso_at (so : Nat → Nat → Bool) (p : Nat) (h : p < 256) : gso so 256 p = so (p % 16) (p / 16) := by
  unfold gso; rw [decide_eq_true h, Bool.true_and]
def rdT (g : Nat → Bool) (i : Int) : Bool := rdOf false (tab g) i
theorem rdT_nat (g : Nat → Bool) (i : Nat) (h : i < 256) : rdT g (i : Int) = g i := tab_get g i h
theorem hasP_no (g : Nat → Bool) (x y : Int) (h : x < 0 ∨ 16 ≤ x ∨ y < 0 ∨ 16 ≤ y) : hasP g x y = false := by
  rw [← Bool.not_eq_true, hasP_iff]; omega
/-- A loop that writes all cells of a grid, one after the other. -/
theorem fill_ev {ρ : Type} (f : Nat → Bool) (init : Nat → Bool) (L : Nat → List Bool → Nat → Option ρ) (r : ρ)
    (step : ∀ k s p, p < 256 → s = tab (fun q => if q < p then f q else init q) → L (k + 1) s p = L k (s.set p (f p)) (p + 1))
    (last : Ev (fun k => L k (tab f) 256) r) : Ev (fun k => L k (tab init) 0) r := by
  have key := ev_up 256 (fun k p s => L k s p) (fun p s => s = tab (fun q => if q < p then f q else init q)) (fun _ _ => r)
    (by
      intro p s hp hs
      right
      refine ⟨s.set p (f p), fun k => step k s p hp hs, ?_, rfl⟩
      rw [hs, tab_set]
      apply tab_congr
      intro q _
      by_cases e : q = p
      · subst e; rw [if_pos rfl, if_pos (by omega)]
      · rw [if_neg e]
        by_cases h1 : q < p
        · rw [if_pos h1, if_pos (by omega)]
        · rw [if_neg h1, if_neg (by omega)])
    (by
      intro s hs
      have : s = tab f := by rw [hs]; exact tab_congr (fun q hq => by rw [if_pos hq])
      rw [this]; exact last)
    256 0 (tab init) (by omega) (tab_congr (fun q _ => by rw [if_neg (by omega)]))
  exact key
end Go.Proofs.Ytbgohbinonkhfaa.Pure

/- Rows of bools that hold a grid: what is made, read and written. -/
namespace Go.Proofs.Ytbgohbinonkhfaa.Q
open Go.RowKit Go.Proofs.YtbgohbinonkhfaaW.PrintWords Go.Proofs.YtbgohbinonkhfaaW.PrintLast Go.Proofs.YtbgohbinonkhfaaW.PrintMore
attribute [local go_sem] max2_int min2_int max_two min_two max_three min_three max_four min_four
set_option linter.unusedVariables false
set_option linter.unusedSimpArgs false
open Go.Proofs.Ytbgohbinonkhfaa.Pure

theorem tabR_cell {W : World} {base g cap : Nat} {ok : Nat → Prop} {f : Nat → Bool} (h : Kd.bool.R 4 W base ok (.slice (some ⟨g, 0, none⟩) 256 cap) (tab f)) (i : Nat) (hi : i < 256) : W.cell? ⟨g, i, none⟩ = some (.bool (f i)) ∧ W.frozen? ⟨g, i, none⟩ = false := by
  have hl := tab_length f
  have h' : Kd.bool.R 4 W base ok (.slice (some ⟨g, 0, none⟩) (tab f).length cap) (tab f) := by rw [hl]; exact h
  have := Kd.R_cell false h' (i : Int) (by omega) (by omega)
  rw [Int.toNat_natCast, tab_get f i hi] at this
  exact this
theorem tabR_put {W : World} {base g cap : Nat} {ok : Nat → Prop} {f : Nat → Bool} (h : Kd.bool.R 4 W base ok (.slice (some ⟨g, 0, none⟩) 256 cap) (tab f)) (i : Nat) (b : Bool) : Kd.bool.R 4 (W.setCell ⟨g, i, none⟩ (.bool b)) base ok (.slice (some ⟨g, 0, none⟩) 256 cap) (tab fun p => if p = i then b else f p) := by
  have hl := tab_length f
  have h' : Kd.bool.R 4 W base ok (.slice (some ⟨g, 0, none⟩) (tab f).length cap) (tab f) := by rw [hl]; exact h
  have := (Kd.R_put h' (i : Int) b).1
  rw [Int.toNat_natCast, tab_set, hl] at this
  exact this
theorem tab_of (l : List Bool) (h : l.length = 256) : l = tab (fun p => l.getD p false) := by
  refine List.ext_getElem (by rw [tab_length]; exact h) (fun j h1 h2 => ?_)
  simp [tab, List.getD_eq_getElem?_getD, List.getElem?_eq_getElem h1]
theorem tabC_at {W : World} {A : Option Addr} {f : Nat → Bool} (h : Kd.bool.C W A 256 (tab f)) : ∃ ad, A = some ad ∧ ∀ i : Int, 0 ≤ i → i < 256 → W.cell? (ad.add i.toNat) = some (.bool (rdT f i)) := by
  obtain ⟨ad, rfl, _⟩ := Kd.at_bool h 0 (by omega) (by omega)
  refine ⟨ad, rfl, fun i h0 h1 => ?_⟩
  obtain ⟨ad', e, hc⟩ := Kd.at_bool h i h0 (by omega)
  cases e
  exact hc

/- spec.spreadFrom: the pixels that are connected with a pixel, as the reference has them. -/

noncomputable def spec_spreadFrom.f (l0 : List Bool) (a1 : Int) : Option (List Bool) := if l0.length = 256 ∧ 0 ≤ a1 ∧ a1 < 256 then some (tab (comp (fun p => l0.getD p false) a1.toNat)) else none

theorem inRange_eq' (n a b : Int) : spec_inRange.f n a b = some (decide (a ≤ n) && decide (n ≤ b)) := by
  unfold spec_inRange.f
  by_cases c : a ≤ n
  · rw [if_pos c, decide_eq_true c, Bool.true_and]
  · rw [if_neg c, decide_eq_false c, Bool.false_and]
/-- neighbour d of the pixel in column x and row y, in the reference's order -/
def nbS (x y d : Nat) : Int × Int := match d with
  | 0 => ((x : Int) + 1, (y : Int))
  | 1 => ((x : Int) - 1, (y : Int))
  | 2 => ((x : Int), (y : Int) + 1)
  | _ => ((x : Int), (y : Int) - 1)
def nbListS (x y : Nat) : List (Int × Int) := [nbS x y 0, nbS x y 1, nbS x y 2, nbS x y 3]
theorem nbListS_drop (x y d : Nat) (h : d < 4) : (nbListS x y).drop d = ((nbS x y d).1, (nbS x y d).2) :: (nbListS x y).drop (d + 1) := by
  obtain rfl | rfl | rfl | rfl : d = 0 ∨ d = 1 ∨ d = 2 ∨ d = 3 := by omega
  all_goals rfl
theorem nbS_mem (x y p r : Nat) (hx : x = p % 16) (hy : y = p / 16) (hp : p < 256) (hr : r < 256) (ha : Adj p r) : (((r % 16 : Nat) : Int), ((r / 16 : Nat) : Int)) ∈ nbListS x y := by
  have := adj_nb p r hp hr ha
  unfold nbListS nbS
  simp only [List.mem_cons, Prod.mk.injEq]
  omega
def lenT : Value → Nat
  | .slice _ n _ => n
  | _ => 0
def outT (W : World) (B : Nat) (p : Nat) : Bool := match W.cell? ⟨B, p, none⟩ with
  | some (.bool b) => b
  | _ => false
theorem unseen_outT {W : World} {base B cap : Nat} {ok : Nat → Prop} {o : Nat → Bool} (h : Kd.bool.R 4 W base ok (.slice (some ⟨B, 0, none⟩) 256 cap) (tab o)) : unseen (outT W B) = unseen o := by
  unfold unseen
  refine List.countP_congr (fun p hp => ?_)
  have : outT W B p = o p := by unfold outT; rw [(tabR_cell h p (by simpa using hp)).1]
  rw [this]

set_option maxHeartbeats 12000000 in
set_option maxRecDepth 100000 in
theorem spread_calls (A0 : Option Addr) (c0 : Nat) (g : Nat → Bool) (s : Nat) (hs : s < 256) (w : World) (hr0 : Kd.bool.C w A0 256 (tab g)) (hc0 : 256 ≤ c0) :
    Calls Try.prog 66 #[.slice A0 256 c0, .int .i64 (s : Int)] w fun e w' => ∃ v0_ : Value, e = .returned v0_ ∧ Kd.bool.R 4 w' w.heap.size (fun _ => True) v0_ (tab (comp g s)) ∧ Below w.heap.size w w' := by
  obtain ⟨ad, rfl, HRD⟩ := tabC_at hr0
  have HR := Aside0.mk hr0
  have HRC := Aside0.mk (fun (W : World) (hb : Below w.heap.size w W) (i : Int) (h0 : 0 ≤ i) (h1 : i < 256) => show W.cell? (ad.add i.toNat) = some (.bool (rdT g i)) from by
    obtain ⟨ad', e, h⟩ := tabC_at (Kd.C_below HR.out hb)
    cases e
    exact h i h0 h1)
  clear hr0 HRD
  go_enter Try.func66, Try.ntmps66
  go_wp2_with (first | ((with_reducible refine gate_dst (N := 16) rfl ?_); refine Kd.R_make Kd.bool w.heap.size 4 rfl (N := 16) rfl 81 _ _ rfl 256 rfl rfl Try.underlying81 (.bool false) 1 info4 rfl (by decide) (by omega) false (ok := fun _ => True) (okp := fun _ => True) rfl (fun _ hk => hk) trivial (by omega) (by omega) (Below.refl _ _) (Nat.le_refl _) ?_; intro v1 w1 ho1 hb1 hg1 hn1; clear hg1 hn1; rw [show (256 : Int).toNat = 256 from rfl, tab_false] at ho1; obtain ⟨B, cap, hv1, hBb, hBl, _⟩ := Kd.R_form ho1 (by rw [tab_length]; omega); rw [tab_length] at hv1; subst hv1; have HO1 := Aside0.mk ho1; have HB1 := Aside0.mk hb1; have HBL := Aside0.mk hBb; clear ho1 hb1 hBb hBl) | ((with_reducible refine gate_dst (N := 18) rfl ?_); refine Kd.R_lit (Kd.int .i64) w.heap.size 3 ?hg (N := 18) ?hd (xs := [(s : Int)]) (inner := [.int .i64 (s : Int)]) (ok := fun _ => True) (okp := fun _ => True) ?hr ?hp (fun _ hk => hk) trivial HB1.out HB1.out.size (by simp) ?_; (case hd => rfl); (case hg => rfl); (case hr => (go_simp; done)); (case hp => exact Reps.snoc (Reps.none _ _) rfl rfl); intro v2 w2 ho2 hb2 hg2 hn2; have HS2 := Aside0.mk ho2; have HB2 := Aside0.mk hb2; have HO2 := Aside0.mk (Kd.R_grown HO1.out hg2 (fun _ _ => by simp)); have hcs := (tabR_cell HO2.out s hs).1; have hcf := (tabR_cell HO2.out s hs).2; clear ho2 hb2 hg2 hn2))
  obtain ⟨cc, hcc⟩ := Kd.R_typed HO2.out B rfl
  have HS3 := Aside0.mk (Kd.R_set HS2.out hcc (by decide) s (.bool true))
  have HO3 := Aside0.mk (tabR_put HO2.out s true)
  have HB3 := Aside0.mk (below_set (g := B) (j := s) (v := .bool true) HB2.out HBL.out)
  have hinit : (fun p => if p = s then true else false) = fun q => decide (q = s) := by
    funext p
    by_cases e : p = s
    · rw [if_pos e, decide_eq_true e]
    · rw [if_neg e, decide_eq_false e]
  have HM0 := Aside0.mk (mid_init g s hs)
  rw [← hinit] at HM0
  have HU0 : unseen (fun p => if p = s then true else false) + 1 = 256 := by
    have h := unseen_set (fun _ => false) s hs rfl
    have h2 : unseen (fun _ => false) = 256 := by simp [unseen]
    rw [h2] at h
    exact h
  clear hinit hcc hcs hcf HO2 HS2 HB2 HO1 HB1
  go_loopw [6] (fun v6 W => ∃ (out : Nat → Bool) (st : List Nat) (p0 : Nat), Aside0 (Kd.R (Kd.int .i64) 3 W w.heap.size (fun _ => True) v6 (st.map fun (n : Nat) => (n : Int)) ∧ Kd.bool.R 4 W w.heap.size (fun _ => True) (.slice (some ⟨B, 0, none⟩) 256 cap) (tab out) ∧ Below w.heap.size w W) ∧
    Aside0 (Mid g s out st p0 [] ∧ st.length + unseen out ≤ 256)) (fun v6 W => 2 * unseen (outT W B) + lenT v6)
  case atStart => exact ⟨_, [s], s, ⟨HS3.out, HO3.out, HB3.out⟩, ⟨HM0.out, by simp only [List.length_singleton]; omega⟩⟩
  case round =>
    obtain ⟨out, st, p0, HW, HM⟩ := hrel
    clear HM0 HU0 HS3 HO3 HB3
    obtain ⟨wo, rfl⟩ : ∃ wo : World, wo = wr := ⟨_, rfl⟩
    have HMS := Aside0.mk (unseen_outT HW.out.2.1)
    by_cases hz : st = []
    · subst hz
      have hl := Kd.Q_slice (Kd.Q_of_R HW.out.1)
      obtain ⟨A6, c6, h6, _⟩ := hl
      simp only [List.map_nil, List.length_nil] at h6
      subst h6
      have HE := Aside0.mk (tab_congr (mid_end hs HM.out.1))
      go_wp2
      go_ret
      exact ⟨_, rfl, by rw [← HE.out]; exact HW.out.2.1, HW.out.2.2⟩
    · obtain ⟨st', p, rfl⟩ : ∃ st' p, st = st' ++ [p] := ⟨st.dropLast, st.getLast hz, (List.dropLast_concat_getLast hz).symm⟩
      clear hz
      obtain ⟨g6, c6, h6, hgb, hgl, _⟩ := Kd.R_form HW.out.1 (by simp)
      obtain ⟨m, hm⟩ : ∃ m, m = st'.length := ⟨_, rfl⟩
      have hlen : ((st' ++ [p]).map fun (n : Nat) => (n : Int)).length = m + 1 := by simp [hm]
      rw [hlen] at h6
      subst h6
      have hR6 := HW.out.1
      have hR6' : Kd.R (Kd.int .i64) 3 wo w.heap.size (fun _ => True) (.slice (some ⟨g6, 0, none⟩) ((st' ++ [p]).map fun (n : Nat) => (n : Int)).length c6) ((st' ++ [p]).map fun (n : Nat) => (n : Int)) := by rw [hlen]; exact hR6
      have hcell := (Kd.R_cell (0 : Int) hR6' (m : Int) (by omega) (by rw [hlen]; omega)).1
      have hrd : rdOf (0 : Int) ((st' ++ [p]).map fun (n : Nat) => (n : Int)) (m : Int) = (p : Int) := by
        unfold rdOf
        rw [Int.toNat_natCast, List.getD_eq_getElem?_getD, hm]
        simp
      rw [hrd, Int.toNat_natCast] at hcell
      have hcell' : wo.cell? ⟨g6, m, none⟩ = some (.int .i64 (p : Int)) := hcell
      have HT6 := Aside0.mk (show Kd.R (Kd.int .i64) 3 wo w.heap.size (fun _ => True) (.slice (some ⟨g6, 0, none⟩) m c6) (st'.map fun (n : Nat) => (n : Int)) from by
        have h := Kd.R_take (m := m) hR6' (by rw [hlen]; omega)
        rw [List.map_append, List.take_left' (by simp [hm])] at h
        exact h)
      have hp256 : p < 256 := (HM.out.1.todo_ok p (by simp)).1
      have hmc : m + 1 ≤ c6 := (Kd.R_reads' hR6).2.1
      have hm256 : m < 256 := by have h := HM.out.2; rw [List.length_append, List.length_singleton, ← hm] at h; omega
      have HML := Aside0.mk hm
      clear hcell hrd hR6 hR6' hlen hm
      have hmp : decide ((0 : Int) < ((m + 1 : Nat) : Int)) = true := by simp
      obtain ⟨i0, hi0, _, hsz0, _⟩ := info_parts info3
      have HCUT := Aside0.mk (cut_to (P := Try.prog) 22 3 .i64 Try.underlying22 hi0 (some ⟨g6, 0, none⟩) (m + 1) c6 (m : Int) (by omega) (by omega) hmc)
      clear hi0 hsz0
      obtain ⟨x0, hx0⟩ : ∃ x0 : Nat, x0 = p % 16 := ⟨_, rfl⟩
      obtain ⟨y0, hy0⟩ : ∃ y0 : Nat, y0 = p / 16 := ⟨_, rfl⟩
      have hx16 : x0 < 16 := by omega
      have hy16 : y0 < 16 := by omega
      have HX0 := Aside0.mk (show (p : Int) % 16 = (x0 : Int) by omega)
      have HY0 := Aside0.mk (show (p : Int) / 16 = (y0 : Int) by omega)
      have HPX := Aside0.mk hx0
      have HPY := Aside0.mk hy0
      clear hx0 hy0
      go_wp2_with (first
        | ((with_reducible refine gate_dst (N := 35) rfl ?_); refine Kd.event_run (v := .slice (some ⟨g6, 0, none⟩) m c6) (w1 := wo) rfl ?hr ?_; (case hr => (have hc_ := HCUT.out wo; rw [Int.toNat_natCast] at hc_; simp [execOp, Act.eval, Instr.sliceAt, Result.andThen, hc_]))))
      rw [HX0.out, HY0.out]
      have HM1 := Aside0.mk (show Mid g s out st' p (nbListS x0 y0) from
        mid_pop HM.out.1 (p := p) (by simp) (fun q hq => by rcases List.mem_append.1 hq with h | h; exact .inr h; exact .inl (List.mem_singleton.1 h)) (fun q hq => List.mem_append_left _ hq) (fun r hr ha => nbS_mem x0 y0 p r HPX.out HPY.out hp256 hr ha))
      have HL1 := Aside0.mk (show st'.length + unseen out ≤ 256 ∧ 2 * unseen out + st'.length < 2 * unseen out + (m + 1) from by
        have h := HM.out.2
        have h2 := HML.out
        rw [List.length_append, List.length_singleton] at h
        omega)
      obtain ⟨U, hU⟩ : ∃ U, U = 2 * unseen out + (m + 1) := ⟨_, rfl⟩
      rw [← hU] at HL1
      have HUE := Aside0.mk hU
      clear hU hcell' hmp HCUT
      go_loopw [6, 11] (fun v6 v11 W => ∃ (out' : Nat → Bool) (st2 : List Nat) (d : Nat), v11 = .int .i64 d ∧ d ≤ 4 ∧ Aside0 (Kd.R (Kd.int .i64) 3 W w.heap.size (fun _ => True) v6 (st2.map fun (n : Nat) => (n : Int)) ∧ Kd.bool.R 4 W w.heap.size (fun _ => True) (.slice (some ⟨B, 0, none⟩) 256 cap) (tab out') ∧ Below w.heap.size w W) ∧
        Aside0 (Mid g s out' st2 p ((nbListS x0 y0).drop d) ∧ st2.length + unseen out' ≤ 256 ∧ 2 * unseen out' + st2.length < U)) (fun _ v11 _ => 4 - (intOf v11).toNat)
      case atStart => exact ⟨out, st', 0, rfl, by omega, ⟨HT6.out, HW.out.2.1, HW.out.2.2⟩, ⟨HM1.out, HL1.out.1, HL1.out.2⟩⟩
      case round =>
        obtain ⟨out', st2, d, rfl, hd, HV, HT⟩ := hrel
        obtain ⟨wi, rfl⟩ : ∃ wi : World, wi = wr := ⟨_, rfl⟩
        by_cases h4 : d < 4
        · have hdd : decide ((d : Int) < 4) = true := by simp; omega
          have HDR := Aside0.mk (nbListS_drop x0 y0 d h4)
          obtain rfl | rfl | rfl | rfl : d = 0 ∨ d = 1 ∨ d = 2 ∨ d = 3 := by omega
          all_goals clear h4 hd
          · have HM2 := Aside0.mk (show Mid g s out' st2 p ((((x0 : Int) + 1), (y0 : Int)) :: (nbListS x0 y0).drop (0 + 1)) from by have h := HT.out.1; rw [HDR.out] at h; exact h)
            cases hb : (decide (0 ≤ ((x0 : Int) + 1)) && decide (((x0 : Int) + 1) ≤ 15)) with
            | false =>
              have HI1 := Aside0.mk (fun W => spec_inRange.calls (((x0 : Int) + 1)) 0 15 _ W (inRange_eq' _ _ _))
              rw [hb] at HI1
              have HSK := Aside0.mk (mid_skip HM2.out (.inl (hasP_no g (((x0 : Int) + 1)) (y0 : Int) (by simp at hb; omega))))
              clear hb
              go_wp2_with (first
                | (go_at_call 62; (with_reducible refine (HI1.out _).mono ?_); rintro e W1 ⟨rfl, hd1⟩; have HD1 := Aside0.mk hd1.below; clear hd1))
              go_roundw
              case rel => exact ⟨out', st2, 0 + 1, by go_num, by omega, ⟨(Kd.R_below (Kd.R_alloc (Kd.R_alloc HV.out.1 _) _) HD1.out), (Kd.R_below (Kd.R_alloc (Kd.R_alloc HV.out.2.1 _) _) HD1.out), (below_then (below_alloc (below_alloc HV.out.2.2 _) _) (below_alloc (below_alloc HV.out.2.2 _) _).size HD1.out)⟩, ⟨HSK.out, HT.out.2.1, HT.out.2.2⟩⟩
              case measure => simp [intOf]
            | true =>
              have HI1 := Aside0.mk (fun W => spec_inRange.calls (((x0 : Int) + 1)) 0 15 _ W (inRange_eq' _ _ _))
              rw [hb] at HI1
              cases hb2 : (decide (0 ≤ (y0 : Int)) && decide ((y0 : Int) ≤ 15)) with
              | false =>
                exfalso
                simp at hb2
                omega
              | true =>
                have HI2 := Aside0.mk (fun W => spec_inRange.calls (y0 : Int) 0 15 _ W (inRange_eq' _ _ _))
                rw [hb2] at HI2
                have hbc : 0 ≤ ((x0 : Int) + 1) ∧ ((x0 : Int) + 1) < 16 ∧ 0 ≤ (y0 : Int) ∧ (y0 : Int) < 16 := by simp at hb hb2; omega
                have HQ := Aside0.mk (show (y0 : Int).toNat * 16 + (((x0 : Int) + 1)).toNat = (y0 * 16 + (x0 + 1)) by omega)
                have hq256 : (y0 * 16 + (x0 + 1)) < 256 := by omega
                have HBO := Aside0.mk hbc
                clear hb hb2 hbc
                cases hg : g (y0 * 16 + (x0 + 1)) with
                | false =>
                  have HSK := Aside0.mk (mid_skip HM2.out (.inl (by rw [Bool.eq_false_iff]; intro h; have := ((hasP_iff g _ _).1 h).2.2.2.2; rw [HQ.out, hg] at this; cases this)))
                  go_wp2_with (first | (go_at_call 62; (with_reducible refine (HI1.out _).mono ?_); rintro e W1 ⟨rfl, hd1⟩; have HD1 := Aside0.mk hd1.below; clear hd1) | (go_at_call 62; (with_reducible refine (HI2.out _).mono ?_); rintro e W2 ⟨rfl, hd2⟩; have HD2 := Aside0.mk hd2.below; clear hd2; have hcg := HRC.out W2 (below_then (below_then (below_alloc (below_alloc HV.out.2.2 _) _) (below_alloc (below_alloc HV.out.2.2 _) _).size HD1.out) (below_then (below_alloc (below_alloc HV.out.2.2 _) _) (below_alloc (below_alloc HV.out.2.2 _) _).size HD1.out).size HD2.out) ((((y0 * 16 + (x0 + 1)) : Nat) : Int)) (by omega) (by omega); rw [Int.toNat_natCast, rdT_nat g _ hq256, hg] at hcg))
                  go_roundw
                  case rel => exact ⟨out', st2, 0 + 1, by go_num, by omega, ⟨(Kd.R_below (Kd.R_below (Kd.R_alloc (Kd.R_alloc HV.out.1 _) _) HD1.out) HD2.out), (Kd.R_below (Kd.R_below (Kd.R_alloc (Kd.R_alloc HV.out.2.1 _) _) HD1.out) HD2.out), (below_then (below_then (below_alloc (below_alloc HV.out.2.2 _) _) (below_alloc (below_alloc HV.out.2.2 _) _).size HD1.out) (below_then (below_alloc (below_alloc HV.out.2.2 _) _) (below_alloc (below_alloc HV.out.2.2 _) _).size HD1.out).size HD2.out)⟩, ⟨HSK.out, HT.out.2.1, HT.out.2.2⟩⟩
                  case measure => simp [intOf]
                | true =>
                  cases ho : out' (y0 * 16 + (x0 + 1)) with
                  | true =>
                    have HSK := Aside0.mk (mid_skip HM2.out (.inr (by rw [HQ.out]; exact ho)))
                    go_wp2_with (first | (go_at_call 62; (with_reducible refine (HI1.out _).mono ?_); rintro e W1 ⟨rfl, hd1⟩; have HD1 := Aside0.mk hd1.below; clear hd1) | (go_at_call 62; (with_reducible refine (HI2.out _).mono ?_); rintro e W2 ⟨rfl, hd2⟩; have HD2 := Aside0.mk hd2.below; clear hd2; have hcg := HRC.out W2 (below_then (below_then (below_alloc (below_alloc HV.out.2.2 _) _) (below_alloc (below_alloc HV.out.2.2 _) _).size HD1.out) (below_then (below_alloc (below_alloc HV.out.2.2 _) _) (below_alloc (below_alloc HV.out.2.2 _) _).size HD1.out).size HD2.out) ((((y0 * 16 + (x0 + 1)) : Nat) : Int)) (by omega) (by omega); rw [Int.toNat_natCast, rdT_nat g _ hq256, hg] at hcg; have hco := (tabR_cell (Kd.R_below (Kd.R_below (Kd.R_alloc (Kd.R_alloc HV.out.2.1 _) _) HD1.out) HD2.out) (y0 * 16 + (x0 + 1)) hq256).1; rw [ho] at hco; have hcf := (tabR_cell (Kd.R_below (Kd.R_below (Kd.R_alloc (Kd.R_alloc HV.out.2.1 _) _) HD1.out) HD2.out) (y0 * 16 + (x0 + 1)) hq256).2))
                    go_roundw
                    case rel => exact ⟨out', st2, 0 + 1, by go_num, by omega, ⟨(Kd.R_below (Kd.R_below (Kd.R_alloc (Kd.R_alloc HV.out.1 _) _) HD1.out) HD2.out), (Kd.R_below (Kd.R_below (Kd.R_alloc (Kd.R_alloc HV.out.2.1 _) _) HD1.out) HD2.out), (below_then (below_then (below_alloc (below_alloc HV.out.2.2 _) _) (below_alloc (below_alloc HV.out.2.2 _) _).size HD1.out) (below_then (below_alloc (below_alloc HV.out.2.2 _) _) (below_alloc (below_alloc HV.out.2.2 _) _).size HD1.out).size HD2.out)⟩, ⟨HSK.out, HT.out.2.1, HT.out.2.2⟩⟩
                    case measure => simp [intOf]
                  | false =>
                    have HPU := Aside0.mk (mid_push (todo' := st2 ++ [(y0 * 16 + (x0 + 1))]) HM2.out ((hasP_iff g _ _).2 ⟨HBO.out.1, HBO.out.2.1, HBO.out.2.2.1, HBO.out.2.2.2, by rw [HQ.out]; exact hg⟩) (nb_adj p hp256 _ _ HBO.out.1 HBO.out.2.1 HBO.out.2.2.1 HBO.out.2.2.2 (by have h1 := HPX.out; have h2 := HPY.out; omega)) (fun q hq => by rw [HQ.out]; rcases List.mem_append.1 hq with h | h; exact .inr h; exact .inl (List.mem_singleton.1 h)) (fun q hq => List.mem_append_left _ hq) (by rw [HQ.out]; simp))
                    rw [HQ.out] at HPU
                    have HUN := Aside0.mk (unseen_set out' (y0 * 16 + (x0 + 1)) hq256 ho)
                    have HXI := Aside0.mk (show ((y0 : Int) * 16 + ((x0 : Int) + 1)) = (((y0 * 16 + (x0 + 1)) : Nat) : Int) by omega)
                    go_wp2_with (first | (go_at_call 62; (with_reducible refine (HI1.out _).mono ?_); rintro e W1 ⟨rfl, hd1⟩; have HD1 := Aside0.mk hd1.below; clear hd1) | (go_at_call 62; (with_reducible refine (HI2.out _).mono ?_); rintro e W2 ⟨rfl, hd2⟩; have HD2 := Aside0.mk hd2.below; clear hd2; have hcg := HRC.out W2 (below_then (below_then (below_alloc (below_alloc HV.out.2.2 _) _) (below_alloc (below_alloc HV.out.2.2 _) _).size HD1.out) (below_then (below_alloc (below_alloc HV.out.2.2 _) _) (below_alloc (below_alloc HV.out.2.2 _) _).size HD1.out).size HD2.out) ((((y0 * 16 + (x0 + 1)) : Nat) : Int)) (by omega) (by omega); rw [Int.toNat_natCast, rdT_nat g _ hq256, hg] at hcg; have hco := (tabR_cell (Kd.R_below (Kd.R_below (Kd.R_alloc (Kd.R_alloc HV.out.2.1 _) _) HD1.out) HD2.out) (y0 * 16 + (x0 + 1)) hq256).1; rw [ho] at hco; have hcf := (tabR_cell (Kd.R_below (Kd.R_below (Kd.R_alloc (Kd.R_alloc HV.out.2.1 _) _) HD1.out) HD2.out) (y0 * 16 + (x0 + 1)) hq256).2; obtain ⟨cc2, hcc2⟩ := Kd.R_typed (Kd.R_below (Kd.R_below (Kd.R_alloc (Kd.R_alloc HV.out.2.1 _) _) HD1.out) HD2.out) B rfl; have HS3 := Aside0.mk (Kd.R_set (Kd.R_below (Kd.R_below (Kd.R_alloc (Kd.R_alloc HV.out.1 _) _) HD1.out) HD2.out) hcc2 (by decide) (y0 * 16 + (x0 + 1)) (.bool true)); have HO3 := Aside0.mk (tabR_put (Kd.R_below (Kd.R_below (Kd.R_alloc (Kd.R_alloc HV.out.2.1 _) _) HD1.out) HD2.out) (y0 * 16 + (x0 + 1)) true); have HB3 := Aside0.mk (below_set (g := B) (j := (y0 * 16 + (x0 + 1))) (v := .bool true) (below_then (below_then (below_alloc (below_alloc HV.out.2.2 _) _) (below_alloc (below_alloc HV.out.2.2 _) _).size HD1.out) (below_then (below_alloc (below_alloc HV.out.2.2 _) _) (below_alloc (below_alloc HV.out.2.2 _) _).size HD1.out).size HD2.out) HBL.out); clear hcc2) | ((with_reducible refine gate_builtin (b := .append) (xs := #[.tmp 96, .tmp 102]) rfl ?_); at_builtin; refine Kd.R_append (Kd.int .i64) (w0 := w) w.heap.size rfl (.tmp 96) (.tmp 102) 22 3 (.int .i64 0) 8 rfl Try.underlying22 info3 rfl (by decide) (by omega) u6 (st2.map fun (n : Nat) => (n : Int)) ((y0 : Int) * 16 + ((x0 : Int) + 1)) [.int .i64 ((y0 : Int) * 16 + ((x0 : Int) + 1))] (fun _ => True) (fun _ => False) rfl ?aX ?aP (fun _ hk => hk.elim) (fun _ _ => trivial) HS3.out HB3.out HB3.out.size ?aL ?_; (case aX => (go_simp; done)); (case aP => rfl); (case aL => (have hl_ := HT.out.2.1; rw [List.length_map]; omega)); intro v7 W7 ho7 hb7 hg7 hat7; have HS7 := Aside0.mk ho7; have HB7 := Aside0.mk hb7; have HO7 := Aside0.mk (Kd.R_over HO3.out HS3.out (by decide) hg7); clear ho7 hb7 hg7 hat7))
                    go_roundw
                    case rel =>
                      refine ⟨fun p => if p = (y0 * 16 + (x0 + 1)) then true else out' p, st2 ++ [(y0 * 16 + (x0 + 1))], 0 + 1, by go_num, by omega, ⟨by have h := HS7.out; rw [HXI.out] at h; rw [List.map_append]; exact h, HO7.out, HB7.out⟩, ⟨HPU.out, ?_, ?_⟩⟩
                      · have h1 := HUN.out
                        have h2 := HT.out.2.1
                        rw [List.length_append, List.length_singleton]
                        omega
                      · have h1 := HUN.out
                        have h2 := HT.out.2.2
                        rw [List.length_append, List.length_singleton]
                        omega
                    case measure => simp [intOf]
          · have HM2 := Aside0.mk (show Mid g s out' st2 p ((((x0 : Int) - 1), (y0 : Int)) :: (nbListS x0 y0).drop (1 + 1)) from by have h := HT.out.1; rw [HDR.out] at h; exact h)
            cases hb : (decide (0 ≤ ((x0 : Int) + -1)) && decide (((x0 : Int) + -1) ≤ 15)) with
            | false =>
              have HI1 := Aside0.mk (fun W => spec_inRange.calls (((x0 : Int) + -1)) 0 15 _ W (inRange_eq' _ _ _))
              rw [hb] at HI1
              have HSK := Aside0.mk (mid_skip HM2.out (.inl (hasP_no g (((x0 : Int) - 1)) (y0 : Int) (by simp at hb; omega))))
              clear hb
              go_wp2_with (first
                | (go_at_call 62; (with_reducible refine (HI1.out _).mono ?_); rintro e W1 ⟨rfl, hd1⟩; have HD1 := Aside0.mk hd1.below; clear hd1))
              go_roundw
              case rel => exact ⟨out', st2, 1 + 1, by go_num, by omega, ⟨(Kd.R_below (Kd.R_alloc (Kd.R_alloc HV.out.1 _) _) HD1.out), (Kd.R_below (Kd.R_alloc (Kd.R_alloc HV.out.2.1 _) _) HD1.out), (below_then (below_alloc (below_alloc HV.out.2.2 _) _) (below_alloc (below_alloc HV.out.2.2 _) _).size HD1.out)⟩, ⟨HSK.out, HT.out.2.1, HT.out.2.2⟩⟩
              case measure => simp [intOf]
            | true =>
              have HI1 := Aside0.mk (fun W => spec_inRange.calls (((x0 : Int) + -1)) 0 15 _ W (inRange_eq' _ _ _))
              rw [hb] at HI1
              cases hb2 : (decide (0 ≤ (y0 : Int)) && decide ((y0 : Int) ≤ 15)) with
              | false =>
                exfalso
                simp at hb2
                omega
              | true =>
                have HI2 := Aside0.mk (fun W => spec_inRange.calls (y0 : Int) 0 15 _ W (inRange_eq' _ _ _))
                rw [hb2] at HI2
                have hbc : 0 ≤ ((x0 : Int) - 1) ∧ ((x0 : Int) - 1) < 16 ∧ 0 ≤ (y0 : Int) ∧ (y0 : Int) < 16 := by simp at hb hb2; omega
                have HQ := Aside0.mk (show (y0 : Int).toNat * 16 + (((x0 : Int) - 1)).toNat = ((y0 : Int) * 16 + ((x0 : Int) + -1)).toNat by omega)
                have hq256 : ((y0 : Int) * 16 + ((x0 : Int) + -1)).toNat < 256 := by omega
                have HBO := Aside0.mk hbc
                clear hb hb2
                have hx1 : 1 ≤ x0 := by omega
                clear hbc
                cases hg : g ((y0 : Int) * 16 + ((x0 : Int) + -1)).toNat with
                | false =>
                  have HSK := Aside0.mk (mid_skip HM2.out (.inl (by rw [Bool.eq_false_iff]; intro h; have := ((hasP_iff g _ _).1 h).2.2.2.2; rw [HQ.out, hg] at this; cases this)))
                  go_wp2_with (first | (go_at_call 62; (with_reducible refine (HI1.out _).mono ?_); rintro e W1 ⟨rfl, hd1⟩; have HD1 := Aside0.mk hd1.below; clear hd1) | (go_at_call 62; (with_reducible refine (HI2.out _).mono ?_); rintro e W2 ⟨rfl, hd2⟩; have HD2 := Aside0.mk hd2.below; clear hd2; have hcg := HRC.out W2 (below_then (below_then (below_alloc (below_alloc HV.out.2.2 _) _) (below_alloc (below_alloc HV.out.2.2 _) _).size HD1.out) (below_then (below_alloc (below_alloc HV.out.2.2 _) _) (below_alloc (below_alloc HV.out.2.2 _) _).size HD1.out).size HD2.out) (((((y0 : Int) * 16 + ((x0 : Int) + -1)).toNat : Nat) : Int)) (by omega) (by omega); rw [Int.toNat_natCast, rdT_nat g _ hq256, hg] at hcg))
                  go_roundw
                  case rel => exact ⟨out', st2, 1 + 1, by go_num, by omega, ⟨(Kd.R_below (Kd.R_below (Kd.R_alloc (Kd.R_alloc HV.out.1 _) _) HD1.out) HD2.out), (Kd.R_below (Kd.R_below (Kd.R_alloc (Kd.R_alloc HV.out.2.1 _) _) HD1.out) HD2.out), (below_then (below_then (below_alloc (below_alloc HV.out.2.2 _) _) (below_alloc (below_alloc HV.out.2.2 _) _).size HD1.out) (below_then (below_alloc (below_alloc HV.out.2.2 _) _) (below_alloc (below_alloc HV.out.2.2 _) _).size HD1.out).size HD2.out)⟩, ⟨HSK.out, HT.out.2.1, HT.out.2.2⟩⟩
                  case measure => simp [intOf]
                | true =>
                  cases ho : out' ((y0 : Int) * 16 + ((x0 : Int) + -1)).toNat with
                  | true =>
                    have HSK := Aside0.mk (mid_skip HM2.out (.inr (by rw [HQ.out]; exact ho)))
                    go_wp2_with (first | (go_at_call 62; (with_reducible refine (HI1.out _).mono ?_); rintro e W1 ⟨rfl, hd1⟩; have HD1 := Aside0.mk hd1.below; clear hd1) | (go_at_call 62; (with_reducible refine (HI2.out _).mono ?_); rintro e W2 ⟨rfl, hd2⟩; have HD2 := Aside0.mk hd2.below; clear hd2; have hcg := HRC.out W2 (below_then (below_then (below_alloc (below_alloc HV.out.2.2 _) _) (below_alloc (below_alloc HV.out.2.2 _) _).size HD1.out) (below_then (below_alloc (below_alloc HV.out.2.2 _) _) (below_alloc (below_alloc HV.out.2.2 _) _).size HD1.out).size HD2.out) (((((y0 : Int) * 16 + ((x0 : Int) + -1)).toNat : Nat) : Int)) (by omega) (by omega); rw [Int.toNat_natCast, rdT_nat g _ hq256, hg] at hcg; have hco := (tabR_cell (Kd.R_below (Kd.R_below (Kd.R_alloc (Kd.R_alloc HV.out.2.1 _) _) HD1.out) HD2.out) ((y0 : Int) * 16 + ((x0 : Int) + -1)).toNat hq256).1; rw [ho] at hco; have hcf := (tabR_cell (Kd.R_below (Kd.R_below (Kd.R_alloc (Kd.R_alloc HV.out.2.1 _) _) HD1.out) HD2.out) ((y0 : Int) * 16 + ((x0 : Int) + -1)).toNat hq256).2))
                    go_roundw
                    case rel => exact ⟨out', st2, 1 + 1, by go_num, by omega, ⟨(Kd.R_below (Kd.R_below (Kd.R_alloc (Kd.R_alloc HV.out.1 _) _) HD1.out) HD2.out), (Kd.R_below (Kd.R_below (Kd.R_alloc (Kd.R_alloc HV.out.2.1 _) _) HD1.out) HD2.out), (below_then (below_then (below_alloc (below_alloc HV.out.2.2 _) _) (below_alloc (below_alloc HV.out.2.2 _) _).size HD1.out) (below_then (below_alloc (below_alloc HV.out.2.2 _) _) (below_alloc (below_alloc HV.out.2.2 _) _).size HD1.out).size HD2.out)⟩, ⟨HSK.out, HT.out.2.1, HT.out.2.2⟩⟩
                    case measure => simp [intOf]
                  | false =>
                    have HPU := Aside0.mk (mid_push (todo' := st2 ++ [((y0 : Int) * 16 + ((x0 : Int) + -1)).toNat]) HM2.out ((hasP_iff g _ _).2 ⟨HBO.out.1, HBO.out.2.1, HBO.out.2.2.1, HBO.out.2.2.2, by rw [HQ.out]; exact hg⟩) (nb_adj p hp256 _ _ HBO.out.1 HBO.out.2.1 HBO.out.2.2.1 HBO.out.2.2.2 (by have h1 := HPX.out; have h2 := HPY.out; omega)) (fun q hq => by rw [HQ.out]; rcases List.mem_append.1 hq with h | h; exact .inr h; exact .inl (List.mem_singleton.1 h)) (fun q hq => List.mem_append_left _ hq) (by rw [HQ.out]; simp))
                    rw [HQ.out] at HPU
                    have HUN := Aside0.mk (unseen_set out' ((y0 : Int) * 16 + ((x0 : Int) + -1)).toNat hq256 ho)
                    have HXI := Aside0.mk (show ((y0 : Int) * 16 + ((x0 : Int) + -1)) = ((((y0 : Int) * 16 + ((x0 : Int) + -1)).toNat : Nat) : Int) by omega)
                    go_wp2_with (first | (go_at_call 62; (with_reducible refine (HI1.out _).mono ?_); rintro e W1 ⟨rfl, hd1⟩; have HD1 := Aside0.mk hd1.below; clear hd1) | (go_at_call 62; (with_reducible refine (HI2.out _).mono ?_); rintro e W2 ⟨rfl, hd2⟩; have HD2 := Aside0.mk hd2.below; clear hd2; have hcg := HRC.out W2 (below_then (below_then (below_alloc (below_alloc HV.out.2.2 _) _) (below_alloc (below_alloc HV.out.2.2 _) _).size HD1.out) (below_then (below_alloc (below_alloc HV.out.2.2 _) _) (below_alloc (below_alloc HV.out.2.2 _) _).size HD1.out).size HD2.out) (((((y0 : Int) * 16 + ((x0 : Int) + -1)).toNat : Nat) : Int)) (by omega) (by omega); rw [Int.toNat_natCast, rdT_nat g _ hq256, hg] at hcg; have hco := (tabR_cell (Kd.R_below (Kd.R_below (Kd.R_alloc (Kd.R_alloc HV.out.2.1 _) _) HD1.out) HD2.out) ((y0 : Int) * 16 + ((x0 : Int) + -1)).toNat hq256).1; rw [ho] at hco; have hcf := (tabR_cell (Kd.R_below (Kd.R_below (Kd.R_alloc (Kd.R_alloc HV.out.2.1 _) _) HD1.out) HD2.out) ((y0 : Int) * 16 + ((x0 : Int) + -1)).toNat hq256).2; obtain ⟨cc2, hcc2⟩ := Kd.R_typed (Kd.R_below (Kd.R_below (Kd.R_alloc (Kd.R_alloc HV.out.2.1 _) _) HD1.out) HD2.out) B rfl; have HS3 := Aside0.mk (Kd.R_set (Kd.R_below (Kd.R_below (Kd.R_alloc (Kd.R_alloc HV.out.1 _) _) HD1.out) HD2.out) hcc2 (by decide) ((y0 : Int) * 16 + ((x0 : Int) + -1)).toNat (.bool true)); have HO3 := Aside0.mk (tabR_put (Kd.R_below (Kd.R_below (Kd.R_alloc (Kd.R_alloc HV.out.2.1 _) _) HD1.out) HD2.out) ((y0 : Int) * 16 + ((x0 : Int) + -1)).toNat true); have HB3 := Aside0.mk (below_set (g := B) (j := ((y0 : Int) * 16 + ((x0 : Int) + -1)).toNat) (v := .bool true) (below_then (below_then (below_alloc (below_alloc HV.out.2.2 _) _) (below_alloc (below_alloc HV.out.2.2 _) _).size HD1.out) (below_then (below_alloc (below_alloc HV.out.2.2 _) _) (below_alloc (below_alloc HV.out.2.2 _) _).size HD1.out).size HD2.out) HBL.out); clear hcc2) | ((with_reducible refine gate_builtin (b := .append) (xs := #[.tmp 96, .tmp 102]) rfl ?_); at_builtin; refine Kd.R_append (Kd.int .i64) (w0 := w) w.heap.size rfl (.tmp 96) (.tmp 102) 22 3 (.int .i64 0) 8 rfl Try.underlying22 info3 rfl (by decide) (by omega) u6 (st2.map fun (n : Nat) => (n : Int)) ((y0 : Int) * 16 + ((x0 : Int) + -1)) [.int .i64 ((y0 : Int) * 16 + ((x0 : Int) + -1))] (fun _ => True) (fun _ => False) rfl ?aX ?aP (fun _ hk => hk.elim) (fun _ _ => trivial) HS3.out HB3.out HB3.out.size ?aL ?_; (case aX => (go_simp; done)); (case aP => rfl); (case aL => (have hl_ := HT.out.2.1; rw [List.length_map]; omega)); intro v7 W7 ho7 hb7 hg7 hat7; have HS7 := Aside0.mk ho7; have HB7 := Aside0.mk hb7; have HO7 := Aside0.mk (Kd.R_over HO3.out HS3.out (by decide) hg7); clear ho7 hb7 hg7 hat7))
                    go_roundw
                    case rel =>
                      refine ⟨fun p => if p = ((y0 : Int) * 16 + ((x0 : Int) + -1)).toNat then true else out' p, st2 ++ [((y0 : Int) * 16 + ((x0 : Int) + -1)).toNat], 1 + 1, by go_num, by omega, ⟨by have h := HS7.out; rw [HXI.out] at h; rw [List.map_append]; exact h, HO7.out, HB7.out⟩, ⟨HPU.out, ?_, ?_⟩⟩
                      · have h1 := HUN.out
                        have h2 := HT.out.2.1
                        rw [List.length_append, List.length_singleton]
                        omega
                      · have h1 := HUN.out
                        have h2 := HT.out.2.2
                        rw [List.length_append, List.length_singleton]
                        omega
                    case measure => simp [intOf]
          · have HM2 := Aside0.mk (show Mid g s out' st2 p (((x0 : Int), ((y0 : Int) + 1)) :: (nbListS x0 y0).drop (2 + 1)) from by have h := HT.out.1; rw [HDR.out] at h; exact h)
            cases hb : (decide (0 ≤ (x0 : Int)) && decide ((x0 : Int) ≤ 15)) with
            | false =>
              exfalso
              simp at hb
              omega
            | true =>
              have HI1 := Aside0.mk (fun W => spec_inRange.calls (x0 : Int) 0 15 _ W (inRange_eq' _ _ _))
              rw [hb] at HI1
              cases hb2 : (decide (0 ≤ ((y0 : Int) + 1)) && decide (((y0 : Int) + 1) ≤ 15)) with
              | false =>
                have HI2 := Aside0.mk (fun W => spec_inRange.calls (((y0 : Int) + 1)) 0 15 _ W (inRange_eq' _ _ _))
                rw [hb2] at HI2
                have HSK := Aside0.mk (mid_skip HM2.out (.inl (hasP_no g (x0 : Int) (((y0 : Int) + 1)) (by simp at hb2; omega))))
                clear hb hb2
                go_wp2_with (first | (go_at_call 62; (with_reducible refine (HI1.out _).mono ?_); rintro e W1 ⟨rfl, hd1⟩; have HD1 := Aside0.mk hd1.below; clear hd1) | (go_at_call 62; (with_reducible refine (HI2.out _).mono ?_); rintro e W2 ⟨rfl, hd2⟩; have HD2 := Aside0.mk hd2.below; clear hd2))
                go_roundw
                case rel => exact ⟨out', st2, 2 + 1, by go_num, by omega, ⟨(Kd.R_below (Kd.R_below (Kd.R_alloc (Kd.R_alloc HV.out.1 _) _) HD1.out) HD2.out), (Kd.R_below (Kd.R_below (Kd.R_alloc (Kd.R_alloc HV.out.2.1 _) _) HD1.out) HD2.out), (below_then (below_then (below_alloc (below_alloc HV.out.2.2 _) _) (below_alloc (below_alloc HV.out.2.2 _) _).size HD1.out) (below_then (below_alloc (below_alloc HV.out.2.2 _) _) (below_alloc (below_alloc HV.out.2.2 _) _).size HD1.out).size HD2.out)⟩, ⟨HSK.out, HT.out.2.1, HT.out.2.2⟩⟩
                case measure => simp [intOf]
              | true =>
                have HI2 := Aside0.mk (fun W => spec_inRange.calls (((y0 : Int) + 1)) 0 15 _ W (inRange_eq' _ _ _))
                rw [hb2] at HI2
                have hbc : 0 ≤ (x0 : Int) ∧ (x0 : Int) < 16 ∧ 0 ≤ ((y0 : Int) + 1) ∧ ((y0 : Int) + 1) < 16 := by simp at hb hb2; omega
                have HQ := Aside0.mk (show (((y0 : Int) + 1)).toNat * 16 + (x0 : Int).toNat = ((y0 + 1) * 16 + x0) by omega)
                have hq256 : ((y0 + 1) * 16 + x0) < 256 := by omega
                have HBO := Aside0.mk hbc
                clear hb hb2 hbc
                cases hg : g ((y0 + 1) * 16 + x0) with
                | false =>
                  have HSK := Aside0.mk (mid_skip HM2.out (.inl (by rw [Bool.eq_false_iff]; intro h; have := ((hasP_iff g _ _).1 h).2.2.2.2; rw [HQ.out, hg] at this; cases this)))
                  go_wp2_with (first | (go_at_call 62; (with_reducible refine (HI1.out _).mono ?_); rintro e W1 ⟨rfl, hd1⟩; have HD1 := Aside0.mk hd1.below; clear hd1) | (go_at_call 62; (with_reducible refine (HI2.out _).mono ?_); rintro e W2 ⟨rfl, hd2⟩; have HD2 := Aside0.mk hd2.below; clear hd2; have hcg := HRC.out W2 (below_then (below_then (below_alloc (below_alloc HV.out.2.2 _) _) (below_alloc (below_alloc HV.out.2.2 _) _).size HD1.out) (below_then (below_alloc (below_alloc HV.out.2.2 _) _) (below_alloc (below_alloc HV.out.2.2 _) _).size HD1.out).size HD2.out) (((((y0 + 1) * 16 + x0) : Nat) : Int)) (by omega) (by omega); rw [Int.toNat_natCast, rdT_nat g _ hq256, hg] at hcg))
                  go_roundw
                  case rel => exact ⟨out', st2, 2 + 1, by go_num, by omega, ⟨(Kd.R_below (Kd.R_below (Kd.R_alloc (Kd.R_alloc HV.out.1 _) _) HD1.out) HD2.out), (Kd.R_below (Kd.R_below (Kd.R_alloc (Kd.R_alloc HV.out.2.1 _) _) HD1.out) HD2.out), (below_then (below_then (below_alloc (below_alloc HV.out.2.2 _) _) (below_alloc (below_alloc HV.out.2.2 _) _).size HD1.out) (below_then (below_alloc (below_alloc HV.out.2.2 _) _) (below_alloc (below_alloc HV.out.2.2 _) _).size HD1.out).size HD2.out)⟩, ⟨HSK.out, HT.out.2.1, HT.out.2.2⟩⟩
                  case measure => simp [intOf]
                | true =>
                  cases ho : out' ((y0 + 1) * 16 + x0) with
                  | true =>
                    have HSK := Aside0.mk (mid_skip HM2.out (.inr (by rw [HQ.out]; exact ho)))
                    go_wp2_with (first | (go_at_call 62; (with_reducible refine (HI1.out _).mono ?_); rintro e W1 ⟨rfl, hd1⟩; have HD1 := Aside0.mk hd1.below; clear hd1) | (go_at_call 62; (with_reducible refine (HI2.out _).mono ?_); rintro e W2 ⟨rfl, hd2⟩; have HD2 := Aside0.mk hd2.below; clear hd2; have hcg := HRC.out W2 (below_then (below_then (below_alloc (below_alloc HV.out.2.2 _) _) (below_alloc (below_alloc HV.out.2.2 _) _).size HD1.out) (below_then (below_alloc (below_alloc HV.out.2.2 _) _) (below_alloc (below_alloc HV.out.2.2 _) _).size HD1.out).size HD2.out) (((((y0 + 1) * 16 + x0) : Nat) : Int)) (by omega) (by omega); rw [Int.toNat_natCast, rdT_nat g _ hq256, hg] at hcg; have hco := (tabR_cell (Kd.R_below (Kd.R_below (Kd.R_alloc (Kd.R_alloc HV.out.2.1 _) _) HD1.out) HD2.out) ((y0 + 1) * 16 + x0) hq256).1; rw [ho] at hco; have hcf := (tabR_cell (Kd.R_below (Kd.R_below (Kd.R_alloc (Kd.R_alloc HV.out.2.1 _) _) HD1.out) HD2.out) ((y0 + 1) * 16 + x0) hq256).2))
                    go_roundw
                    case rel => exact ⟨out', st2, 2 + 1, by go_num, by omega, ⟨(Kd.R_below (Kd.R_below (Kd.R_alloc (Kd.R_alloc HV.out.1 _) _) HD1.out) HD2.out), (Kd.R_below (Kd.R_below (Kd.R_alloc (Kd.R_alloc HV.out.2.1 _) _) HD1.out) HD2.out), (below_then (below_then (below_alloc (below_alloc HV.out.2.2 _) _) (below_alloc (below_alloc HV.out.2.2 _) _).size HD1.out) (below_then (below_alloc (below_alloc HV.out.2.2 _) _) (below_alloc (below_alloc HV.out.2.2 _) _).size HD1.out).size HD2.out)⟩, ⟨HSK.out, HT.out.2.1, HT.out.2.2⟩⟩
                    case measure => simp [intOf]
                  | false =>
                    have HPU := Aside0.mk (mid_push (todo' := st2 ++ [((y0 + 1) * 16 + x0)]) HM2.out ((hasP_iff g _ _).2 ⟨HBO.out.1, HBO.out.2.1, HBO.out.2.2.1, HBO.out.2.2.2, by rw [HQ.out]; exact hg⟩) (nb_adj p hp256 _ _ HBO.out.1 HBO.out.2.1 HBO.out.2.2.1 HBO.out.2.2.2 (by have h1 := HPX.out; have h2 := HPY.out; omega)) (fun q hq => by rw [HQ.out]; rcases List.mem_append.1 hq with h | h; exact .inr h; exact .inl (List.mem_singleton.1 h)) (fun q hq => List.mem_append_left _ hq) (by rw [HQ.out]; simp))
                    rw [HQ.out] at HPU
                    have HUN := Aside0.mk (unseen_set out' ((y0 + 1) * 16 + x0) hq256 ho)
                    have HXI := Aside0.mk (show (((y0 : Int) + 1) * 16 + (x0 : Int)) = ((((y0 + 1) * 16 + x0) : Nat) : Int) by omega)
                    go_wp2_with (first | (go_at_call 62; (with_reducible refine (HI1.out _).mono ?_); rintro e W1 ⟨rfl, hd1⟩; have HD1 := Aside0.mk hd1.below; clear hd1) | (go_at_call 62; (with_reducible refine (HI2.out _).mono ?_); rintro e W2 ⟨rfl, hd2⟩; have HD2 := Aside0.mk hd2.below; clear hd2; have hcg := HRC.out W2 (below_then (below_then (below_alloc (below_alloc HV.out.2.2 _) _) (below_alloc (below_alloc HV.out.2.2 _) _).size HD1.out) (below_then (below_alloc (below_alloc HV.out.2.2 _) _) (below_alloc (below_alloc HV.out.2.2 _) _).size HD1.out).size HD2.out) (((((y0 + 1) * 16 + x0) : Nat) : Int)) (by omega) (by omega); rw [Int.toNat_natCast, rdT_nat g _ hq256, hg] at hcg; have hco := (tabR_cell (Kd.R_below (Kd.R_below (Kd.R_alloc (Kd.R_alloc HV.out.2.1 _) _) HD1.out) HD2.out) ((y0 + 1) * 16 + x0) hq256).1; rw [ho] at hco; have hcf := (tabR_cell (Kd.R_below (Kd.R_below (Kd.R_alloc (Kd.R_alloc HV.out.2.1 _) _) HD1.out) HD2.out) ((y0 + 1) * 16 + x0) hq256).2; obtain ⟨cc2, hcc2⟩ := Kd.R_typed (Kd.R_below (Kd.R_below (Kd.R_alloc (Kd.R_alloc HV.out.2.1 _) _) HD1.out) HD2.out) B rfl; have HS3 := Aside0.mk (Kd.R_set (Kd.R_below (Kd.R_below (Kd.R_alloc (Kd.R_alloc HV.out.1 _) _) HD1.out) HD2.out) hcc2 (by decide) ((y0 + 1) * 16 + x0) (.bool true)); have HO3 := Aside0.mk (tabR_put (Kd.R_below (Kd.R_below (Kd.R_alloc (Kd.R_alloc HV.out.2.1 _) _) HD1.out) HD2.out) ((y0 + 1) * 16 + x0) true); have HB3 := Aside0.mk (below_set (g := B) (j := ((y0 + 1) * 16 + x0)) (v := .bool true) (below_then (below_then (below_alloc (below_alloc HV.out.2.2 _) _) (below_alloc (below_alloc HV.out.2.2 _) _).size HD1.out) (below_then (below_alloc (below_alloc HV.out.2.2 _) _) (below_alloc (below_alloc HV.out.2.2 _) _).size HD1.out).size HD2.out) HBL.out); clear hcc2) | ((with_reducible refine gate_builtin (b := .append) (xs := #[.tmp 96, .tmp 102]) rfl ?_); at_builtin; refine Kd.R_append (Kd.int .i64) (w0 := w) w.heap.size rfl (.tmp 96) (.tmp 102) 22 3 (.int .i64 0) 8 rfl Try.underlying22 info3 rfl (by decide) (by omega) u6 (st2.map fun (n : Nat) => (n : Int)) (((y0 : Int) + 1) * 16 + (x0 : Int)) [.int .i64 (((y0 : Int) + 1) * 16 + (x0 : Int))] (fun _ => True) (fun _ => False) rfl ?aX ?aP (fun _ hk => hk.elim) (fun _ _ => trivial) HS3.out HB3.out HB3.out.size ?aL ?_; (case aX => (go_simp; done)); (case aP => rfl); (case aL => (have hl_ := HT.out.2.1; rw [List.length_map]; omega)); intro v7 W7 ho7 hb7 hg7 hat7; have HS7 := Aside0.mk ho7; have HB7 := Aside0.mk hb7; have HO7 := Aside0.mk (Kd.R_over HO3.out HS3.out (by decide) hg7); clear ho7 hb7 hg7 hat7))
                    go_roundw
                    case rel =>
                      refine ⟨fun p => if p = ((y0 + 1) * 16 + x0) then true else out' p, st2 ++ [((y0 + 1) * 16 + x0)], 2 + 1, by go_num, by omega, ⟨by have h := HS7.out; rw [HXI.out] at h; rw [List.map_append]; exact h, HO7.out, HB7.out⟩, ⟨HPU.out, ?_, ?_⟩⟩
                      · have h1 := HUN.out
                        have h2 := HT.out.2.1
                        rw [List.length_append, List.length_singleton]
                        omega
                      · have h1 := HUN.out
                        have h2 := HT.out.2.2
                        rw [List.length_append, List.length_singleton]
                        omega
                    case measure => simp [intOf]
          · have HM2 := Aside0.mk (show Mid g s out' st2 p (((x0 : Int), ((y0 : Int) - 1)) :: (nbListS x0 y0).drop (3 + 1)) from by have h := HT.out.1; rw [HDR.out] at h; exact h)
            cases hb : (decide (0 ≤ (x0 : Int)) && decide ((x0 : Int) ≤ 15)) with
            | false =>
              exfalso
              simp at hb
              omega
            | true =>
              have HI1 := Aside0.mk (fun W => spec_inRange.calls (x0 : Int) 0 15 _ W (inRange_eq' _ _ _))
              rw [hb] at HI1
              cases hb2 : (decide (0 ≤ ((y0 : Int) + -1)) && decide (((y0 : Int) + -1) ≤ 15)) with
              | false =>
                have HI2 := Aside0.mk (fun W => spec_inRange.calls (((y0 : Int) + -1)) 0 15 _ W (inRange_eq' _ _ _))
                rw [hb2] at HI2
                have HSK := Aside0.mk (mid_skip HM2.out (.inl (hasP_no g (x0 : Int) (((y0 : Int) - 1)) (by simp at hb2; omega))))
                clear hb hb2
                go_wp2_with (first | (go_at_call 62; (with_reducible refine (HI1.out _).mono ?_); rintro e W1 ⟨rfl, hd1⟩; have HD1 := Aside0.mk hd1.below; clear hd1) | (go_at_call 62; (with_reducible refine (HI2.out _).mono ?_); rintro e W2 ⟨rfl, hd2⟩; have HD2 := Aside0.mk hd2.below; clear hd2))
                go_roundw
                case rel => exact ⟨out', st2, 3 + 1, by go_num, by omega, ⟨(Kd.R_below (Kd.R_below (Kd.R_alloc (Kd.R_alloc HV.out.1 _) _) HD1.out) HD2.out), (Kd.R_below (Kd.R_below (Kd.R_alloc (Kd.R_alloc HV.out.2.1 _) _) HD1.out) HD2.out), (below_then (below_then (below_alloc (below_alloc HV.out.2.2 _) _) (below_alloc (below_alloc HV.out.2.2 _) _).size HD1.out) (below_then (below_alloc (below_alloc HV.out.2.2 _) _) (below_alloc (below_alloc HV.out.2.2 _) _).size HD1.out).size HD2.out)⟩, ⟨HSK.out, HT.out.2.1, HT.out.2.2⟩⟩
                case measure => simp [intOf]
              | true =>
                have HI2 := Aside0.mk (fun W => spec_inRange.calls (((y0 : Int) + -1)) 0 15 _ W (inRange_eq' _ _ _))
                rw [hb2] at HI2
                have hbc : 0 ≤ (x0 : Int) ∧ (x0 : Int) < 16 ∧ 0 ≤ ((y0 : Int) - 1) ∧ ((y0 : Int) - 1) < 16 := by simp at hb hb2; omega
                have HQ := Aside0.mk (show (((y0 : Int) - 1)).toNat * 16 + (x0 : Int).toNat = (((y0 : Int) + -1) * 16 + (x0 : Int)).toNat by omega)
                have hq256 : (((y0 : Int) + -1) * 16 + (x0 : Int)).toNat < 256 := by omega
                have HBO := Aside0.mk hbc
                clear hb hb2
                have hy1 : 1 ≤ y0 := by omega
                clear hbc
                cases hg : g (((y0 : Int) + -1) * 16 + (x0 : Int)).toNat with
                | false =>
                  have HSK := Aside0.mk (mid_skip HM2.out (.inl (by rw [Bool.eq_false_iff]; intro h; have := ((hasP_iff g _ _).1 h).2.2.2.2; rw [HQ.out, hg] at this; cases this)))
                  go_wp2_with (first | (go_at_call 62; (with_reducible refine (HI1.out _).mono ?_); rintro e W1 ⟨rfl, hd1⟩; have HD1 := Aside0.mk hd1.below; clear hd1) | (go_at_call 62; (with_reducible refine (HI2.out _).mono ?_); rintro e W2 ⟨rfl, hd2⟩; have HD2 := Aside0.mk hd2.below; clear hd2; have hcg := HRC.out W2 (below_then (below_then (below_alloc (below_alloc HV.out.2.2 _) _) (below_alloc (below_alloc HV.out.2.2 _) _).size HD1.out) (below_then (below_alloc (below_alloc HV.out.2.2 _) _) (below_alloc (below_alloc HV.out.2.2 _) _).size HD1.out).size HD2.out) ((((((y0 : Int) + -1) * 16 + (x0 : Int)).toNat : Nat) : Int)) (by omega) (by omega); rw [Int.toNat_natCast, rdT_nat g _ hq256, hg] at hcg))
                  go_roundw
                  case rel => exact ⟨out', st2, 3 + 1, by go_num, by omega, ⟨(Kd.R_below (Kd.R_below (Kd.R_alloc (Kd.R_alloc HV.out.1 _) _) HD1.out) HD2.out), (Kd.R_below (Kd.R_below (Kd.R_alloc (Kd.R_alloc HV.out.2.1 _) _) HD1.out) HD2.out), (below_then (below_then (below_alloc (below_alloc HV.out.2.2 _) _) (below_alloc (below_alloc HV.out.2.2 _) _).size HD1.out) (below_then (below_alloc (below_alloc HV.out.2.2 _) _) (below_alloc (below_alloc HV.out.2.2 _) _).size HD1.out).size HD2.out)⟩, ⟨HSK.out, HT.out.2.1, HT.out.2.2⟩⟩
                  case measure => simp [intOf]
                | true =>
                  cases ho : out' (((y0 : Int) + -1) * 16 + (x0 : Int)).toNat with
                  | true =>
                    have HSK := Aside0.mk (mid_skip HM2.out (.inr (by rw [HQ.out]; exact ho)))
                    go_wp2_with (first | (go_at_call 62; (with_reducible refine (HI1.out _).mono ?_); rintro e W1 ⟨rfl, hd1⟩; have HD1 := Aside0.mk hd1.below; clear hd1) | (go_at_call 62; (with_reducible refine (HI2.out _).mono ?_); rintro e W2 ⟨rfl, hd2⟩; have HD2 := Aside0.mk hd2.below; clear hd2; have hcg := HRC.out W2 (below_then (below_then (below_alloc (below_alloc HV.out.2.2 _) _) (below_alloc (below_alloc HV.out.2.2 _) _).size HD1.out) (below_then (below_alloc (below_alloc HV.out.2.2 _) _) (below_alloc (below_alloc HV.out.2.2 _) _).size HD1.out).size HD2.out) ((((((y0 : Int) + -1) * 16 + (x0 : Int)).toNat : Nat) : Int)) (by omega) (by omega); rw [Int.toNat_natCast, rdT_nat g _ hq256, hg] at hcg; have hco := (tabR_cell (Kd.R_below (Kd.R_below (Kd.R_alloc (Kd.R_alloc HV.out.2.1 _) _) HD1.out) HD2.out) (((y0 : Int) + -1) * 16 + (x0 : Int)).toNat hq256).1; rw [ho] at hco; have hcf := (tabR_cell (Kd.R_below (Kd.R_below (Kd.R_alloc (Kd.R_alloc HV.out.2.1 _) _) HD1.out) HD2.out) (((y0 : Int) + -1) * 16 + (x0 : Int)).toNat hq256).2))
                    go_roundw
                    case rel => exact ⟨out', st2, 3 + 1, by go_num, by omega, ⟨(Kd.R_below (Kd.R_below (Kd.R_alloc (Kd.R_alloc HV.out.1 _) _) HD1.out) HD2.out), (Kd.R_below (Kd.R_below (Kd.R_alloc (Kd.R_alloc HV.out.2.1 _) _) HD1.out) HD2.out), (below_then (below_then (below_alloc (below_alloc HV.out.2.2 _) _) (below_alloc (below_alloc HV.out.2.2 _) _).size HD1.out) (below_then (below_alloc (below_alloc HV.out.2.2 _) _) (below_alloc (below_alloc HV.out.2.2 _) _).size HD1.out).size HD2.out)⟩, ⟨HSK.out, HT.out.2.1, HT.out.2.2⟩⟩
                    case measure => simp [intOf]
                  | false =>
                    have HPU := Aside0.mk (mid_push (todo' := st2 ++ [(((y0 : Int) + -1) * 16 + (x0 : Int)).toNat]) HM2.out ((hasP_iff g _ _).2 ⟨HBO.out.1, HBO.out.2.1, HBO.out.2.2.1, HBO.out.2.2.2, by rw [HQ.out]; exact hg⟩) (nb_adj p hp256 _ _ HBO.out.1 HBO.out.2.1 HBO.out.2.2.1 HBO.out.2.2.2 (by have h1 := HPX.out; have h2 := HPY.out; omega)) (fun q hq => by rw [HQ.out]; rcases List.mem_append.1 hq with h | h; exact .inr h; exact .inl (List.mem_singleton.1 h)) (fun q hq => List.mem_append_left _ hq) (by rw [HQ.out]; simp))
                    rw [HQ.out] at HPU
                    have HUN := Aside0.mk (unseen_set out' (((y0 : Int) + -1) * 16 + (x0 : Int)).toNat hq256 ho)
                    have HXI := Aside0.mk (show (((y0 : Int) + -1) * 16 + (x0 : Int)) = (((((y0 : Int) + -1) * 16 + (x0 : Int)).toNat : Nat) : Int) by omega)
                    go_wp2_with (first | (go_at_call 62; (with_reducible refine (HI1.out _).mono ?_); rintro e W1 ⟨rfl, hd1⟩; have HD1 := Aside0.mk hd1.below; clear hd1) | (go_at_call 62; (with_reducible refine (HI2.out _).mono ?_); rintro e W2 ⟨rfl, hd2⟩; have HD2 := Aside0.mk hd2.below; clear hd2; have hcg := HRC.out W2 (below_then (below_then (below_alloc (below_alloc HV.out.2.2 _) _) (below_alloc (below_alloc HV.out.2.2 _) _).size HD1.out) (below_then (below_alloc (below_alloc HV.out.2.2 _) _) (below_alloc (below_alloc HV.out.2.2 _) _).size HD1.out).size HD2.out) ((((((y0 : Int) + -1) * 16 + (x0 : Int)).toNat : Nat) : Int)) (by omega) (by omega); rw [Int.toNat_natCast, rdT_nat g _ hq256, hg] at hcg; have hco := (tabR_cell (Kd.R_below (Kd.R_below (Kd.R_alloc (Kd.R_alloc HV.out.2.1 _) _) HD1.out) HD2.out) (((y0 : Int) + -1) * 16 + (x0 : Int)).toNat hq256).1; rw [ho] at hco; have hcf := (tabR_cell (Kd.R_below (Kd.R_below (Kd.R_alloc (Kd.R_alloc HV.out.2.1 _) _) HD1.out) HD2.out) (((y0 : Int) + -1) * 16 + (x0 : Int)).toNat hq256).2; obtain ⟨cc2, hcc2⟩ := Kd.R_typed (Kd.R_below (Kd.R_below (Kd.R_alloc (Kd.R_alloc HV.out.2.1 _) _) HD1.out) HD2.out) B rfl; have HS3 := Aside0.mk (Kd.R_set (Kd.R_below (Kd.R_below (Kd.R_alloc (Kd.R_alloc HV.out.1 _) _) HD1.out) HD2.out) hcc2 (by decide) (((y0 : Int) + -1) * 16 + (x0 : Int)).toNat (.bool true)); have HO3 := Aside0.mk (tabR_put (Kd.R_below (Kd.R_below (Kd.R_alloc (Kd.R_alloc HV.out.2.1 _) _) HD1.out) HD2.out) (((y0 : Int) + -1) * 16 + (x0 : Int)).toNat true); have HB3 := Aside0.mk (below_set (g := B) (j := (((y0 : Int) + -1) * 16 + (x0 : Int)).toNat) (v := .bool true) (below_then (below_then (below_alloc (below_alloc HV.out.2.2 _) _) (below_alloc (below_alloc HV.out.2.2 _) _).size HD1.out) (below_then (below_alloc (below_alloc HV.out.2.2 _) _) (below_alloc (below_alloc HV.out.2.2 _) _).size HD1.out).size HD2.out) HBL.out); clear hcc2) | ((with_reducible refine gate_builtin (b := .append) (xs := #[.tmp 96, .tmp 102]) rfl ?_); at_builtin; refine Kd.R_append (Kd.int .i64) (w0 := w) w.heap.size rfl (.tmp 96) (.tmp 102) 22 3 (.int .i64 0) 8 rfl Try.underlying22 info3 rfl (by decide) (by omega) u6 (st2.map fun (n : Nat) => (n : Int)) (((y0 : Int) + -1) * 16 + (x0 : Int)) [.int .i64 (((y0 : Int) + -1) * 16 + (x0 : Int))] (fun _ => True) (fun _ => False) rfl ?aX ?aP (fun _ hk => hk.elim) (fun _ _ => trivial) HS3.out HB3.out HB3.out.size ?aL ?_; (case aX => (go_simp; done)); (case aP => rfl); (case aL => (have hl_ := HT.out.2.1; rw [List.length_map]; omega)); intro v7 W7 ho7 hb7 hg7 hat7; have HS7 := Aside0.mk ho7; have HB7 := Aside0.mk hb7; have HO7 := Aside0.mk (Kd.R_over HO3.out HS3.out (by decide) hg7); clear ho7 hb7 hg7 hat7))
                    go_roundw
                    case rel =>
                      refine ⟨fun p => if p = (((y0 : Int) + -1) * 16 + (x0 : Int)).toNat then true else out' p, st2 ++ [(((y0 : Int) + -1) * 16 + (x0 : Int)).toNat], 3 + 1, by go_num, by omega, ⟨by have h := HS7.out; rw [HXI.out] at h; rw [List.map_append]; exact h, HO7.out, HB7.out⟩, ⟨HPU.out, ?_, ?_⟩⟩
                      · have h1 := HUN.out
                        have h2 := HT.out.2.1
                        rw [List.length_append, List.length_singleton]
                        omega
                      · have h1 := HUN.out
                        have h2 := HT.out.2.2
                        rw [List.length_append, List.length_singleton]
                        omega
                    case measure => simp [intOf]
        · have hd4 : d = 4 := by omega
          subst hd4
          go_wp2
          go_roundw
          case rel => exact ⟨out', st2, p, HV, ⟨HT.out.1, HT.out.2.1⟩⟩
          case measure =>
            obtain ⟨A2, c2, e2, _⟩ := Kd.Q_slice (Kd.Q_of_R HV.out.1)
            have h1 := unseen_outT HV.out.2.1
            have h2 := HMS.out
            have h3 := HT.out.2.2
            have h5 := HUE.out
            subst e2
            show 2 * unseen (outT wi B) + (st2.map fun (n : Nat) => (n : Int)).length < 2 * unseen (outT wo B) + (m + 1)
            rw [h1, h2, List.length_map]
            omega
theorem spec_spreadFrom.calls (A0 : Option Addr) (c0 : Nat) (l0 : List Bool) (a1 : Int) (r : List Bool) (w : World) (hr0 : Kd.bool.C w A0 l0.length l0) (hc0 : l0.length ≤ c0) (h : spec_spreadFrom.f l0 a1 = some r) :
    Calls Try.prog 66 #[.slice A0 l0.length c0, .int .i64 a1] w fun e w' => ∃ v0_ : Value, e = .returned v0_ ∧ Kd.bool.R 4 w' w.heap.size (fun _ => True) v0_ r ∧ Below w.heap.size w w' := by
  unfold spec_spreadFrom.f at h
  by_cases hl : l0.length = 256 ∧ 0 ≤ a1 ∧ a1 < 256
  · rw [if_pos hl] at h
    obtain rfl := Option.some.inj h
    obtain ⟨hl, h0, h1⟩ := hl
    obtain ⟨s, rfl⟩ := Int.eq_ofNat_of_zero_le h0
    rw [hl] at hr0 hc0 ⊢
    rw [tab_of l0 hl] at hr0
    exact spread_calls A0 c0 _ s (by omega) w hr0 hc0
  · rw [if_neg hl] at h; cases h
end Go.Proofs.Ytbgohbinonkhfaa.Q
