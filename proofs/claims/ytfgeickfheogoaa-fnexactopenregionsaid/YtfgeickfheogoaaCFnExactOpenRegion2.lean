/- A part of the proof that the statement FnExactOpenRegionSaid holds, under no condition of its own: The program's OpenRegion and the reference's return the same, and what is returned is held by nobody else: over lists of numbers alone. -/
import Derived.Test.YtfgeickfheogoaaCFnExactOpenRegion1
import Derived.Deep.WholeRow
import Derived.Deep.RegionWith
import Derived.OrdersHeld
import Derived.Deep.RegionHeld
namespace Go.Proofs.Ytfgeickfheogoaa.Q
open Go.RowKit Go.Proofs.YtfgeickfheogoaaW.PrintWords Go.Proofs.YtfgeickfheogoaaW.PrintLast Go.Proofs.YtfgeickfheogoaaW.PrintMore
attribute [local go_sem] max2_int min2_int max_two min_two max_three min_three max_four min_four
set_option linter.unusedVariables false
set_option linter.unusedSimpArgs false
/-! ### impl_isRegion: function 55 -/
mutual
def impl_isRegion.l0 : Nat → List (S57) → List (S57) → Int → Int → Option (Bool)
  | 0, _, _, _, _ => none
  | k + 1, x0, x6, x7, x8 => if x8 < x7 then (if 0 ≤ x8 then (if x8 < (x6.length : Int) then (if ((rd_T57 x6 x8).f0) < 0 then (impl_isRegion.j1 k x0 x8 x6 x7 x8 true ((rd_T57 x6 x8).f0) ((rd_T57 x6 x8).f1) ((rd_T57 x6 x8).f2)) else (if ((rd_T57 x6 x8).f0) ≥ 16 then (impl_isRegion.j1 k x0 x8 x6 x7 x8 true ((rd_T57 x6 x8).f0) ((rd_T57 x6 x8).f1) ((rd_T57 x6 x8).f2)) else (if ((rd_T57 x6 x8).f1) < 0 then (impl_isRegion.j1 k x0 x8 x6 x7 x8 true ((rd_T57 x6 x8).f0) ((rd_T57 x6 x8).f1) ((rd_T57 x6 x8).f2)) else (if ((rd_T57 x6 x8).f2) ≤ ((rd_T57 x6 x8).f1) then (impl_isRegion.j1 k x0 x8 x6 x7 x8 true ((rd_T57 x6 x8).f0) ((rd_T57 x6 x8).f1) ((rd_T57 x6 x8).f2)) else (impl_isRegion.j1 k x0 x8 x6 x7 x8 (decide (((rd_T57 x6 x8).f2) > 16)) ((rd_T57 x6 x8).f0) ((rd_T57 x6 x8).f1) ((rd_T57 x6 x8).f2)))))) else (none)) else (none)) else (some true)
def impl_isRegion.j1 : Nat → List (S57) → Int → List (S57) → Int → Int → Bool → Int → Int → Int → Option (Bool)
  | 0, _, _, _, _, _, _, _, _, _ => none
  | k + 1, x0, x3, x6, x7, x8, x37, x56003000, x56003001, x56003002 => if x37 = true then (some false) else (if x3 = 0 then (impl_isRegion.l0 k x0 x6 x7 (wrap64 (x8 + 1))) else (if 0 ≤ (wrap64 (x3 - 1)) then (if (wrap64 (x3 - 1)) < (x0.length : Int) then (if x56003000 < ((rd_T57 x0 (wrap64 (x3 - 1))).f0) then (some false) else (if x56003000 = ((rd_T57 x0 (wrap64 (x3 - 1))).f0) then (if x56003001 ≤ ((rd_T57 x0 (wrap64 (x3 - 1))).f2) then (some false) else (impl_isRegion.l0 k x0 x6 x7 (wrap64 (x8 + 1)))) else (impl_isRegion.l0 k x0 x6 x7 (wrap64 (x8 + 1))))) else (none)) else (none)))
end
def impl_isRegion.f (k : Nat) (l0 : List (S57)) : Option (Bool) := impl_isRegion.l0 k l0 l0 (l0.length : Int) 0
theorem impl_isRegion.mono_l : ∀ k, (∀ y0 y1 y2 y3, LeO (impl_isRegion.l0 k y0 y1 y2 y3) (impl_isRegion.l0 (k + 1) y0 y1 y2 y3)) ∧ (∀ y0 y1 y2 y3 y4 y5 y6 y7 y8, LeO (impl_isRegion.j1 k y0 y1 y2 y3 y4 y5 y6 y7 y8) (impl_isRegion.j1 (k + 1) y0 y1 y2 y3 y4 y5 y6 y7 y8))
  | 0 => ⟨fun _ _ _ _ r h => by simp [impl_isRegion.l0] at h, fun _ _ _ _ _ _ _ _ _ r h => by simp [impl_isRegion.j1] at h⟩
  | k + 1 => by
    obtain ⟨ih0, ih1⟩ := impl_isRegion.mono_l k
    refine ⟨?_, ?_⟩
    · intro y0 y1 y2 y3
      unfold impl_isRegion.l0
      repeat' first
      | (with_reducible exact ih0 _ _ _ _)
      | (with_reducible exact ih1 _ _ _ _ _ _ _ _ _)
      | (with_reducible exact LeO.refl _)
      | (with_reducible exact LeO.none _)
      | (with_reducible refine LeO.ite ?_ ?_)
      | (with_reducible refine LeO.bind ?_ (fun _ => ?_))
      | exact ih0 _ _ _ _
      | exact ih1 _ _ _ _ _ _ _ _ _
      | exact LeO.none _
      | refine LeO.ite ?_ ?_
      | refine LeO.bind ?_ (fun _ => ?_)
    · intro y0 y1 y2 y3 y4 y5 y6 y7 y8
      unfold impl_isRegion.j1
      repeat' first
      | (with_reducible exact ih0 _ _ _ _)
      | (with_reducible exact ih1 _ _ _ _ _ _ _ _ _)
      | (with_reducible exact LeO.refl _)
      | (with_reducible exact LeO.none _)
      | (with_reducible refine LeO.ite ?_ ?_)
      | (with_reducible refine LeO.bind ?_ (fun _ => ?_))
      | exact ih0 _ _ _ _
      | exact ih1 _ _ _ _ _ _ _ _ _
      | exact LeO.none _
      | refine LeO.ite ?_ ?_
      | refine LeO.bind ?_ (fun _ => ?_)
theorem impl_isRegion.mono : ∀ a0 k, LeO (impl_isRegion.f k a0) (impl_isRegion.f (k + 1) a0) := by
  intro a0 k
  obtain ⟨ih0, ih1⟩ := impl_isRegion.mono_l k
  unfold impl_isRegion.f
  repeat' first
      | (with_reducible exact ih0 _ _ _ _)
      | (with_reducible exact ih1 _ _ _ _ _ _ _ _ _)
      | (with_reducible exact LeO.refl _)
      | (with_reducible exact LeO.none _)
      | (with_reducible refine LeO.ite ?_ ?_)
      | (with_reducible refine LeO.bind ?_ (fun _ => ?_))
      | exact ih0 _ _ _ _
      | exact ih1 _ _ _ _ _ _ _ _ _
      | exact LeO.none _
      | refine LeO.ite ?_ ?_
      | refine LeO.bind ?_ (fun _ => ?_)
set_option maxHeartbeats 8000000 in
set_option maxRecDepth 100000 in
theorem impl_isRegion.calls (k : Nat) (A0 : Option Addr) (c0 : Nat) (l0 : List (S57)) (r : Bool) (w : World) (hr0 : Kd.C k57 w A0 l0.length l0) (hc0 : l0.length ≤ c0) (h : impl_isRegion.f k l0 = some r) :
    Calls Try.prog 55 #[.slice A0 l0.length c0] w fun e w' => e = .returned (.bool r) ∧ Below w.heap.size w w' := by
  have hu57 := Try.underlying57
  have HR0 := Aside0.mk hr0
  have HC0 := Aside0.mk hc0
  clear hr0 hc0
  have HB := Aside0.mk (Below.refl w.heap.size w)
  have H : (impl_isRegion.l0 k l0 l0 (l0.length : Int) 0) = some r := h
  clear h
  have H' := Aside0.mk H
  clear H
  go_enter Try.func55, Try.ntmps55
  go_wp2
  go_loopg [8] k (fun kq v8 w' => ∃ (x8_1 : Int), v8 = .int .i64 x8_1 ∧ Aside0 (impl_isRegion.l0 kq l0 l0 (l0.length : Int) x8_1 = some r) ∧ Aside0 (kq ≤ k) ∧ Aside0 (Below w.heap.size w w'))
  case atStart => exact ⟨(0), (by first | rfl | (simp; done) | (simp [*]; done)), H', ⟨Nat.le_refl _⟩, ⟨by repeat (first | (with_reducible first | exact HB.out | apply below_alloc | apply pw_below_drewN | apply below_drew1) | exact HB.out)⟩⟩
  case round =>
    clear H'
    obtain ⟨x8_1, rfl, HA, HK1, HB⟩ := hrel
    cases gk with
    | zero => exact absurd HA.out (by simp [impl_isRegion.l0])
    | succ k1 =>
      have H := HA.out
      clear HA
      simp only [impl_isRegion.l0] at H
      by_cases c2 : x8_1 < (l0.length : Int)
      · rw [if_pos c2] at H
        have c2b0 : decide (x8_1 < (l0.length : Int)) = true := decide_eq_true c2
        clear c2
        by_cases c3 : 0 ≤ x8_1
        · rw [if_pos c3] at H
          have c3b0 : decide (0 ≤ x8_1) = true := decide_eq_true c3
          clear c3
          by_cases c4 : x8_1 < (l0.length : Int)
          · rw [if_pos c4] at H
            have c4b0 : decide (x8_1 < (l0.length : Int)) = true := decide_eq_true c4
            clear c4
            have HC5 := Aside0.mk H
            clear H
            have p56001 : 0 ≤ (x8_1 : Int) := of_decide_eq_true (by first | (with_reducible assumption) | assumption)
            have q56001 : x8_1 < (l0.length : Int) := of_decide_eq_true (by first | (with_reducible assumption) | assumption)
            obtain ⟨ad56001, e56001, hx56001_0, hx56001_1, hx56001_2⟩ := at_T57 HR0.out x8_1 p56001 q56001
            cases e56001
            replace hx56001_0 := (HB.out.cell (World.block_lt_of_cell? w _ hx56001_0)).trans hx56001_0
            replace hx56001_1 := (HB.out.cell (World.block_lt_of_cell? w _ hx56001_1)).trans hx56001_1
            replace hx56001_2 := (HB.out.cell (World.block_lt_of_cell? w _ hx56001_2)).trans hx56001_2
            replace p56001 := eq_true p56001
            replace q56001 := eq_true q56001
            go_upto_region 4 with (first | ((with_reducible refine gate_dst (N := 4) rfl ?_); refine box_event ?hg (N := 4) ?hd (cs := #[.int .i64 0, .int .i64 0, .int .i64 0]) (t := 57) ?hr ?_; (case hd => rfl); (case hg => rfl); (case hr => first | (go_simp; done) | (go_simp; rfl)); intro gb56002 hg w6 hbox hb; have n0_ := Aside0.mk (below_step (by repeat (first | (with_reducible first | exact HB.out | apply below_alloc | apply pw_below_drewN | apply below_drew1) | exact HB.out)) hb); have n1_ := Aside0.mk (hbox); have n2_ := Aside0.mk ((by rw [hg]; exact (below_size (by repeat (first | (with_reducible first | exact HB.out | apply below_alloc | apply pw_below_drewN | apply below_drew1) | exact HB.out))) : w.heap.size ≤ gb56002)); have n3_ := Aside0.mk ((by rw [hg]; exact (below_size (by repeat (first | (with_reducible first | exact HB.out | apply below_alloc | apply pw_below_drewN | apply below_drew1) | exact HB.out))) : w.heap.size ≤ gb56002)); clear HB; have HB := n0_; have BK56002 := n1_; have GW56002 := n2_; have GE56002 := n3_; clear n0_ n1_ n2_ n3_; clear hb hbox hg; have hcz7_0 : w6.cell? ⟨gb56002, 0, none⟩ = some (.int .i64 0) := (blk_cell BK56002.out 0).trans rfl; have hcz7_1 : w6.cell? ⟨gb56002, 1, none⟩ = some (.int .i64 0) := (blk_cell BK56002.out 1).trans rfl; have hcz7_2 : w6.cell? ⟨gb56002, 2, none⟩ = some (.int .i64 0) := (blk_cell BK56002.out 2).trans rfl; have hfz7_0 := blk_frozen BK56002.out 0; have hfz7_1 := blk_frozen BK56002.out 1; have hfz7_2 := blk_frozen BK56002.out 2))
            (try simp only [Act.put, List.setIfInBounds_toArray, List.set_cons_zero, List.set_cons_succ])
            go_cut [37] (fun v37 wc => ∃ (kq : Nat) (x37_4 : Bool), v37 = .bool x37_4 ∧ Aside0 (impl_isRegion.j1 kq l0 x8_1 l0 (l0.length : Int) x8_1 x37_4 ((rd_T57 l0 x8_1).f0) ((rd_T57 l0 x8_1).f1) ((rd_T57 l0 x8_1).f2) = some r) ∧ Aside0 (kq ≤ k1) ∧ Aside0 (wc.heap[gb56002]? = some (.cells #[.int .i64 ((rd_T57 l0 x8_1).f0), .int .i64 ((rd_T57 l0 x8_1).f1), .int .i64 ((rd_T57 l0 x8_1).f2)] 57 (0, 0))) ∧ Aside0 (Below w.heap.size w wc))
            case first =>
              have H := HC5.out
              clear HC5
              by_cases c8 : ((rd_T57 l0 x8_1).f0) < 0
              · rw [if_pos c8] at H
                have c8b0 : decide (((rd_T57 l0 x8_1).f0) < 0) = true := decide_eq_true c8
                clear c8
                (first | rw [c8b0] | (simp only [i64_w, i32_w]; rw [c8b0]) | skip)
                have H' := Aside0.mk H
                clear H
                have hcz9_0 : w6.cell? ⟨gb56002, 0, none⟩ = some (.int .i64 0) := (blk_cell BK56002.out 0).trans rfl
                have hcz9_1 : w6.cell? ⟨gb56002, 1, none⟩ = some (.int .i64 0) := (blk_cell BK56002.out 1).trans rfl
                have hcz9_2 : w6.cell? ⟨gb56002, 2, none⟩ = some (.int .i64 0) := (blk_cell BK56002.out 2).trans rfl
                have hfz9_0 := blk_frozen BK56002.out 0
                have hfz9_1 := blk_frozen BK56002.out 1
                have hfz9_2 := blk_frozen BK56002.out 2
                go_wp2
                go_meet
                case rel => exact ⟨_, (true), (by first | rfl | (simp; done) | (simp [*]; done)), H', ⟨by have := HK1.out; first | omega | exact Nat.le_refl _⟩, ⟨by (with_reducible repeat (first | refine blk_drewN ?_ _ | refine blk_drew ?_ | refine blk_alloc ?_ _)); refine blk_put (cs := #[.int .i64 ((rd_T57 l0 x8_1).f0), .int .i64 ((rd_T57 l0 x8_1).f1), .int .i64 0]) ?_ 2 _ rfl; (with_reducible repeat (first | refine blk_drewN ?_ _ | refine blk_drew ?_ | refine blk_alloc ?_ _)); refine blk_put (cs := #[.int .i64 ((rd_T57 l0 x8_1).f0), .int .i64 0, .int .i64 0]) ?_ 1 _ rfl; (with_reducible repeat (first | refine blk_drewN ?_ _ | refine blk_drew ?_ | refine blk_alloc ?_ _)); refine blk_put (cs := #[.int .i64 0, .int .i64 0, .int .i64 0]) ?_ 0 _ rfl; (with_reducible repeat (first | refine blk_drewN ?_ _ | refine blk_drew ?_ | refine blk_alloc ?_ _)); exact BK56002.out⟩, ⟨by repeat (first | (with_reducible first | exact HB.out | apply below_alloc | apply pw_below_drewN | apply below_drew1 | refine below_set ?_ GE56002.out) | exact HB.out)⟩⟩
              · rw [if_neg c8] at H
                have c8b0 : decide (((rd_T57 l0 x8_1).f0) < 0) = false := decide_eq_false c8
                clear c8
                (first | rw [c8b0] | (simp only [i64_w, i32_w]; rw [c8b0]) | skip)
                by_cases c10 : ((rd_T57 l0 x8_1).f0) ≥ 16
                · rw [if_pos c10] at H
                  have c10b0 : decide (16 ≤ ((rd_T57 l0 x8_1).f0)) = true := decide_eq_true c10
                  clear c10
                  have H' := Aside0.mk H
                  clear H
                  have hcz11_0 : w6.cell? ⟨gb56002, 0, none⟩ = some (.int .i64 0) := (blk_cell BK56002.out 0).trans rfl
                  have hcz11_1 : w6.cell? ⟨gb56002, 1, none⟩ = some (.int .i64 0) := (blk_cell BK56002.out 1).trans rfl
                  have hcz11_2 : w6.cell? ⟨gb56002, 2, none⟩ = some (.int .i64 0) := (blk_cell BK56002.out 2).trans rfl
                  have hfz11_0 := blk_frozen BK56002.out 0
                  have hfz11_1 := blk_frozen BK56002.out 1
                  have hfz11_2 := blk_frozen BK56002.out 2
                  go_wp2
                  go_meet
                  case rel => exact ⟨_, (true), (by first | rfl | (simp; done) | (simp [*]; done)), H', ⟨by have := HK1.out; first | omega | exact Nat.le_refl _⟩, ⟨by (with_reducible repeat (first | refine blk_drewN ?_ _ | refine blk_drew ?_ | refine blk_alloc ?_ _)); refine blk_put (cs := #[.int .i64 ((rd_T57 l0 x8_1).f0), .int .i64 ((rd_T57 l0 x8_1).f1), .int .i64 0]) ?_ 2 _ rfl; (with_reducible repeat (first | refine blk_drewN ?_ _ | refine blk_drew ?_ | refine blk_alloc ?_ _)); refine blk_put (cs := #[.int .i64 ((rd_T57 l0 x8_1).f0), .int .i64 0, .int .i64 0]) ?_ 1 _ rfl; (with_reducible repeat (first | refine blk_drewN ?_ _ | refine blk_drew ?_ | refine blk_alloc ?_ _)); refine blk_put (cs := #[.int .i64 0, .int .i64 0, .int .i64 0]) ?_ 0 _ rfl; (with_reducible repeat (first | refine blk_drewN ?_ _ | refine blk_drew ?_ | refine blk_alloc ?_ _)); exact BK56002.out⟩, ⟨by repeat (first | (with_reducible first | exact HB.out | apply below_alloc | apply pw_below_drewN | apply below_drew1 | refine below_set ?_ GE56002.out) | exact HB.out)⟩⟩
                · rw [if_neg c10] at H
                  have c10b0 : decide (16 ≤ ((rd_T57 l0 x8_1).f0)) = false := decide_eq_false c10
                  clear c10
                  by_cases c12 : ((rd_T57 l0 x8_1).f1) < 0
                  · rw [if_pos c12] at H
                    have c12b0 : decide (((rd_T57 l0 x8_1).f1) < 0) = true := decide_eq_true c12
                    clear c12
                    have H' := Aside0.mk H
                    clear H
                    have hcz13_0 : w6.cell? ⟨gb56002, 0, none⟩ = some (.int .i64 0) := (blk_cell BK56002.out 0).trans rfl
                    have hcz13_1 : w6.cell? ⟨gb56002, 1, none⟩ = some (.int .i64 0) := (blk_cell BK56002.out 1).trans rfl
                    have hcz13_2 : w6.cell? ⟨gb56002, 2, none⟩ = some (.int .i64 0) := (blk_cell BK56002.out 2).trans rfl
                    have hfz13_0 := blk_frozen BK56002.out 0
                    have hfz13_1 := blk_frozen BK56002.out 1
                    have hfz13_2 := blk_frozen BK56002.out 2
                    go_wp2
                    go_meet
                    case rel => exact ⟨_, (true), (by first | rfl | (simp; done) | (simp [*]; done)), H', ⟨by have := HK1.out; first | omega | exact Nat.le_refl _⟩, ⟨by (with_reducible repeat (first | refine blk_drewN ?_ _ | refine blk_drew ?_ | refine blk_alloc ?_ _)); refine blk_put (cs := #[.int .i64 ((rd_T57 l0 x8_1).f0), .int .i64 ((rd_T57 l0 x8_1).f1), .int .i64 0]) ?_ 2 _ rfl; (with_reducible repeat (first | refine blk_drewN ?_ _ | refine blk_drew ?_ | refine blk_alloc ?_ _)); refine blk_put (cs := #[.int .i64 ((rd_T57 l0 x8_1).f0), .int .i64 0, .int .i64 0]) ?_ 1 _ rfl; (with_reducible repeat (first | refine blk_drewN ?_ _ | refine blk_drew ?_ | refine blk_alloc ?_ _)); refine blk_put (cs := #[.int .i64 0, .int .i64 0, .int .i64 0]) ?_ 0 _ rfl; (with_reducible repeat (first | refine blk_drewN ?_ _ | refine blk_drew ?_ | refine blk_alloc ?_ _)); exact BK56002.out⟩, ⟨by repeat (first | (with_reducible first | exact HB.out | apply below_alloc | apply pw_below_drewN | apply below_drew1 | refine below_set ?_ GE56002.out) | exact HB.out)⟩⟩
                  · rw [if_neg c12] at H
                    have c12b0 : decide (((rd_T57 l0 x8_1).f1) < 0) = false := decide_eq_false c12
                    clear c12
                    by_cases c14 : ((rd_T57 l0 x8_1).f2) ≤ ((rd_T57 l0 x8_1).f1)
                    · rw [if_pos c14] at H
                      have c14b0 : decide (((rd_T57 l0 x8_1).f2) ≤ ((rd_T57 l0 x8_1).f1)) = true := decide_eq_true c14
                      clear c14
                      have H' := Aside0.mk H
                      clear H
                      have hcz15_0 : w6.cell? ⟨gb56002, 0, none⟩ = some (.int .i64 0) := (blk_cell BK56002.out 0).trans rfl
                      have hcz15_1 : w6.cell? ⟨gb56002, 1, none⟩ = some (.int .i64 0) := (blk_cell BK56002.out 1).trans rfl
                      have hcz15_2 : w6.cell? ⟨gb56002, 2, none⟩ = some (.int .i64 0) := (blk_cell BK56002.out 2).trans rfl
                      have hfz15_0 := blk_frozen BK56002.out 0
                      have hfz15_1 := blk_frozen BK56002.out 1
                      have hfz15_2 := blk_frozen BK56002.out 2
                      go_wp2
                      go_meet
                      case rel => exact ⟨_, (true), (by first | rfl | (simp; done) | (simp [*]; done)), H', ⟨by have := HK1.out; first | omega | exact Nat.le_refl _⟩, ⟨by (with_reducible repeat (first | refine blk_drewN ?_ _ | refine blk_drew ?_ | refine blk_alloc ?_ _)); refine blk_put (cs := #[.int .i64 ((rd_T57 l0 x8_1).f0), .int .i64 ((rd_T57 l0 x8_1).f1), .int .i64 0]) ?_ 2 _ rfl; (with_reducible repeat (first | refine blk_drewN ?_ _ | refine blk_drew ?_ | refine blk_alloc ?_ _)); refine blk_put (cs := #[.int .i64 ((rd_T57 l0 x8_1).f0), .int .i64 0, .int .i64 0]) ?_ 1 _ rfl; (with_reducible repeat (first | refine blk_drewN ?_ _ | refine blk_drew ?_ | refine blk_alloc ?_ _)); refine blk_put (cs := #[.int .i64 0, .int .i64 0, .int .i64 0]) ?_ 0 _ rfl; (with_reducible repeat (first | refine blk_drewN ?_ _ | refine blk_drew ?_ | refine blk_alloc ?_ _)); exact BK56002.out⟩, ⟨by repeat (first | (with_reducible first | exact HB.out | apply below_alloc | apply pw_below_drewN | apply below_drew1 | refine below_set ?_ GE56002.out) | exact HB.out)⟩⟩
                    · rw [if_neg c14] at H
                      have c14b0 : decide (((rd_T57 l0 x8_1).f2) ≤ ((rd_T57 l0 x8_1).f1)) = false := decide_eq_false c14
                      clear c14
                      have H' := Aside0.mk H
                      clear H
                      have hcz16_0 : w6.cell? ⟨gb56002, 0, none⟩ = some (.int .i64 0) := (blk_cell BK56002.out 0).trans rfl
                      have hcz16_1 : w6.cell? ⟨gb56002, 1, none⟩ = some (.int .i64 0) := (blk_cell BK56002.out 1).trans rfl
                      have hcz16_2 : w6.cell? ⟨gb56002, 2, none⟩ = some (.int .i64 0) := (blk_cell BK56002.out 2).trans rfl
                      have hfz16_0 := blk_frozen BK56002.out 0
                      have hfz16_1 := blk_frozen BK56002.out 1
                      have hfz16_2 := blk_frozen BK56002.out 2
                      go_wp2
                      go_meet
                      case rel => exact ⟨_, (decide (((rd_T57 l0 x8_1).f2) > 16)), (by first | rfl | (simp; done) | (simp [*]; done)), H', ⟨by have := HK1.out; first | omega | exact Nat.le_refl _⟩, ⟨by (with_reducible repeat (first | refine blk_drewN ?_ _ | refine blk_drew ?_ | refine blk_alloc ?_ _)); refine blk_put (cs := #[.int .i64 ((rd_T57 l0 x8_1).f0), .int .i64 ((rd_T57 l0 x8_1).f1), .int .i64 0]) ?_ 2 _ rfl; (with_reducible repeat (first | refine blk_drewN ?_ _ | refine blk_drew ?_ | refine blk_alloc ?_ _)); refine blk_put (cs := #[.int .i64 ((rd_T57 l0 x8_1).f0), .int .i64 0, .int .i64 0]) ?_ 1 _ rfl; (with_reducible repeat (first | refine blk_drewN ?_ _ | refine blk_drew ?_ | refine blk_alloc ?_ _)); refine blk_put (cs := #[.int .i64 0, .int .i64 0, .int .i64 0]) ?_ 0 _ rfl; (with_reducible repeat (first | refine blk_drewN ?_ _ | refine blk_drew ?_ | refine blk_alloc ?_ _)); exact BK56002.out⟩, ⟨by repeat (first | (with_reducible first | exact HB.out | apply below_alloc | apply pw_below_drewN | apply below_drew1 | refine below_set ?_ GE56002.out) | exact HB.out)⟩⟩
            case rest =>
              clear HC5
              try clear c1
              try clear c2
              try clear c2b0
              try clear p2
              try clear c3
              try clear c3b0
              try clear c4
              try clear c4b0
              try clear c5
              try clear p5
              try clear q5
              try clear hx5
              try clear c8
              try clear c8b0
              try clear c10
              try clear c10b0
              try clear c12
              try clear c12b0
              try clear c14
              try clear c14b0
              try clear hcz11_0
              try clear hcz11_1
              try clear hcz11_2
              try clear hcz13_0
              try clear hcz13_1
              try clear hcz13_2
              try clear hcz15_0
              try clear hcz15_1
              try clear hcz15_2
              try clear hcz16_0
              try clear hcz16_1
              try clear hcz16_2
              try clear hcz7_0
              try clear hcz7_1
              try clear hcz7_2
              try clear hcz9_0
              try clear hcz9_1
              try clear hcz9_2
              try clear hfz11_0
              try clear hfz11_1
              try clear hfz11_2
              try clear hfz13_0
              try clear hfz13_1
              try clear hfz13_2
              try clear hfz15_0
              try clear hfz15_1
              try clear hfz15_2
              try clear hfz16_0
              try clear hfz16_1
              try clear hfz16_2
              try clear hfz7_0
              try clear hfz7_1
              try clear hfz7_2
              try clear hfz9_0
              try clear hfz9_1
              try clear hfz9_2
              try clear hx56001_0
              try clear hx56001_1
              try clear hx56001_2
              try clear p56001
              try clear q56001
              obtain ⟨kq, x37_4, rfl, HA, HJ4, BK56002, HB⟩ := hcut
              cases kq with
              | zero => exact absurd HA.out (by simp [impl_isRegion.j1])
              | succ kj4 =>
                have H := HA.out
                clear HA
                simp only [impl_isRegion.j1] at H
                by_cases c17 : x37_4 = true
                · subst c17
                  have H1 : (some false) = some r := by rw [if_pos rfl] at H; exact H
                  clear H
                  have H := H1
                  clear H1
                  obtain rfl := Option.some.inj H
                  go_wp2
                  go_ret
                  exact ⟨by first | rfl | (simp [errW_none, errW_some] <;> rfl) | (simp [*, errW_none, errW_some] <;> rfl), by repeat (first | (with_reducible first | exact HB.out | apply below_alloc | apply pw_below_drewN | apply below_drew1 | refine below_set ?_ GE56002.out) | exact HB.out)⟩
                · replace c17 := Bool.eq_false_iff.mpr c17
                  subst c17
                  have H1 : (if x8_1 = 0 then (impl_isRegion.l0 kj4 l0 l0 (l0.length : Int) (wrap64 (x8_1 + 1))) else (if 0 ≤ (wrap64 (x8_1 - 1)) then (if (wrap64 (x8_1 - 1)) < (l0.length : Int) then (if ((rd_T57 l0 x8_1).f0) < ((rd_T57 l0 (wrap64 (x8_1 - 1))).f0) then (some false) else (if ((rd_T57 l0 x8_1).f0) = ((rd_T57 l0 (wrap64 (x8_1 - 1))).f0) then (if ((rd_T57 l0 x8_1).f1) ≤ ((rd_T57 l0 (wrap64 (x8_1 - 1))).f2) then (some false) else (impl_isRegion.l0 kj4 l0 l0 (l0.length : Int) (wrap64 (x8_1 + 1)))) else (impl_isRegion.l0 kj4 l0 l0 (l0.length : Int) (wrap64 (x8_1 + 1))))) else (none)) else (none))) = some r := by rw [if_neg (show ¬ (false = true) by decide)] at H; exact H
                  clear H
                  have H := H1
                  clear H1
                  by_cases c18 : x8_1 = 0
                  · rw [if_pos c18] at H
                    have c18b0 : (x8_1 == 0) = true := beq_iff_eq.mpr c18
                    have c18b1 : (x8_1 != 0) = false := bne_eq_false_iff_eq.mpr c18
                    clear c18
                    have H' := Aside0.mk H
                    clear H
                    go_wp2
                    go_roundg kj4
                    case measure => have := HK1.out; have := HJ4.out; omega
                    case rel => exact ⟨(wrap64 (x8_1 + 1)), (by first | rfl | (simp; done) | (simp [*]; done)), H', ⟨by have := HK1.out; have := HJ4.out; omega⟩, ⟨by repeat (first | (with_reducible first | exact HB.out | apply below_alloc | apply pw_below_drewN | apply below_drew1 | refine below_set ?_ GE56002.out) | exact HB.out)⟩⟩
                  · rw [if_neg c18] at H
                    have c18b0 : (x8_1 == 0) = false := beq_eq_false_iff_ne.mpr c18
                    have c18b1 : (x8_1 != 0) = true := bne_iff_ne.mpr c18
                    obtain ⟨ji19, hji19⟩ : ∃ j_ : Int, (wrap64 (x8_1 - 1)) = j_ := ⟨_, rfl⟩
                    replace H : (if 0 ≤ (ji19) then (if (ji19) < (l0.length : Int) then (if ((rd_T57 l0 x8_1).f0) < ((rd_T57 l0 (ji19)).f0) then (some false) else (if ((rd_T57 l0 x8_1).f0) = ((rd_T57 l0 (ji19)).f0) then (if ((rd_T57 l0 x8_1).f1) ≤ ((rd_T57 l0 (ji19)).f2) then (some false) else (impl_isRegion.l0 kj4 l0 l0 (l0.length : Int) (wrap64 (x8_1 + 1)))) else (impl_isRegion.l0 kj4 l0 l0 (l0.length : Int) (wrap64 (x8_1 + 1))))) else (none)) else (none)) = some r := by first | (rw [hji19] at H; exact H) | (simp only [hji19] at H ⊢; exact H)
                    have hji19w : (IntKind.i64.wrap (x8_1 - 1)) = ji19 := (i64_w _).trans hji19
                    by_cases c20 : 0 ≤ (ji19)
                    · rw [if_pos c20] at H
                      have c20b0 : decide (0 ≤ (ji19)) = true := decide_eq_true c20
                      clear c20
                      by_cases c21 : (ji19) < (l0.length : Int)
                      · rw [if_pos c21] at H
                        have c21b0 : decide ((ji19) < (l0.length : Int)) = true := decide_eq_true c21
                        clear c21
                        by_cases c22 : ((rd_T57 l0 x8_1).f0) < ((rd_T57 l0 (ji19)).f0)
                        · rw [if_pos c22] at H
                          have c22b0 : decide (((rd_T57 l0 x8_1).f0) < ((rd_T57 l0 (ji19)).f0)) = true := decide_eq_true c22
                          clear c22
                          obtain rfl := Option.some.inj H
                          have p56003 : 0 ≤ ((ji19) : Int) := of_decide_eq_true (by first | (with_reducible assumption) | assumption)
                          have q56003 : (ji19) < (l0.length : Int) := of_decide_eq_true (by first | (with_reducible assumption) | assumption)
                          obtain ⟨ad56003, e56003, hx56003_0, hx56003_1, hx56003_2⟩ := at_T57 HR0.out (ji19) p56003 q56003
                          obtain rfl : ad56001 = ad56003 := (by injection e56003)
                          replace hx56003_0 := (HB.out.cell (World.block_lt_of_cell? w _ hx56003_0)).trans hx56003_0
                          replace hx56003_1 := (HB.out.cell (World.block_lt_of_cell? w _ hx56003_1)).trans hx56003_1
                          replace hx56003_2 := (HB.out.cell (World.block_lt_of_cell? w _ hx56003_2)).trans hx56003_2
                          replace p56003 := eq_true p56003
                          replace q56003 := eq_true q56003
                          go_wp2_with (first | ((with_reducible refine gate_dst (N := 5) rfl ?_); refine box_event ?hg (N := 5) ?hd (cs := #[.int .i64 0, .int .i64 0, .int .i64 0]) (t := 57) ?hr ?_; (case hd => rfl); (case hg => rfl); (case hr => first | (go_simp; done) | (go_simp; rfl)); intro gb56004 hg w23 hbox hb; have n0_ := Aside0.mk (blk_below (g := gb56002) (o := .cells #[.int .i64 ((rd_T57 l0 x8_1).f0), .int .i64 ((rd_T57 l0 x8_1).f1), .int .i64 ((rd_T57 l0 x8_1).f2)] 57 (0, 0)) (by (with_reducible repeat (first | refine blk_drewN ?_ _ | refine blk_drew ?_ | refine blk_alloc ?_ _)); exact BK56002.out) hb); have n1_ := Aside0.mk (below_step (by repeat (first | (with_reducible first | exact HB.out | apply below_alloc | apply pw_below_drewN | apply below_drew1 | refine below_set ?_ GE56002.out) | exact HB.out)) hb); have n2_ := Aside0.mk (hbox); have n3_ := Aside0.mk ((by rw [hg]; exact (below_size (by repeat (first | (with_reducible first | exact HB.out | apply below_alloc | apply pw_below_drewN | apply below_drew1 | refine below_set ?_ GE56002.out) | exact HB.out))) : w.heap.size ≤ gb56004)); have n4_ := Aside0.mk ((by rw [hg]; exact (below_size (by repeat (first | (with_reducible first | exact HB.out | apply below_alloc | apply pw_below_drewN | apply below_drew1 | refine below_set ?_ GE56002.out) | exact HB.out))) : w.heap.size ≤ gb56004)); have n5_ := Aside0.mk ((by rw [hg]; exact Nat.ne_of_lt (blk_lt (g := gb56002) (o := .cells #[.int .i64 ((rd_T57 l0 x8_1).f0), .int .i64 ((rd_T57 l0 x8_1).f1), .int .i64 ((rd_T57 l0 x8_1).f2)] 57 (0, 0)) (by (with_reducible repeat (first | refine blk_drewN ?_ _ | refine blk_drew ?_ | refine blk_alloc ?_ _)); exact BK56002.out)) : gb56002 ≠ gb56004)); have n6_ := Aside0.mk ((by rw [hg]; exact Nat.ne_of_gt (blk_lt (g := gb56002) (o := .cells #[.int .i64 ((rd_T57 l0 x8_1).f0), .int .i64 ((rd_T57 l0 x8_1).f1), .int .i64 ((rd_T57 l0 x8_1).f2)] 57 (0, 0)) (by (with_reducible repeat (first | refine blk_drewN ?_ _ | refine blk_drew ?_ | refine blk_alloc ?_ _)); exact BK56002.out)) : gb56004 ≠ gb56002)); clear BK56002; clear HB; have BK56002 := n0_; have HB := n1_; have BK56004 := n2_; have GW56004 := n3_; have GE56004 := n4_; have NB56002_56004 := n5_; have NB56004_56002 := n6_; clear n0_ n1_ n2_ n3_ n4_ n5_ n6_; clear hb hbox hg; have hnb24 := NB56004_56002.out; have hnc24 := NB56002_56004.out; have hcz25_0 : w23.cell? ⟨gb56004, 0, none⟩ = some (.int .i64 0) := (blk_cell BK56004.out 0).trans rfl; have hcz25_1 : w23.cell? ⟨gb56004, 1, none⟩ = some (.int .i64 0) := (blk_cell BK56004.out 1).trans rfl; have hcz25_2 : w23.cell? ⟨gb56004, 2, none⟩ = some (.int .i64 0) := (blk_cell BK56004.out 2).trans rfl; have hfz25_0 := blk_frozen BK56004.out 0; have hfz25_1 := blk_frozen BK56004.out 1; have hfz25_2 := blk_frozen BK56004.out 2; have hcz26_0 : w23.cell? ⟨gb56002, 0, none⟩ = some (.int .i64 ((rd_T57 l0 x8_1).f0)) := (blk_cell BK56002.out 0).trans rfl; have hcz26_1 : w23.cell? ⟨gb56002, 1, none⟩ = some (.int .i64 ((rd_T57 l0 x8_1).f1)) := (blk_cell BK56002.out 1).trans rfl; have hcz26_2 : w23.cell? ⟨gb56002, 2, none⟩ = some (.int .i64 ((rd_T57 l0 x8_1).f2)) := (blk_cell BK56002.out 2).trans rfl; have hfz26_0 := blk_frozen BK56002.out 0; have hfz26_1 := blk_frozen BK56002.out 1; have hfz26_2 := blk_frozen BK56002.out 2))
                          go_ret
                          exact ⟨by first | rfl | (simp [errW_none, errW_some] <;> rfl) | (simp only [← hji19]; first | rfl | (simp [errW_none, errW_some] <;> rfl)) | (simp [*, errW_none, errW_some] <;> rfl), by repeat (first | (with_reducible first | exact HB.out | apply below_alloc | apply pw_below_drewN | apply below_drew1 | refine below_set ?_ GE56002.out | refine below_set ?_ GE56004.out) | exact HB.out)⟩
                        · rw [if_neg c22] at H
                          have c22b0 : decide (((rd_T57 l0 x8_1).f0) < ((rd_T57 l0 (ji19)).f0)) = false := decide_eq_false c22
                          clear c22
                          by_cases c27 : ((rd_T57 l0 x8_1).f0) = ((rd_T57 l0 (ji19)).f0)
                          · rw [if_pos c27] at H
                            have c27b0 : (((rd_T57 l0 x8_1).f0) == ((rd_T57 l0 (ji19)).f0)) = true := beq_iff_eq.mpr c27
                            have c27b1 : (((rd_T57 l0 x8_1).f0) != ((rd_T57 l0 (ji19)).f0)) = false := bne_eq_false_iff_eq.mpr c27
                            clear c27
                            by_cases c28 : ((rd_T57 l0 x8_1).f1) ≤ ((rd_T57 l0 (ji19)).f2)
                            · rw [if_pos c28] at H
                              have c28b0 : decide (((rd_T57 l0 x8_1).f1) ≤ ((rd_T57 l0 (ji19)).f2)) = true := decide_eq_true c28
                              clear c28
                              obtain rfl := Option.some.inj H
                              have p56003 : 0 ≤ ((ji19) : Int) := of_decide_eq_true (by first | (with_reducible assumption) | assumption)
                              have q56003 : (ji19) < (l0.length : Int) := of_decide_eq_true (by first | (with_reducible assumption) | assumption)
                              obtain ⟨ad56003, e56003, hx56003_0, hx56003_1, hx56003_2⟩ := at_T57 HR0.out (ji19) p56003 q56003
                              obtain rfl : ad56001 = ad56003 := (by injection e56003)
                              replace hx56003_0 := (HB.out.cell (World.block_lt_of_cell? w _ hx56003_0)).trans hx56003_0
                              replace hx56003_1 := (HB.out.cell (World.block_lt_of_cell? w _ hx56003_1)).trans hx56003_1
                              replace hx56003_2 := (HB.out.cell (World.block_lt_of_cell? w _ hx56003_2)).trans hx56003_2
                              replace p56003 := eq_true p56003
                              replace q56003 := eq_true q56003
                              go_wp2_with (first | ((with_reducible refine gate_dst (N := 5) rfl ?_); refine box_event ?hg (N := 5) ?hd (cs := #[.int .i64 0, .int .i64 0, .int .i64 0]) (t := 57) ?hr ?_; (case hd => rfl); (case hg => rfl); (case hr => first | (go_simp; done) | (go_simp; rfl)); intro gb56004 hg w29 hbox hb; have n0_ := Aside0.mk (blk_below (g := gb56002) (o := .cells #[.int .i64 ((rd_T57 l0 x8_1).f0), .int .i64 ((rd_T57 l0 x8_1).f1), .int .i64 ((rd_T57 l0 x8_1).f2)] 57 (0, 0)) (by (with_reducible repeat (first | refine blk_drewN ?_ _ | refine blk_drew ?_ | refine blk_alloc ?_ _)); exact BK56002.out) hb); have n1_ := Aside0.mk (below_step (by repeat (first | (with_reducible first | exact HB.out | apply below_alloc | apply pw_below_drewN | apply below_drew1 | refine below_set ?_ GE56002.out) | exact HB.out)) hb); have n2_ := Aside0.mk (hbox); have n3_ := Aside0.mk ((by rw [hg]; exact (below_size (by repeat (first | (with_reducible first | exact HB.out | apply below_alloc | apply pw_below_drewN | apply below_drew1 | refine below_set ?_ GE56002.out) | exact HB.out))) : w.heap.size ≤ gb56004)); have n4_ := Aside0.mk ((by rw [hg]; exact (below_size (by repeat (first | (with_reducible first | exact HB.out | apply below_alloc | apply pw_below_drewN | apply below_drew1 | refine below_set ?_ GE56002.out) | exact HB.out))) : w.heap.size ≤ gb56004)); have n5_ := Aside0.mk ((by rw [hg]; exact Nat.ne_of_lt (blk_lt (g := gb56002) (o := .cells #[.int .i64 ((rd_T57 l0 x8_1).f0), .int .i64 ((rd_T57 l0 x8_1).f1), .int .i64 ((rd_T57 l0 x8_1).f2)] 57 (0, 0)) (by (with_reducible repeat (first | refine blk_drewN ?_ _ | refine blk_drew ?_ | refine blk_alloc ?_ _)); exact BK56002.out)) : gb56002 ≠ gb56004)); have n6_ := Aside0.mk ((by rw [hg]; exact Nat.ne_of_gt (blk_lt (g := gb56002) (o := .cells #[.int .i64 ((rd_T57 l0 x8_1).f0), .int .i64 ((rd_T57 l0 x8_1).f1), .int .i64 ((rd_T57 l0 x8_1).f2)] 57 (0, 0)) (by (with_reducible repeat (first | refine blk_drewN ?_ _ | refine blk_drew ?_ | refine blk_alloc ?_ _)); exact BK56002.out)) : gb56004 ≠ gb56002)); clear BK56002; clear HB; have BK56002 := n0_; have HB := n1_; have BK56004 := n2_; have GW56004 := n3_; have GE56004 := n4_; have NB56002_56004 := n5_; have NB56004_56002 := n6_; clear n0_ n1_ n2_ n3_ n4_ n5_ n6_; clear hb hbox hg; have hnb30 := NB56004_56002.out; have hnc30 := NB56002_56004.out; have hcz31_0 : w29.cell? ⟨gb56004, 0, none⟩ = some (.int .i64 0) := (blk_cell BK56004.out 0).trans rfl; have hcz31_1 : w29.cell? ⟨gb56004, 1, none⟩ = some (.int .i64 0) := (blk_cell BK56004.out 1).trans rfl; have hcz31_2 : w29.cell? ⟨gb56004, 2, none⟩ = some (.int .i64 0) := (blk_cell BK56004.out 2).trans rfl; have hfz31_0 := blk_frozen BK56004.out 0; have hfz31_1 := blk_frozen BK56004.out 1; have hfz31_2 := blk_frozen BK56004.out 2; have hcz32_0 : w29.cell? ⟨gb56002, 0, none⟩ = some (.int .i64 ((rd_T57 l0 x8_1).f0)) := (blk_cell BK56002.out 0).trans rfl; have hcz32_1 : w29.cell? ⟨gb56002, 1, none⟩ = some (.int .i64 ((rd_T57 l0 x8_1).f1)) := (blk_cell BK56002.out 1).trans rfl; have hcz32_2 : w29.cell? ⟨gb56002, 2, none⟩ = some (.int .i64 ((rd_T57 l0 x8_1).f2)) := (blk_cell BK56002.out 2).trans rfl; have hfz32_0 := blk_frozen BK56002.out 0; have hfz32_1 := blk_frozen BK56002.out 1; have hfz32_2 := blk_frozen BK56002.out 2))
                              go_ret
                              exact ⟨by first | rfl | (simp [errW_none, errW_some] <;> rfl) | (simp only [← hji19]; first | rfl | (simp [errW_none, errW_some] <;> rfl)) | (simp [*, errW_none, errW_some] <;> rfl), by repeat (first | (with_reducible first | exact HB.out | apply below_alloc | apply pw_below_drewN | apply below_drew1 | refine below_set ?_ GE56002.out | refine below_set ?_ GE56004.out) | exact HB.out)⟩
                            · rw [if_neg c28] at H
                              have c28b0 : decide (((rd_T57 l0 x8_1).f1) ≤ ((rd_T57 l0 (ji19)).f2)) = false := decide_eq_false c28
                              clear c28
                              have H' := Aside0.mk H
                              clear H
                              have p56003 : 0 ≤ ((ji19) : Int) := of_decide_eq_true (by first | (with_reducible assumption) | assumption)
                              have q56003 : (ji19) < (l0.length : Int) := of_decide_eq_true (by first | (with_reducible assumption) | assumption)
                              obtain ⟨ad56003, e56003, hx56003_0, hx56003_1, hx56003_2⟩ := at_T57 HR0.out (ji19) p56003 q56003
                              obtain rfl : ad56001 = ad56003 := (by injection e56003)
                              replace hx56003_0 := (HB.out.cell (World.block_lt_of_cell? w _ hx56003_0)).trans hx56003_0
                              replace hx56003_1 := (HB.out.cell (World.block_lt_of_cell? w _ hx56003_1)).trans hx56003_1
                              replace hx56003_2 := (HB.out.cell (World.block_lt_of_cell? w _ hx56003_2)).trans hx56003_2
                              replace p56003 := eq_true p56003
                              replace q56003 := eq_true q56003
                              go_wp2_with (first | ((with_reducible refine gate_dst (N := 5) rfl ?_); refine box_event ?hg (N := 5) ?hd (cs := #[.int .i64 0, .int .i64 0, .int .i64 0]) (t := 57) ?hr ?_; (case hd => rfl); (case hg => rfl); (case hr => first | (go_simp; done) | (go_simp; rfl)); intro gb56004 hg w33 hbox hb; have n0_ := Aside0.mk (blk_below (g := gb56002) (o := .cells #[.int .i64 ((rd_T57 l0 x8_1).f0), .int .i64 ((rd_T57 l0 x8_1).f1), .int .i64 ((rd_T57 l0 x8_1).f2)] 57 (0, 0)) (by (with_reducible repeat (first | refine blk_drewN ?_ _ | refine blk_drew ?_ | refine blk_alloc ?_ _)); exact BK56002.out) hb); have n1_ := Aside0.mk (below_step (by repeat (first | (with_reducible first | exact HB.out | apply below_alloc | apply pw_below_drewN | apply below_drew1 | refine below_set ?_ GE56002.out) | exact HB.out)) hb); have n2_ := Aside0.mk (hbox); have n3_ := Aside0.mk ((by rw [hg]; exact (below_size (by repeat (first | (with_reducible first | exact HB.out | apply below_alloc | apply pw_below_drewN | apply below_drew1 | refine below_set ?_ GE56002.out) | exact HB.out))) : w.heap.size ≤ gb56004)); have n4_ := Aside0.mk ((by rw [hg]; exact (below_size (by repeat (first | (with_reducible first | exact HB.out | apply below_alloc | apply pw_below_drewN | apply below_drew1 | refine below_set ?_ GE56002.out) | exact HB.out))) : w.heap.size ≤ gb56004)); have n5_ := Aside0.mk ((by rw [hg]; exact Nat.ne_of_lt (blk_lt (g := gb56002) (o := .cells #[.int .i64 ((rd_T57 l0 x8_1).f0), .int .i64 ((rd_T57 l0 x8_1).f1), .int .i64 ((rd_T57 l0 x8_1).f2)] 57 (0, 0)) (by (with_reducible repeat (first | refine blk_drewN ?_ _ | refine blk_drew ?_ | refine blk_alloc ?_ _)); exact BK56002.out)) : gb56002 ≠ gb56004)); have n6_ := Aside0.mk ((by rw [hg]; exact Nat.ne_of_gt (blk_lt (g := gb56002) (o := .cells #[.int .i64 ((rd_T57 l0 x8_1).f0), .int .i64 ((rd_T57 l0 x8_1).f1), .int .i64 ((rd_T57 l0 x8_1).f2)] 57 (0, 0)) (by (with_reducible repeat (first | refine blk_drewN ?_ _ | refine blk_drew ?_ | refine blk_alloc ?_ _)); exact BK56002.out)) : gb56004 ≠ gb56002)); clear BK56002; clear HB; have BK56002 := n0_; have HB := n1_; have BK56004 := n2_; have GW56004 := n3_; have GE56004 := n4_; have NB56002_56004 := n5_; have NB56004_56002 := n6_; clear n0_ n1_ n2_ n3_ n4_ n5_ n6_; clear hb hbox hg; have hnb34 := NB56004_56002.out; have hnc34 := NB56002_56004.out; have hcz35_0 : w33.cell? ⟨gb56004, 0, none⟩ = some (.int .i64 0) := (blk_cell BK56004.out 0).trans rfl; have hcz35_1 : w33.cell? ⟨gb56004, 1, none⟩ = some (.int .i64 0) := (blk_cell BK56004.out 1).trans rfl; have hcz35_2 : w33.cell? ⟨gb56004, 2, none⟩ = some (.int .i64 0) := (blk_cell BK56004.out 2).trans rfl; have hfz35_0 := blk_frozen BK56004.out 0; have hfz35_1 := blk_frozen BK56004.out 1; have hfz35_2 := blk_frozen BK56004.out 2; have hcz36_0 : w33.cell? ⟨gb56002, 0, none⟩ = some (.int .i64 ((rd_T57 l0 x8_1).f0)) := (blk_cell BK56002.out 0).trans rfl; have hcz36_1 : w33.cell? ⟨gb56002, 1, none⟩ = some (.int .i64 ((rd_T57 l0 x8_1).f1)) := (blk_cell BK56002.out 1).trans rfl; have hcz36_2 : w33.cell? ⟨gb56002, 2, none⟩ = some (.int .i64 ((rd_T57 l0 x8_1).f2)) := (blk_cell BK56002.out 2).trans rfl; have hfz36_0 := blk_frozen BK56002.out 0; have hfz36_1 := blk_frozen BK56002.out 1; have hfz36_2 := blk_frozen BK56002.out 2))
                              go_roundg kj4
                              case measure => have := HK1.out; have := HJ4.out; omega
                              case rel => exact ⟨(wrap64 (x8_1 + 1)), (by first | rfl | (simp; done) | (simp [*]; done)), H', ⟨by have := HK1.out; have := HJ4.out; omega⟩, ⟨by repeat (first | (with_reducible first | exact HB.out | apply below_alloc | apply pw_below_drewN | apply below_drew1 | refine below_set ?_ GE56002.out | refine below_set ?_ GE56004.out) | exact HB.out)⟩⟩
                          · rw [if_neg c27] at H
                            have c27b0 : (((rd_T57 l0 x8_1).f0) == ((rd_T57 l0 (ji19)).f0)) = false := beq_eq_false_iff_ne.mpr c27
                            have c27b1 : (((rd_T57 l0 x8_1).f0) != ((rd_T57 l0 (ji19)).f0)) = true := bne_iff_ne.mpr c27
                            have H' := Aside0.mk H
                            clear H
                            have p56003 : 0 ≤ ((ji19) : Int) := of_decide_eq_true (by first | (with_reducible assumption) | assumption)
                            have q56003 : (ji19) < (l0.length : Int) := of_decide_eq_true (by first | (with_reducible assumption) | assumption)
                            obtain ⟨ad56003, e56003, hx56003_0, hx56003_1, hx56003_2⟩ := at_T57 HR0.out (ji19) p56003 q56003
                            obtain rfl : ad56001 = ad56003 := (by injection e56003)
                            replace hx56003_0 := (HB.out.cell (World.block_lt_of_cell? w _ hx56003_0)).trans hx56003_0
                            replace hx56003_1 := (HB.out.cell (World.block_lt_of_cell? w _ hx56003_1)).trans hx56003_1
                            replace hx56003_2 := (HB.out.cell (World.block_lt_of_cell? w _ hx56003_2)).trans hx56003_2
                            replace p56003 := eq_true p56003
                            replace q56003 := eq_true q56003
                            go_wp2_with (first | ((with_reducible refine gate_dst (N := 5) rfl ?_); refine box_event ?hg (N := 5) ?hd (cs := #[.int .i64 0, .int .i64 0, .int .i64 0]) (t := 57) ?hr ?_; (case hd => rfl); (case hg => rfl); (case hr => first | (go_simp; done) | (go_simp; rfl)); intro gb56004 hg w37 hbox hb; have n0_ := Aside0.mk (blk_below (g := gb56002) (o := .cells #[.int .i64 ((rd_T57 l0 x8_1).f0), .int .i64 ((rd_T57 l0 x8_1).f1), .int .i64 ((rd_T57 l0 x8_1).f2)] 57 (0, 0)) (by (with_reducible repeat (first | refine blk_drewN ?_ _ | refine blk_drew ?_ | refine blk_alloc ?_ _)); exact BK56002.out) hb); have n1_ := Aside0.mk (below_step (by repeat (first | (with_reducible first | exact HB.out | apply below_alloc | apply pw_below_drewN | apply below_drew1 | refine below_set ?_ GE56002.out) | exact HB.out)) hb); have n2_ := Aside0.mk (hbox); have n3_ := Aside0.mk ((by rw [hg]; exact (below_size (by repeat (first | (with_reducible first | exact HB.out | apply below_alloc | apply pw_below_drewN | apply below_drew1 | refine below_set ?_ GE56002.out) | exact HB.out))) : w.heap.size ≤ gb56004)); have n4_ := Aside0.mk ((by rw [hg]; exact (below_size (by repeat (first | (with_reducible first | exact HB.out | apply below_alloc | apply pw_below_drewN | apply below_drew1 | refine below_set ?_ GE56002.out) | exact HB.out))) : w.heap.size ≤ gb56004)); have n5_ := Aside0.mk ((by rw [hg]; exact Nat.ne_of_lt (blk_lt (g := gb56002) (o := .cells #[.int .i64 ((rd_T57 l0 x8_1).f0), .int .i64 ((rd_T57 l0 x8_1).f1), .int .i64 ((rd_T57 l0 x8_1).f2)] 57 (0, 0)) (by (with_reducible repeat (first | refine blk_drewN ?_ _ | refine blk_drew ?_ | refine blk_alloc ?_ _)); exact BK56002.out)) : gb56002 ≠ gb56004)); have n6_ := Aside0.mk ((by rw [hg]; exact Nat.ne_of_gt (blk_lt (g := gb56002) (o := .cells #[.int .i64 ((rd_T57 l0 x8_1).f0), .int .i64 ((rd_T57 l0 x8_1).f1), .int .i64 ((rd_T57 l0 x8_1).f2)] 57 (0, 0)) (by (with_reducible repeat (first | refine blk_drewN ?_ _ | refine blk_drew ?_ | refine blk_alloc ?_ _)); exact BK56002.out)) : gb56004 ≠ gb56002)); clear BK56002; clear HB; have BK56002 := n0_; have HB := n1_; have BK56004 := n2_; have GW56004 := n3_; have GE56004 := n4_; have NB56002_56004 := n5_; have NB56004_56002 := n6_; clear n0_ n1_ n2_ n3_ n4_ n5_ n6_; clear hb hbox hg; have hnb38 := NB56004_56002.out; have hnc38 := NB56002_56004.out; have hcz39_0 : w37.cell? ⟨gb56004, 0, none⟩ = some (.int .i64 0) := (blk_cell BK56004.out 0).trans rfl; have hcz39_1 : w37.cell? ⟨gb56004, 1, none⟩ = some (.int .i64 0) := (blk_cell BK56004.out 1).trans rfl; have hcz39_2 : w37.cell? ⟨gb56004, 2, none⟩ = some (.int .i64 0) := (blk_cell BK56004.out 2).trans rfl; have hfz39_0 := blk_frozen BK56004.out 0; have hfz39_1 := blk_frozen BK56004.out 1; have hfz39_2 := blk_frozen BK56004.out 2; have hcz40_0 : w37.cell? ⟨gb56002, 0, none⟩ = some (.int .i64 ((rd_T57 l0 x8_1).f0)) := (blk_cell BK56002.out 0).trans rfl; have hcz40_1 : w37.cell? ⟨gb56002, 1, none⟩ = some (.int .i64 ((rd_T57 l0 x8_1).f1)) := (blk_cell BK56002.out 1).trans rfl; have hcz40_2 : w37.cell? ⟨gb56002, 2, none⟩ = some (.int .i64 ((rd_T57 l0 x8_1).f2)) := (blk_cell BK56002.out 2).trans rfl; have hfz40_0 := blk_frozen BK56002.out 0; have hfz40_1 := blk_frozen BK56002.out 1; have hfz40_2 := blk_frozen BK56002.out 2))
                            go_roundg kj4
                            case measure => have := HK1.out; have := HJ4.out; omega
                            case rel => exact ⟨(wrap64 (x8_1 + 1)), (by first | rfl | (simp; done) | (simp [*]; done)), H', ⟨by have := HK1.out; have := HJ4.out; omega⟩, ⟨by repeat (first | (with_reducible first | exact HB.out | apply below_alloc | apply pw_below_drewN | apply below_drew1 | refine below_set ?_ GE56002.out | refine below_set ?_ GE56004.out) | exact HB.out)⟩⟩
                      · rw [if_neg c21] at H
                        exact absurd H (by simp)
                    · rw [if_neg c20] at H
                      exact absurd H (by simp)
          · rw [if_neg c4] at H
            exact absurd H (by simp)
        · rw [if_neg c3] at H
          exact absurd H (by simp)
      · rw [if_neg c2] at H
        have c2b0 : decide (x8_1 < (l0.length : Int)) = false := decide_eq_false c2
        clear c2
        obtain rfl := Option.some.inj H
        go_wp2
        go_ret
        exact ⟨by first | rfl | (simp [errW_none, errW_some] <;> rfl) | (simp [*, errW_none, errW_some] <;> rfl), by repeat (first | (with_reducible first | exact HB.out | apply below_alloc | apply pw_below_drewN | apply below_drew1) | exact HB.out)⟩

end Go.Proofs.Ytfgeickfheogoaa.Q

/- Runs: what the program and the reference take for a region. -/
namespace Go.Proofs.Ytfgeickfheogoaa.Pure
open Go.RowKit Go.Proofs.Ytfgeickfheogoaa.Q Go.Proofs.YtfgeickfheogoaaW.PrintWords Go.Proofs.YtfgeickfheogoaaW.PrintLast Go.Proofs.YtfgeickfheogoaaW.PrintMore
set_option linter.unusedVariables false
set_option linter.unusedSimpArgs false

abbrev Run := S57
theorem rdRun (l : List Run) (i : Nat) (h : i < l.length) : rd_T57 l (i : Int) = l[i] := by simp [rd_T57, h]
def runOK (r : Run) : Bool := decide (0 ≤ r.f0) && decide (r.f0 < 16) && decide (0 ≤ r.f1) && decide (r.f1 < r.f2) && decide (r.f2 ≤ 16)
theorem runOK_iff (r : Run) : runOK r = true ↔ 0 ≤ r.f0 ∧ r.f0 < 16 ∧ 0 ≤ r.f1 ∧ r.f1 < r.f2 ∧ r.f2 ≤ 16 := by
  simp [runOK, and_assoc]
def runAfter (p r : Run) : Bool := decide (p.f0 < r.f0) || (decide (p.f0 = r.f0) && decide (p.f2 < r.f1))
theorem runAfter_iff (p r : Run) : runAfter p r = true ↔ p.f0 < r.f0 ∨ (p.f0 = r.f0 ∧ p.f2 < r.f1) := by
  simp [runAfter]
/-- Runs of a region: each in range, and behind the one before it. -/
def validFrom : Option Run → List Run → Bool
  | _, [] => true
  | none, r :: rs => runOK r && validFrom (some r) rs
  | some p, r :: rs => (runOK r && runAfter p r) && validFrom (some r) rs
def validR (l : List Run) : Bool := validFrom none l
def before (l : List Run) (i : Nat) : Option Run := if i = 0 then none else l[i - 1]?
theorem before_zero (l : List Run) : before l 0 = none := rfl
theorem before_succ (l : List Run) (i : Nat) (h : i < l.length) : before l (i + 1) = some l[i] := by simp [before, h]
theorem validFrom_at (l : List Run) (i : Nat) (h : i < l.length) : validFrom (before l i) (l.drop i) = ((runOK l[i] && (match before l i with | none => true | some p => runAfter p l[i])) && validFrom (before l (i + 1)) (l.drop (i + 1))) := by
  rw [List.drop_eq_getElem_cons h, before_succ l i h]
  cases before l i with
  | none => simp [validFrom]
  | some p => rfl
theorem inRange_eq' (n a b : Int) : spec_inRange.f n a b = some (decide (a ≤ n) && decide (n ≤ b)) := by
  unfold spec_inRange.f; by_cases h : a ≤ n <;> simp [h]
theorem sval_j1 (l : List Run) (i k : Nat) (hl : l.length ≤ 9223372036854775807) (h : i < l.length) (b : Bool) :
    spec_validRuns.j1 (k + 1) l i b l[i].f0 l[i].f1 l[i].f2 = if b = true then some false else if (match before l i with | none => true | some p => runAfter p l[i]) = true then spec_validRuns.l0 k l ((i + 1 : Nat) : Int) else some false := by
  simp only [spec_validRuns.j1]
  by_cases hb : b = true
  · rw [if_pos hb, if_pos hb]
  rw [if_neg hb, if_neg hb, w64n i (by omega)]
  cases i with
  | zero => simp [before]
  | succ i =>
    have e : ((i + 1 : Nat) : Int) - 1 = (i : Int) := by omega
    rw [if_pos (by omega), w64 (x := ((i + 1 : Nat) : Int) - 1) (by omega) (by omega), e, if_pos (by omega), if_pos (by omega), rdRun l i (by omega), before_succ l i (by omega)]
    simp only
    by_cases c1 : l[i + 1].f0 < l[i].f0
    · rw [if_pos c1, if_neg (by rw [runAfter_iff]; omega)]
    rw [if_neg c1]
    by_cases c2 : l[i + 1].f0 = l[i].f0
    · rw [if_pos c2]
      by_cases c3 : l[i + 1].f1 ≤ l[i].f2
      · rw [if_pos c3, if_neg (by rw [runAfter_iff]; omega)]
      · rw [if_neg c3, if_pos (by rw [runAfter_iff]; omega)]
    · rw [if_neg c2, if_pos (by rw [runAfter_iff]; omega)]
theorem spec_validRuns_eq (l : List Run) (hl : l.length ≤ 9223372036854775807) (k : Nat) (hk : 2 * l.length + 1 < k) : spec_validRuns.f k l = some (validR l) := by
  have key : ∀ d i k, i + d = l.length → 2 * d < k → spec_validRuns.l0 k l (i : Int) = some (validFrom (before l i) (l.drop i)) := by
    intro d
    induction d with
    | zero =>
      intro i k hi hk
      obtain ⟨k, rfl⟩ : ∃ m, k = m + 1 := ⟨k - 1, by omega⟩
      simp only [spec_validRuns.l0]
      rw [if_neg (by omega), List.drop_of_length_le (by omega)]
      cases before l i <;> rfl
    | succ d ih =>
      intro i k hi hk
      obtain ⟨k, rfl⟩ : ∃ m, k = m + 1 + 1 := ⟨k - 2, by omega⟩
      have hlt : i < l.length := by omega
      have hn := ih (i + 1) k (by omega) (by omega)
      rw [validFrom_at l i hlt]
      simp only [spec_validRuns.l0]
      rw [if_pos (by omega), if_pos (by omega), rdRun l i hlt, inRange_eq', inRange_eq', inRange_eq']
      simp only [Option.bind_some, sval_j1 l i k hl hlt, hn]
      by_cases c1 : 0 ≤ l[i].f0 ∧ l[i].f0 ≤ 15
      · rw [if_pos (by simpa using c1)]
        by_cases c2 : 0 ≤ l[i].f1 ∧ l[i].f1 ≤ 15
        · rw [if_pos (by simpa using c2), w64 (x := l[i].f1 + 1) (by omega) (by omega)]
          by_cases c3 : l[i].f1 + 1 ≤ l[i].f2 ∧ l[i].f2 ≤ 16
          · rw [if_neg (by simp; omega)]
            have : runOK l[i] = true := by rw [runOK_iff]; omega
            rw [this, Bool.true_and]
            cases (match before l i with | none => true | some p => runAfter p l[i]) <;> rfl
          · rw [if_pos (by simp; omega)]
            have : runOK l[i] = false := by rw [← Bool.not_eq_true, runOK_iff]; omega
            rw [this]; rfl
        · rw [if_neg (by simpa using c2), if_pos trivial]
          have : runOK l[i] = false := by rw [← Bool.not_eq_true, runOK_iff]; omega
          rw [this]; rfl
      · rw [if_neg (by simpa using c1), if_pos trivial]
        have : runOK l[i] = false := by rw [← Bool.not_eq_true, runOK_iff]; omega
        rw [this]; rfl
  unfold spec_validRuns.f
  have := key l.length 0 k (by omega) (by omega)
  simpa [before_zero, validR] using this
theorem ival_j1 (l : List Run) (i k : Nat) (hl : l.length ≤ 9223372036854775807) (h : i < l.length) (b : Bool) :
    impl_isRegion.j1 (k + 1) l i l (l.length : Int) i b l[i].f0 l[i].f1 l[i].f2 = if b = true then some false else if (match before l i with | none => true | some p => runAfter p l[i]) = true then impl_isRegion.l0 k l l (l.length : Int) ((i + 1 : Nat) : Int) else some false := by
  simp only [impl_isRegion.j1]
  by_cases hb : b = true
  · rw [if_pos hb, if_pos hb]
  rw [if_neg hb, if_neg hb, w64n i (by omega)]
  cases i with
  | zero => simp [before]
  | succ i =>
    have e : ((i + 1 : Nat) : Int) - 1 = (i : Int) := by omega
    rw [if_neg (by omega), w64 (x := ((i + 1 : Nat) : Int) - 1) (by omega) (by omega), e, if_pos (by omega), if_pos (by omega), rdRun l i (by omega), before_succ l i (by omega)]
    simp only
    by_cases c1 : l[i + 1].f0 < l[i].f0
    · rw [if_pos c1, if_neg (by rw [runAfter_iff]; omega)]
    rw [if_neg c1]
    by_cases c2 : l[i + 1].f0 = l[i].f0
    · rw [if_pos c2]
      by_cases c3 : l[i + 1].f1 ≤ l[i].f2
      · rw [if_pos c3, if_neg (by rw [runAfter_iff]; omega)]
      · rw [if_neg c3, if_pos (by rw [runAfter_iff]; omega)]
    · rw [if_neg c2, if_pos (by rw [runAfter_iff]; omega)]
theorem impl_isRegion_eq (l : List Run) (hl : l.length ≤ 9223372036854775807) (k : Nat) (hk : 2 * l.length + 1 < k) : impl_isRegion.f k l = some (validR l) := by
  have key : ∀ d i k, i + d = l.length → 2 * d < k → impl_isRegion.l0 k l l (l.length : Int) (i : Int) = some (validFrom (before l i) (l.drop i)) := by
    intro d
    induction d with
    | zero =>
      intro i k hi hk
      obtain ⟨k, rfl⟩ : ∃ m, k = m + 1 := ⟨k - 1, by omega⟩
      simp only [impl_isRegion.l0]
      rw [if_neg (by omega), List.drop_of_length_le (by omega)]
      cases before l i <;> rfl
    | succ d ih =>
      intro i k hi hk
      obtain ⟨k, rfl⟩ : ∃ m, k = m + 1 + 1 := ⟨k - 2, by omega⟩
      have hlt : i < l.length := by omega
      have hn := ih (i + 1) k (by omega) (by omega)
      rw [validFrom_at l i hlt]
      simp only [impl_isRegion.l0]
      rw [if_pos (by omega), if_pos (by omega), rdRun l i hlt]
      simp only [if_pos (show (i : Int) < (l.length : Int) by omega), ival_j1 l i k hl hlt, hn]
      by_cases c : runOK l[i] = true
      · rw [c, Bool.true_and]
        rw [runOK_iff] at c
        rw [if_neg (by omega), if_neg (by omega), if_neg (by omega), if_neg (by omega), if_neg (by simp; omega)]
        cases (match before l i with | none => true | some p => runAfter p l[i]) <;> rfl
      · have hc := c
        rw [runOK_iff] at c
        simp only [Bool.not_eq_true] at hc
        rw [hc, Bool.false_and, Bool.false_and]
        try simp only [if_true]
        by_cases c1 : l[i].f0 < 0
        · rw [if_pos c1]
        rw [if_neg c1]
        by_cases c2 : l[i].f0 ≥ 16
        · rw [if_pos c2]
        rw [if_neg c2]
        by_cases c3 : l[i].f1 < 0
        · rw [if_pos c3]
        rw [if_neg c3]
        by_cases c4 : l[i].f2 ≤ l[i].f1
        · rw [if_pos c4]
        rw [if_neg c4, if_pos (by simp; omega)]
  unfold impl_isRegion.f
  have := key l.length 0 k (by omega) (by omega)
  simpa [before_zero, validR] using this
theorem validFrom_ok (l : List Run) : ∀ p, validFrom p l = true → ∀ r ∈ l, runOK r = true := by
  induction l with
  | nil => intro p _ r hr; cases hr
  | cons x xs ih =>
    intro p h r hr
    have h2 : runOK x = true ∧ validFrom (some x) xs = true := by
      cases p with
      | none => simpa [validFrom] using h
      | some p => simp [validFrom] at h; exact ⟨h.1.1, h.2⟩
    rcases List.mem_cons.1 hr with rfl | hr
    · exact h2.1
    · exact ih _ h2.2 r hr
theorem valid_ok {l : List Run} (h : validR l = true) : ∀ r ∈ l, runOK r = true := validFrom_ok l none h
end Go.Proofs.Ytfgeickfheogoaa.Pure

/- Grids of pixels as the machine has them: 256 cells. -/
namespace Go.Proofs.Ytfgeickfheogoaa.Q
open Go.RowKit Go.Proofs.YtfgeickfheogoaaW.PrintWords Go.Proofs.YtfgeickfheogoaaW.PrintLast Go.Proofs.YtfgeickfheogoaaW.PrintMore
attribute [local go_sem] max2_int min2_int max_two min_two max_three min_three max_four min_four
set_option linter.unusedVariables false
set_option linter.unusedSimpArgs false

/-- The cells of a grid: pixel p is that in column p % 16 and row p / 16. -/
def gc (g : Nat → Bool) : Array Value := Array.ofFn (n := 256) fun i => .bool (g i.val)
theorem gc_size (g : Nat → Bool) : (gc g).size = 256 := by simp [gc]
theorem gc_get (g : Nat → Bool) (i : Nat) (h : i < 256) : (gc g)[i]? = some (.bool (g i)) := by simp [gc, h]
theorem gc_one (g : Nat → Bool) : (gc g).all (·.oneCell') = true := by
  rw [Array.all_eq_true]
  intro i hi
  simp [gc, Value.oneCell']
theorem gc_set (g : Nat → Bool) (i : Nat) (b : Bool) : (gc g).setIfInBounds i (.bool b) = gc (fun p => if p = i then b else g p) := by
  unfold gc
  apply Array.ext
  · simp
  · intro j h1 h2
    rw [Array.getElem_setIfInBounds (by simpa using h1)]
    simp only [Array.getElem_ofFn]
    by_cases e : i = j
    · subst e; simp
    · rw [if_neg e, if_neg (fun h => e h.symm)]
theorem gc_congr {g g' : Nat → Bool} (h : ∀ p, p < 256 → g p = g' p) : gc g = gc g' := by
  unfold gc
  congr 1
  funext i
  rw [h i.val i.isLt]
theorem zero66 : Try.zeroCells66 = gc (fun _ => false) := by kernel_rfl
theorem info66 : (Try.prog.info? 66).map (·.size) = some 256 := by kernel_rfl
/-- A world in which block B is a grid's. -/
def GridAt (W : World) (B : Nat) (g : Nat → Bool) : Prop := W.heap[B]? = some (.cells (gc g) 66 (0, 0))
theorem GridAt.cell {W : World} {B : Nat} {g : Nat → Bool} (h : GridAt W B g) (i : Nat) (hi : i < 256) : W.cell? ⟨B, i, none⟩ = some (.bool (g i)) := (blk_cell h i).trans (gc_get g i hi)
theorem GridAt.free {W : World} {B : Nat} {g : Nat → Bool} (h : GridAt W B g) (i : Nat) : W.frozen? ⟨B, i, none⟩ = false := blk_frozen h i
theorem GridAt.below {W W' : World} {B : Nat} {g : Nat → Bool} (h : GridAt W B g) (hb : Below W.heap.size W W') : GridAt W' B g := blk_below h hb
theorem GridAt.lt {W : World} {B : Nat} {g : Nat → Bool} (h : GridAt W B g) : B < W.heap.size := blk_lt h
theorem GridAt.set_ {W : World} {B : Nat} {g : Nat → Bool} (h : GridAt W B g) (i : Nat) (b : Bool) : GridAt (W.setCell ⟨B, i, none⟩ (.bool b)) B (fun p => if p = i then b else g p) := by
  have := blk_set h i (.bool b)
  rw [gc_set] at this
  exact this
theorem GridAt.new (W : World) (g : Nat → Bool) : GridAt (W.alloc (.cells (gc g) 66)) W.heap.size g := blk_new _ _
theorem GridAt.alloc {W : World} {B : Nat} {g : Nat → Bool} (h : GridAt W B g) (o : Obj) : GridAt (W.alloc o) B g := blk_alloc h o
theorem GridAt.congr {W : World} {B : Nat} {g g' : Nat → Bool} (h : GridAt W B g) (he : ∀ p, p < 256 → g p = g' p) : GridAt W B g' := by
  unfold GridAt at h ⊢
  rw [← gc_congr he]; exact h
theorem GridAt.load {W : World} {B : Nat} {g : Nat → Bool} (h : GridAt W B g) : (loadCellsFrom ⟨B, 0, none⟩ 0 256 #[]).run Try.prog W = .ok (gc g) W := by
  have := run_loadCells_list (P := Try.prog) W ⟨B, 0, none⟩ (gc g).toList (fun j v hv => by
    have hadd : (⟨B, 0, none⟩ : Addr).add j = ⟨B, j, none⟩ := by unfold Addr.add; split <;> simp_all
    rw [hadd, cell_of_row _ _ j _ 66 (0, 0) h]
    simpa using hv)
  simpa [loadCells, gc_size] using this
theorem GridAt.setRow {W : World} {B : Nat} {g : Nat → Bool} (h : GridAt W B g) (g' : Nat → Bool) : GridAt (W.setRow B (gc g')) B g' := setRow_heap W B _ _ _ _ h
theorem below_setRow {B : Nat} {a w : World} (h : Below B a w) {g : Nat} (hg : B ≤ g) (cs : Array Value) : Below B a (w.setRow g cs) :=
  ⟨h.os, h.tape, h.output, by rw [setRow_size]; exact h.size, fun i hi => (setRow_other w g i cs (by omega)).trans (h.block i hi)⟩
theorem underlying66 : Try.prog.underlying 66 = some (.array 16 64) := Try.underlying66
end Go.Proofs.Ytfgeickfheogoaa.Q

/- impl.gridOf: the grid of runs that are in range. -/
namespace Go.Proofs.Ytfgeickfheogoaa.Q
open Go.RowKit Go.Proofs.YtfgeickfheogoaaW.PrintWords Go.Proofs.YtfgeickfheogoaaW.PrintLast Go.Proofs.YtfgeickfheogoaaW.PrintMore
attribute [local go_sem] max2_int min2_int max_two min_two max_three min_three max_four min_four
set_option linter.unusedVariables false
set_option linter.unusedSimpArgs false

def runIn (r : S57) (p : Nat) : Bool := decide (r.f0 = ((p / 16 : Nat) : Int)) && decide (r.f1 ≤ ((p % 16 : Nat) : Int)) && decide (((p % 16 : Nat) : Int) < r.f2)
def gridF (l : List S57) (p : Nat) : Bool := l.any fun r => runIn r p
theorem gridF_succ (l : List S57) (k : Nat) (h : k < l.length) (p : Nat) : gridF (l.take (k + 1)) p = (gridF (l.take k) p || runIn l[k] p) := by
  unfold gridF
  rw [List.take_succ_eq_append_getElem h, List.any_append]; simp
/-- a run's pixels before column x -/
def runTo (r : S57) (x : Nat) (p : Nat) : Bool := decide (r.f0 = ((p / 16 : Nat) : Int)) && decide (r.f1 ≤ ((p % 16 : Nat) : Int)) && decide (p % 16 < x)
theorem runTo_step (r : S57) (Y x : Nat) (hY : r.f0 = (Y : Int)) (hx : x < 16) (hF : r.f1 ≤ (x : Int)) (g : Nat → Bool) (p : Nat) :
    (if p = Y * 16 + x then true else (g p || runTo r x p)) = (g p || runTo r (x + 1) p) := by
  unfold runTo
  by_cases e : p = Y * 16 + x
  · rw [if_pos e]
    have h1 : p % 16 = x := by omega
    have h2 : p / 16 = Y := by omega
    rw [h1, h2, hY]
    simp [hF]
  · rw [if_neg e]
    congr 1
    by_cases c1 : r.f0 = ((p / 16 : Nat) : Int)
    · have : decide (p % 16 < x) = decide (p % 16 < x + 1) := by
        rw [decide_eq_decide]
        have : p % 16 ≠ x := by omega
        omega
      rw [this]
    · rw [decide_eq_false c1, Bool.false_and, Bool.false_and, Bool.false_and]

set_option maxHeartbeats 8000000 in
set_option maxRecDepth 100000 in
theorem gridOf_calls (A0 : Option Addr) (c0 : Nat) (l0 : List S57) (w : World) (hr0 : Kd.C k57 w A0 l0.length l0) (hok : ∀ r ∈ l0, 0 ≤ r.f0 ∧ r.f0 < 16 ∧ 0 ≤ r.f1 ∧ r.f2 ≤ 16) :
    Calls Try.prog 59 #[.slice A0 l0.length c0] w fun e w' => e = .returned (.agg (gc (gridF l0))) ∧ Below w.heap.size w w' := by
  have hm : l0.length ≤ 9223372036854775807 := hr0.2.1
  have HR := Aside0.mk hr0
  have HOK := Aside0.mk hok
  clear hr0 hok
  have hu := Try.underlying57
  have z0 := zero66
  have hst := run_storeCells_new (P := Try.prog) (w.alloc (.cells (gc fun _ => false) 66)) 66 (gc fun _ => false) (gc fun _ => false) (by rw [gc_size]; exact info66) rfl (gc_one _)
  simp only [World.size_alloc] at hst
  go_enter Try.func59, Try.ntmps59
  go_wp2
  go_loopw [10] (fun v10 W => ∃ k : Nat, v10 = .int .i64 k ∧ k ≤ l0.length ∧ GridAt W (w.heap.size + 1) (gridF (l0.take k)) ∧ GridAt W w.heap.size (fun _ => false) ∧ Aside0 (Below w.heap.size w W)) (fun v10 _ => l0.length - (intOf v10).toNat)
  case atStart =>
    refine ⟨0, rfl, by omega, ?_, (GridAt.new _ _).alloc _, ⟨((Below.refl _ _).alloc (Nat.le_refl _) _).alloc (by simp) _⟩⟩
    have h := GridAt.new (w.alloc (.cells (gc fun _ => false) 66)) (fun _ => false)
    simp only [World.size_alloc] at h
    exact h.congr (fun p _ => by simp [gridF])
  case round =>
    obtain ⟨k, rfl, hk, hg, hg2, hb⟩ := hrel
    clear hst
    obtain ⟨wo, rfl⟩ : ∃ wo : World, wo = wr := ⟨_, rfl⟩
    by_cases hlt : k < l0.length
    · have hdk : decide ((k : Int) < (l0.length : Int)) = true := by simp; omega
      obtain ⟨ad, e, hx0, hx1, hx2⟩ := at_T57 HR.out (k : Int) (by omega) (by omega)
      cases e
      have er : rd_T57 l0 (k : Int) = l0[k] := by simp [rd_T57, hlt]
      have ho := HOK.out l0[k] (List.getElem_mem hlt)
      have HGS := Aside0.mk (gridF_succ l0 k hlt)
      rw [er, Int.toNat_natCast] at hx0 hx1 hx2
      clear er
      generalize l0[k] = r at *
      obtain ⟨Y, hY⟩ := Int.eq_ofNat_of_zero_le ho.1
      obtain ⟨F, hF⟩ := Int.eq_ofNat_of_zero_le ho.2.2.1
      have ho2 := ho.2.1
      have ho4 := ho.2.2.2
      clear ho
      rw [hY] at hx0 ho2
      rw [hF] at hx1
      replace hx0 := (hb.out.cell (World.block_lt_of_cell? w _ hx0)).trans hx0
      replace hx1 := (hb.out.cell (World.block_lt_of_cell? w _ hx1)).trans hx1
      replace hx2 := (hb.out.cell (World.block_lt_of_cell? w _ hx2)).trans hx2
      have HY := Aside0.mk hY
      have HF := Aside0.mk hF
      clear hY hF
      go_wp2
      have hlt2 := hg.lt
      go_loopw [6] (fun v6 W => ∃ x : Nat, v6 = .int .i64 x ∧ F ≤ x ∧ ((x : Int) ≤ r.f2 ∨ x = F) ∧ GridAt W (w.heap.size + 1) (fun p => gridF (l0.take k) p || runTo r x p) ∧ GridAt W w.heap.size (fun _ => false) ∧ Aside0 (W.heap[wo.heap.size]? = some (.cells #[.int .i64 (Y : Int), .int .i64 (F : Int), .int .i64 r.f2] 57 (0, 0))) ∧ Aside0 (Below w.heap.size w W)) (fun v6 _ => 17 - (intOf v6).toNat + (r.f2 - (intOf v6)).toNat)
      case atStart =>
        refine ⟨F, rfl, Nat.le_refl _, .inr rfl, (hg.alloc _).congr (fun p _ => ?_), hg2.alloc _, ⟨blk_new _ _⟩, ⟨below_alloc hb.out _⟩⟩
        have : runTo r F p = false := by
          unfold runTo
          rw [HF.out]
          by_cases c : ((F : Nat) : Int) ≤ ((p % 16 : Nat) : Int)
          · rw [decide_eq_false (show ¬ p % 16 < F by omega), Bool.and_false]
          · rw [decide_eq_false c, Bool.and_false, Bool.false_and]
        rw [this, Bool.or_false]
      case round =>
        clear hg hg2 hb
        obtain ⟨x, rfl, hFx, hx, hg, hg2, hr, hb⟩ := hrel
        have hc0 : wr.cell? ⟨wo.heap.size, 0, none⟩ = some (.int .i64 (Y : Int)) := (blk_cell hr.out 0).trans rfl
        have hc2 : wr.cell? ⟨wo.heap.size, 2, none⟩ = some (.int .i64 r.f2) := (blk_cell hr.out 2).trans rfl
        by_cases hxt : (x : Int) < r.f2
        · have hdx : decide ((x : Int) < r.f2) = true := by simpa using hxt
          have hcg := hg.cell (Y * 16 + x) (by omega)
          have hfg := hg.free (Y * 16 + x)
          have hx16 : x < 16 := by omega
          go_wp2
          go_roundw
          case rel => exact ⟨x + 1, by go_num, by omega, .inl (by omega), (hg.set_ (Y * 16 + x) true).congr (fun p _ => runTo_step r Y x HY.out hx16 (by rw [HF.out]; omega) _ p), blk_far hg2 (by simp) _, ⟨blk_far hr.out (by simp; omega) _⟩, ⟨below_set hb.out (by omega)⟩⟩
          case measure => simp [intOf]; omega
        · have hdx : decide ((x : Int) < r.f2) = false := by simpa using hxt
          go_wp2
          go_roundw
          case rel =>
            refine ⟨k + 1, by go_num, by omega, hg.congr (fun p _ => ?_), hg2, hb⟩
            rw [HGS.out]
            congr 1
            unfold runTo runIn
            rw [HF.out]
            by_cases c : ((F : Nat) : Int) ≤ ((p % 16 : Nat) : Int)
            · congr 1
              rw [decide_eq_decide]
              omega
            · rw [decide_eq_false c, Bool.and_false, Bool.false_and, Bool.false_and]
          case measure => simp [intOf]; omega
    · have hdk : decide ((k : Int) < (l0.length : Int)) = false := by simp; omega
      have hkl : k = l0.length := by omega
      subst hkl
      have hi : (Try.prog.info? 66).map (·.size) = some (gc (gridF l0)).size := by rw [gc_size]; exact info66
      have hold : (gc fun _ => false).size = (gc (gridF l0)).size := by rw [gc_size, gc_size]
      have h1 := gc_one (gridF l0)
      rw [List.take_length] at hg
      have hg' : wo.heap[w.heap.size + 1]? = some (.cells (gc (gridF l0)) 66 (0, 0)) := hg
      have hg2' : wo.heap[w.heap.size]? = some (.cells (gc fun _ => false) 66 (0, 0)) := hg2
      go_wp2_with (first
        | ((with_reducible refine gate_dst (N := 28) rfl ?_); refine wpList_load_row rfl 66 (.tmp 3) rfl (w.heap.size + 1) rfl 66 (gc (gridF l0)) (0, 0) (.array 16 64) hg' underlying66 rfl hi ?_)
        | ((with_reducible refine wpList_store_row rfl 66 (.tmp 2) (.tmp 28) rfl w.heap.size (gc (gridF l0)) ?hx ?hy 66 (gc fun _ => false) hg2' hi hold h1 ?_); (case hx => rfl); (case hy => rfl)))
      refine bodyPost_ret (results_cell_row rfl _ _ w.heap.size 66 (gc (gridF l0)) (0, 0) (.array 16 64) rfl (hg2.setRow (gridF l0)) underlying66 rfl hi) rfl ?_
      exact ⟨rfl, below_setRow hb.out (Nat.le_refl _) _⟩
end Go.Proofs.Ytfgeickfheogoaa.Q

/- (impl.grid).runs: the runs of a grid, row by row. -/
namespace Go.Proofs.Ytfgeickfheogoaa.Q
open Go.RowKit Go.Proofs.YtfgeickfheogoaaW.PrintWords Go.Proofs.YtfgeickfheogoaaW.PrintLast Go.Proofs.YtfgeickfheogoaaW.PrintMore
attribute [local go_sem] max2_int min2_int max_two min_two max_three min_three max_four min_four
set_option linter.unusedVariables false
set_option linter.unusedSimpArgs false

/-- the end of the run that begins at x or before -/
def endAt (g : Nat → Bool) (y : Nat) : Nat → Nat → Nat
  | 0, x => x
  | n + 1, x => if x < 16 ∧ g (y * 16 + x) = true then endAt g y n (x + 1) else x
theorem endAt_ge (g : Nat → Bool) (y n x : Nat) : x ≤ endAt g y n x := by
  induction n generalizing x with
  | zero => exact Nat.le_refl _
  | succ n ih =>
    unfold endAt
    split
    · exact Nat.le_trans (Nat.le_succ x) (ih (x + 1))
    · exact Nat.le_refl _
/-- the runs of a row from column x on -/
def scanRow (g : Nat → Bool) (y x : Nat) : List S57 :=
  if _h : x < 16 then
    if g (y * 16 + x) = true then ⟨(y : Int), (x : Int), (endAt g y (16 - x) x : Nat)⟩ :: scanRow g y (endAt g y (16 - x) x + 1)
    else scanRow g y (x + 1)
  else []
  termination_by 16 - x
  decreasing_by
    · have := endAt_ge g y (16 - x) x; omega
    · omega
def runsTo (g : Nat → Bool) (y : Nat) : List S57 := (List.range y).flatMap fun y => scanRow g y 0
/-- the runs of a grid -/
def runsL (g : Nat → Bool) : List S57 := runsTo g 16
theorem runsTo_succ (g : Nat → Bool) (y : Nat) : runsTo g (y + 1) = runsTo g y ++ scanRow g y 0 := by
  simp [runsTo, List.range_succ]
theorem scan_true (g : Nat → Bool) (y x : Nat) (h : x < 16) (hg : g (y * 16 + x) = true) : scanRow g y x = ⟨(y : Int), (x : Int), (endAt g y (16 - x) x : Nat)⟩ :: scanRow g y (endAt g y (16 - x) x + 1) := by
  rw [scanRow, dif_pos h, if_pos hg]
theorem scan_false (g : Nat → Bool) (y x : Nat) (h : x < 16) (hg : g (y * 16 + x) = false) : scanRow g y x = scanRow g y (x + 1) := by
  rw [scanRow, dif_pos h, if_neg (by simp [hg])]
theorem scan_end (g : Nat → Bool) (y x : Nat) (h : 16 ≤ x) : scanRow g y x = [] := by
  rw [scanRow, dif_neg (by omega)]
theorem endAt_step (g : Nat → Bool) (y x : Nat) (h : x < 16) (hg : g (y * 16 + x) = true) : endAt g y (16 - x) x = endAt g y (16 - (x + 1)) (x + 1) := by
  rw [show 16 - x = (16 - (x + 1)) + 1 by omega]
  rw [endAt, if_pos ⟨h, hg⟩]
theorem endAt_stop (g : Nat → Bool) (y x : Nat) (h : 16 ≤ x ∨ g (y * 16 + x) = false) : endAt g y (16 - x) x = x := by
  cases hn : 16 - x with
  | zero => rfl
  | succ n => rw [endAt, if_neg (by rcases h with h | h; omega; simp [h])]

set_option maxHeartbeats 4000000 in
set_option maxRecDepth 100000 in
theorem runs_calls (g : Nat → Bool) (w : World) :
    Calls Try.prog 65 #[.agg (gc g)] w fun e w' => ∃ v0_ : Value, e = .returned (v0_) ∧ Kd.R k57 57 w' w.heap.size (fun _ => True) v0_ (runsL g) ∧ Below w.heap.size w w' := by
  have hu := Try.underlying57
  have hgs := gc_size g
  go_enter Try.func65, Try.ntmps65
  go_wp2
  go_loopw [3, 8] (fun v3 v8 W => ∃ y : Nat, v8 = .int .i64 y ∧ y ≤ 16 ∧ Aside0 (Kd.R k57 57 W w.heap.size (fun _ => True) v3 (runsTo g y) ∧ (runsTo g y).length ≤ 17 * y) ∧ GridAt W w.heap.size g ∧ Aside0 (Below w.heap.size w W)) (fun _ v8 _ => 16 - (intOf v8).toNat)
  case atStart =>
    have h := R_empty k57 57 w.heap.size (w.alloc (.cells (gc g) 66)) (by simp)
    simp only [World.size_alloc] at h
    exact ⟨0, rfl, by omega, ⟨h, by simp [runsTo]⟩, (GridAt.new _ _).alloc _, ⟨((Below.refl _ _).alloc (Nat.le_refl _) _).alloc (by simp) _⟩⟩
  case round =>
    obtain ⟨y, rfl, hy, hR, hg, hb⟩ := hrel
    by_cases hlt : y < 16
    · have hdy : decide ((y : Int) < 16) = true := by simp; omega
      go_wp2
      go_loopw [3, 5] (fun v3 v5 W => ∃ (x : Nat) (xs : List S57), v5 = .int .i64 x ∧ x ≤ 17 ∧ Aside0 (Kd.R k57 57 W w.heap.size (fun _ => True) v3 xs ∧ xs.length ≤ 17 * y + x ∧ xs ++ scanRow g y x = runsTo g (y + 1)) ∧ GridAt W w.heap.size g ∧ Aside0 (Below w.heap.size w W)) (fun _ v5 _ => 17 - (intOf v5).toNat)
      case atStart => exact ⟨0, _, rfl, by omega, ⟨hR.out.1, by have := hR.out.2; omega, (runsTo_succ g y).symm⟩, hg, hb⟩
      case round =>
        clear hR hg hb
        obtain ⟨x, xs, rfl, hx, hR, hg, hb⟩ := hrel
        by_cases hlx : x < 16
        · have hdx : decide ((x : Int) < 16) = true := by simp; omega
          have hc := hg.cell (y * 16 + x) (by omega)
          by_cases hv : g (y * 16 + x) = true
          · rw [hv] at hc
            have hs := scan_true g y x hlx hv
            have HS := Aside0.mk hs
            clear hs
            go_wp2
            go_loop [5] (fun v5 => ∃ z : Nat, v5 = .int .i64 z ∧ x ≤ z ∧ z ≤ 16 ∧ Aside0 (endAt g y (16 - z) z = endAt g y (16 - x) x)) (fun v5 => 16 - (intOf v5).toNat)
            case atStart => exact ⟨x, rfl, by omega, by omega, ⟨rfl⟩⟩
            case round =>
              clear hc
              obtain ⟨z, rfl, hxz, hz, hE⟩ := hrel
              have hgz := hg.alloc (.cells #[.int .i64 (y : Int), .int .i64 (x : Int), .int .i64 0] 57)
              by_cases hz16 : z < 16 ∧ g (y * 16 + z) = true
              · obtain ⟨hlz, hvz⟩ := hz16
                have hdz : decide ((z : Int) < 16) = true := by simp; omega
                have hc := hgz.cell (y * 16 + z) (by omega)
                rw [hvz] at hc
                have hE2 := Aside0.mk ((endAt_step g y z hlz hvz).symm.trans hE.out)
                clear hvz hE
                go_wp2
                go_round
                case rel => exact ⟨z + 1, by go_num, by omega, by omega, hE2⟩
                case measure => simp [intOf]; omega
              · have hz17 : 16 ≤ z ∨ g (y * 16 + z) = false := by
                  by_cases h : z < 16
                  · right
                    cases hgv : g (y * 16 + z) with
                    | false => rfl
                    | true => exact absurd ⟨h, hgv⟩ hz16
                  · left; omega
                have hstop := endAt_stop g y z hz17
                have hEZ := Aside0.mk (hE.out.symm.trans hstop)
                have hl24 : xs.length + 1 ≤ 1000 := by have := hR.out.2.1; omega
                have hRB := Aside0.mk (Kd.R_alloc hR.out.1 (.cells #[.int .i64 (y : Int), .int .i64 (x : Int), .int .i64 (z : Int)] 57))
                have hBB := Aside0.mk (below_alloc hb.out (.cells #[.int .i64 (y : Int), .int .i64 (x : Int), .int .i64 (z : Int)] 57))
                have hGB := Aside0.mk (blk_alloc hg (.cells #[.int .i64 (y : Int), .int .i64 (x : Int), .int .i64 (z : Int)] 57))
                have hNE := Aside0.mk (Kd.R_ne hRB.out hGB.out (by decide))
                clear hstop hE hz16
                rcases hz17 with hz17 | hz17
                · have hdz : decide ((z : Int) < 16) = false := by simp; omega
                  go_wp2_with (first | ((with_reducible refine gate_builtin (b := .append) (xs := #[.tmp 37, .tmp 39]) rfl ?_); at_builtin; refine Kd.R_append k57 w.heap.size rfl (.tmp 37) (.tmp 39) 25 57 (.agg #[(.int .i64 0), (.int .i64 0), (.int .i64 0)]) 24 rfl Try.underlying25 info57 rfl (by decide) (by omega) u3 xs (⟨(y : Int), (x : Int), (z : Int)⟩ : S57) [.int .i64 (y : Int), .int .i64 (x : Int), .int .i64 (z : Int)] (fun _ => True) (fun _ => False) rfl ?aX ?aP (fun _ hk => hk.elim) (fun _ _ => trivial) hRB.out hBB.out ?aS ?aL ?_; (case aX => rw [World.size_alloc]; rfl); (case aP => exact k57_mkM _ _ _ (⟨(y : Int), (x : Int), (z : Int)⟩ : S57)); (case aS => exact hBB.out.size); (case aL => omega); intro v4 w4 ho hb4 hg4 hat4; have hG4 := Aside0.mk (blk_grown hGB.out hg4 hNE.out); have hO4 := Aside0.mk ho; have hB4 := Aside0.mk hb4; clear ho hb4 hg4 hat4))
                  go_roundw
                  case rel =>
                    refine ⟨z + 1, xs ++ [⟨(y : Int), (x : Int), (z : Int)⟩], by go_num, by omega, ⟨hO4.out, by have := hR.out.2.1; rw [List.length_append]; simp; omega, ?_⟩, hG4.out, hB4⟩
                    have h1 := hR.out.2.2
                    rw [HS.out, hEZ.out] at h1
                    rw [List.append_assoc]; exact h1
                  case measure => simp [intOf]; omega
                · by_cases hlz : z < 16
                  · have hdz : decide ((z : Int) < 16) = true := by simp; omega
                    have hc := hgz.cell (y * 16 + z) (by omega)
                    rw [hz17] at hc
                    go_wp2_with (first | ((with_reducible refine gate_builtin (b := .append) (xs := #[.tmp 37, .tmp 39]) rfl ?_); at_builtin; refine Kd.R_append k57 w.heap.size rfl (.tmp 37) (.tmp 39) 25 57 (.agg #[(.int .i64 0), (.int .i64 0), (.int .i64 0)]) 24 rfl Try.underlying25 info57 rfl (by decide) (by omega) u3 xs (⟨(y : Int), (x : Int), (z : Int)⟩ : S57) [.int .i64 (y : Int), .int .i64 (x : Int), .int .i64 (z : Int)] (fun _ => True) (fun _ => False) rfl ?aX ?aP (fun _ hk => hk.elim) (fun _ _ => trivial) hRB.out hBB.out ?aS ?aL ?_; (case aX => rw [World.size_alloc]; rfl); (case aP => exact k57_mkM _ _ _ (⟨(y : Int), (x : Int), (z : Int)⟩ : S57)); (case aS => exact hBB.out.size); (case aL => omega); intro v4 w4 ho hb4 hg4 hat4; have hG4 := Aside0.mk (blk_grown hGB.out hg4 hNE.out); have hO4 := Aside0.mk ho; have hB4 := Aside0.mk hb4; clear ho hb4 hg4 hat4))
                    go_roundw
                    case rel =>
                      refine ⟨z + 1, xs ++ [⟨(y : Int), (x : Int), (z : Int)⟩], by go_num, by omega, ⟨hO4.out, by have := hR.out.2.1; rw [List.length_append]; simp; omega, ?_⟩, hG4.out, hB4⟩
                      have h1 := hR.out.2.2
                      rw [HS.out, hEZ.out] at h1
                      rw [List.append_assoc]; exact h1
                    case measure => simp [intOf]; omega

                  · have hdz : decide ((z : Int) < 16) = false := by simp; omega
                    go_wp2_with (first | ((with_reducible refine gate_builtin (b := .append) (xs := #[.tmp 37, .tmp 39]) rfl ?_); at_builtin; refine Kd.R_append k57 w.heap.size rfl (.tmp 37) (.tmp 39) 25 57 (.agg #[(.int .i64 0), (.int .i64 0), (.int .i64 0)]) 24 rfl Try.underlying25 info57 rfl (by decide) (by omega) u3 xs (⟨(y : Int), (x : Int), (z : Int)⟩ : S57) [.int .i64 (y : Int), .int .i64 (x : Int), .int .i64 (z : Int)] (fun _ => True) (fun _ => False) rfl ?aX ?aP (fun _ hk => hk.elim) (fun _ _ => trivial) hRB.out hBB.out ?aS ?aL ?_; (case aX => rw [World.size_alloc]; rfl); (case aP => exact k57_mkM _ _ _ (⟨(y : Int), (x : Int), (z : Int)⟩ : S57)); (case aS => exact hBB.out.size); (case aL => omega); intro v4 w4 ho hb4 hg4 hat4; have hG4 := Aside0.mk (blk_grown hGB.out hg4 hNE.out); have hO4 := Aside0.mk ho; have hB4 := Aside0.mk hb4; clear ho hb4 hg4 hat4))
                    go_roundw
                    case rel =>
                      refine ⟨z + 1, xs ++ [⟨(y : Int), (x : Int), (z : Int)⟩], by go_num, by omega, ⟨hO4.out, by have := hR.out.2.1; rw [List.length_append]; simp; omega, ?_⟩, hG4.out, hB4⟩
                      have h1 := hR.out.2.2
                      rw [HS.out, hEZ.out] at h1
                      rw [List.append_assoc]; exact h1
                    case measure => simp [intOf]; omega
          · replace hv : g (y * 16 + x) = false := by simpa using hv
            rw [hv] at hc
            have hs := scan_false g y x hlx hv
            have HS := Aside0.mk hs
            clear hs
            go_wp2
            go_roundw
            case rel => exact ⟨x + 1, xs, by go_num, by omega, ⟨hR.out.1, by have := hR.out.2.1; omega, by rw [← HS.out]; exact hR.out.2.2⟩, hg, hb⟩
            case measure => simp [intOf]; omega
        · have hdx : decide ((x : Int) < 16) = false := by simp; omega
          have he := scan_end g y x (by omega)
          have HE := Aside0.mk he
          clear he
          go_wp2
          go_roundw
          case rel =>
            have h1 := hR.out.2.2
            rw [HE.out, List.append_nil] at h1
            exact ⟨y + 1, by go_num, by omega, ⟨by rw [← h1]; exact hR.out.1, by rw [← h1]; have := hR.out.2.1; omega⟩, hg, hb⟩
          case measure => simp [intOf]; omega
    · have hdy : decide ((y : Int) < 16) = false := by simp; omega
      have hy16 : y = 16 := by omega
      subst hy16
      go_wp2
      go_ret
      exact ⟨_, rfl, hR.out.1, hb.out⟩
end Go.Proofs.Ytfgeickfheogoaa.Q

/- Grids and their runs, as the reference has them: lists of 256 bools. -/
namespace Go.Proofs.Ytfgeickfheogoaa.Pure
open Go.RowKit Go.Proofs.Ytfgeickfheogoaa.Q Go.Proofs.YtfgeickfheogoaaW.PrintWords Go.Proofs.YtfgeickfheogoaaW.PrintLast Go.Proofs.YtfgeickfheogoaaW.PrintMore
set_option linter.unusedVariables false
set_option linter.unusedSimpArgs false

/-- A grid as a list. -/
def tab (g : Nat → Bool) : List Bool := (List.range 256).map g
theorem tab_length (g : Nat → Bool) : (tab g).length = 256 := by simp [tab]
theorem tab_get (g : Nat → Bool) (i : Nat) (h : i < 256) : rdOf false (tab g) (i : Int) = g i := by
  simp [rdOf, tab, List.getD_eq_getElem?_getD, h]
theorem tab_set (g : Nat → Bool) (i : Nat) (b : Bool) : (tab g).set i b = tab (fun p => if p = i then b else g p) := by
  apply List.ext_getElem
  · simp [tab]
  · intro j h1 h2
    rw [List.getElem_set]
    simp only [tab, List.getElem_map, List.getElem_range]
    by_cases e : i = j
    · rw [if_pos e, if_pos e.symm]
    · rw [if_neg e, if_neg (fun h => e h.symm)]
theorem tab_congr {g g' : Nat → Bool} (h : ∀ p, p < 256 → g p = g' p) : tab g = tab g' := by
  unfold tab
  apply List.map_congr_left
  intro p hp
  exact h p (by simpa using hp)
theorem tab_false : List.replicate 256 false = tab (fun _ => false) := by
  refine List.ext_getElem (by rw [List.length_replicate, tab_length]) (fun j h1 h2 => ?_)
  rw [List.getElem_replicate]
  simp only [tab, List.getElem_map]
/-- a grid's cells beyond 256 do not matter to its runs -/
theorem endAt_congr {g g' : Nat → Bool} (h : ∀ p, p < 256 → g p = g' p) (y : Nat) (hy : y < 16) : ∀ n x, endAt g y n x = endAt g' y n x := by
  intro n
  induction n with
  | zero => intro x; rfl
  | succ n ih =>
    intro x
    unfold endAt
    by_cases hx : x < 16
    · rw [h (y * 16 + x) (by omega), ih (x + 1)]
    · rw [if_neg (fun c => hx c.1), if_neg (fun c => hx c.1)]
theorem scan_congr {g g' : Nat → Bool} (h : ∀ p, p < 256 → g p = g' p) (y : Nat) (hy : y < 16) : ∀ d x, 17 ≤ x + d → scanRow g y x = scanRow g' y x := by
  intro d
  induction d with
  | zero => intro x hx; rw [scan_end g y x (by omega), scan_end g' y x (by omega)]
  | succ d ih =>
    intro x hx
    by_cases h16 : x < 16
    · cases hv : g (y * 16 + x) with
      | true =>
        have hv' : g' (y * 16 + x) = true := by rw [← h _ (by omega)]; exact hv
        have := endAt_ge g y (16 - x) x
        rw [scan_true g y x h16 hv, scan_true g' y x h16 hv', endAt_congr h y hy, ih _ (by rw [← endAt_congr h y hy]; omega)]
      | false =>
        have hv' : g' (y * 16 + x) = false := by rw [← h _ (by omega)]; exact hv
        rw [scan_false g y x h16 hv, scan_false g' y x h16 hv', ih _ (by omega)]
    · rw [scan_end g y x (by omega), scan_end g' y x (by omega)]
theorem runsL_congr {g g' : Nat → Bool} (h : ∀ p, p < 256 → g p = g' p) : runsL g = runsL g' := by
  unfold runsL runsTo
  rw [List.flatMap_def, List.flatMap_def]
  congr 1
  apply List.map_congr_left
  intro y hy
  exact scan_congr h y (by simpa using hy) 17 0 (by omega)
/-! the reference's grid -/
theorem spec_gridOf_ev (l : List Run) (hl : l.length ≤ 1000000000) (hok : ∀ r ∈ l, 0 ≤ r.f0 ∧ r.f0 < 16 ∧ 0 ≤ r.f1 ∧ r.f2 ≤ 16) : Ev (fun k => spec_gridOf.f k l) (tab (gridF l)) := by
  have key := ev_up2 l.length (fun k i (s : List Bool) => spec_gridOf.l0 k l s (i : Int)) (fun i s => s = tab (gridF (l.take i))) (fun _ _ => tab (gridF l))
    (by
      intro i s hi hs
      right
      have ho := hok l[i] (List.getElem_mem hi)
      refine ⟨tab (gridF (l.take (i + 1))), fun r hr => ?_, rfl, rfl⟩
      have inner : ∀ d x : Nat, l[i].f1 ≤ (x : Int) → ((x : Int) + d = l[i].f2 ∨ (d = 0 ∧ l[i].f2 ≤ x ∧ (x : Int) = l[i].f1)) →
          Ev (fun k => spec_gridOf.l1 k l (tab (fun p => gridF (l.take i) p || runTo l[i] x p)) (i : Int) (x : Int)) r := by
        intro d
        induction d with
        | zero =>
          intro x hx hd
          have he : tab (fun p => gridF (l.take i) p || runTo l[i] x p) = tab (gridF (l.take (i + 1))) := by
            apply tab_congr
            intro p _
            rw [gridF_succ l i hi]
            congr 1
            unfold runTo runIn
            by_cases c : l[i].f1 ≤ ((p % 16 : Nat) : Int)
            · congr 1
              rw [decide_eq_decide]
              omega
            · rw [decide_eq_false c, Bool.and_false, Bool.false_and, Bool.false_and]
          refine Ev.step (fun k => ?_) hr
          simp only [spec_gridOf.l1]
          rw [if_pos (by omega), if_pos (by omega), rdRun l i hi, if_neg (by omega), w64n i (by omega), he]
        | succ d ih =>
          intro x hx hd
          have hx16 : x < 16 := by omega
          obtain ⟨Y, hY⟩ := Int.eq_ofNat_of_zero_le ho.1
          have hs' : (tab (fun p => gridF (l.take i) p || runTo l[i] x p)).set (Y * 16 + x) true = tab (fun p => gridF (l.take i) p || runTo l[i] (x + 1) p) := by
            rw [tab_set]
            exact tab_congr (fun p _ => runTo_step l[i] Y x hY hx16 hx _ p)
          have hn := ih (x + 1) (by omega) (by omega)
          refine Ev.step (fun k => ?_) hn
          simp only [spec_gridOf.l1]
          have e1 : wrap64 (wrap64 (l[i].f0 * 16) + (x : Int)) = ((Y * 16 + x : Nat) : Int) := by
            rw [hY, w64 (x := (Y : Int) * 16) (by omega) (by omega), w64 (x := (Y : Int) * 16 + (x : Int)) (by omega) (by omega)]; omega
          rw [if_pos (by omega), if_pos (by omega), rdRun l i hi, if_pos (by omega), e1, if_pos (by omega), tab_length, if_pos (by omega), Int.toNat_natCast, hs', w64n x (by omega)]
      obtain ⟨F, hF⟩ := Int.eq_ofNat_of_zero_le ho.2.2.1
      have h0 : Ev (fun k => spec_gridOf.l1 k l (tab (fun p => gridF (l.take i) p || runTo l[i] F p)) (i : Int) (F : Int)) r := by
        by_cases c : l[i].f1 ≤ l[i].f2
        · exact inner (l[i].f2 - l[i].f1).toNat F (by omega) (.inl (by omega))
        · exact inner 0 F (by omega) (.inr ⟨rfl, by omega, by omega⟩)
      have he : tab (fun p => gridF (l.take i) p || runTo l[i] F p) = s := by
        rw [hs]
        apply tab_congr
        intro p _
        have : runTo l[i] F p = false := by
          unfold runTo
          rw [hF]
          by_cases c : ((F : Nat) : Int) ≤ ((p % 16 : Nat) : Int)
          · rw [decide_eq_false (show ¬ p % 16 < F by omega), Bool.and_false]
          · rw [decide_eq_false c, Bool.and_false, Bool.false_and]
        rw [this, Bool.or_false]
      rw [he] at h0
      refine Ev.step (fun k => ?_) h0
      simp only [spec_gridOf.l0]
      rw [if_pos (by omega), if_pos (by omega), rdRun l i hi, hF])
    (by
      intro s hs
      refine Ev.step (f := fun _ => some s) (fun k => ?_) (ev_val (Ev.now s) (by rw [hs, List.take_length]))
      simp only [spec_gridOf.l0]
      rw [if_neg (by omega)])
    l.length 0 (tab (gridF (l.take 0))) (by omega) rfl
  unfold spec_gridOf.f
  refine Ev.congr (fun k => ?_) key
  rw [if_pos (by omega), tab_false]
  rfl
/-! the reference's runs -/
def rowRest (g : Nat → Bool) (y x : Nat) (from_ : Int) : List Run :=
  if from_ < 0 then scanRow g y x else ⟨(y : Int), from_, (endAt g y (16 - x) x : Nat)⟩ :: scanRow g y (endAt g y (16 - x) x + 1)
theorem spec_runsOf_ev (g : Nat → Bool) : Ev (fun k => spec_runsOf.f k (tab g)) (runsL g) := by
  have key := ev_up2 16 (fun k y (s : List Run) => spec_runsOf.l0 k (tab g) s (y : Int)) (fun y s => s = runsTo g y ∧ s.length ≤ 17 * y) (fun _ _ => runsL g)
    (by
      intro y s hy hs
      right
      have inner : ∀ r, (∀ acc : List Run, acc = runsTo g (y + 1) → acc.length ≤ 17 * (y + 1) → Ev (fun k => spec_runsOf.l0 k (tab g) acc ((y + 1 : Nat) : Int)) r) →
          Ev (fun k => spec_runsOf.l1 k (tab g) s (y : Int) (-1) 0) r := by
        intro r hnext
        have h := ev_up2 17 (fun k x (q : List Run × Int) => spec_runsOf.l1 k (tab g) q.1 (y : Int) q.2 (x : Int))
          (fun x q => q.1 ++ rowRest g y x q.2 = runsTo g (y + 1) ∧ q.1.length ≤ 17 * y + x ∧ (q.2 = -1 ∨ (0 ≤ q.2 ∧ q.2 < x ∧ x ≤ 16))) (fun _ _ => r)
          (by
            intro x q hx hq
            obtain ⟨acc, fr⟩ := q
            obtain ⟨h1, h2, h3⟩ := hq
            simp only at h1 h2 h3
            right
            have j3 : ∀ (b : Bool), (x < 16 → b = g (y * 16 + x)) → (x = 16 → b = false) → ∃ s' : List Run × Int,
                (∀ r, Ev (fun k => spec_runsOf.l1 k (tab g) s'.1 (y : Int) s'.2 ((x + 1 : Nat) : Int)) r → Ev (fun k => spec_runsOf.j2 k (tab g) acc (y : Int) fr (x : Int) b) r) ∧
                (s'.1 ++ rowRest g y (x + 1) s'.2 = runsTo g (y + 1) ∧ s'.1.length ≤ 17 * y + (x + 1) ∧ (s'.2 = -1 ∨ (0 ≤ s'.2 ∧ s'.2 < ((x + 1 : Nat) : Int) ∧ x + 1 ≤ 16))) := by
              intro b hb hb16
              rcases h3 with h3 | h3
              · subst h3
                cases b with
                | true =>
                  have hx16 : x < 16 := by
                    by_cases c : x = 16
                    · have := hb16 c; cases this
                    · omega
                  refine ⟨(acc, (x : Int)), fun r hr => ?_, ?_, by simp only; omega, .inr (by simp only; omega)⟩
                  · refine Ev.step (f := fun k => spec_runsOf.j3 k (tab g) acc (y : Int) (-1) (x : Int) true true) (fun k => ?_) (Ev.step (fun k => ?_) hr)
                    · simp only [spec_runsOf.j2]; simp
                    · simp only [spec_runsOf.j3]
                      rw [if_pos trivial, if_pos trivial, w64n x (by omega)]
                  · have hv := (hb hx16).symm
                    rw [← h1]
                    show acc ++ rowRest g y (x + 1) (x : Int) = acc ++ rowRest g y x (-1)
                    unfold rowRest
                    rw [if_neg (by omega), if_pos (by omega), scan_true g y x hx16 hv, endAt_step g y x hx16 hv]
                | false =>
                  refine ⟨(acc, -1), fun r hr => ?_, ?_, by simp only; omega, .inl rfl⟩
                  · refine Ev.step (f := fun k => spec_runsOf.j3 k (tab g) acc (y : Int) (-1) (x : Int) false false) (fun k => ?_) (Ev.step (fun k => ?_) hr)
                    · simp only [spec_runsOf.j2]; simp
                    · simp only [spec_runsOf.j3]
                      rw [if_neg (by simp), if_neg (by simp), if_neg (by omega), w64n x (by omega)]
                  · rw [← h1]
                    show acc ++ rowRest g y (x + 1) (-1) = acc ++ rowRest g y x (-1)
                    unfold rowRest
                    rw [if_pos (by omega), if_pos (by omega)]
                    by_cases c : x < 16
                    · rw [scan_false g y x c (hb c).symm]
                    · rw [scan_end g y x (by omega), scan_end g y (x + 1) (by omega)]
              · cases b with
                | true =>
                  have hx16 : x < 16 := by
                    by_cases c : x = 16
                    · have := hb16 c; cases this
                    · omega
                  refine ⟨(acc, fr), fun r hr => ?_, ?_, by simp only; omega, .inr (by simp only; omega)⟩
                  · refine Ev.step (f := fun k => spec_runsOf.j3 k (tab g) acc (y : Int) fr (x : Int) true false) (fun k => ?_) (Ev.step (fun k => ?_) hr)
                    · simp only [spec_runsOf.j2]
                      rw [if_pos trivial, decide_eq_false (show ¬ fr < 0 by omega)]
                    · simp only [spec_runsOf.j3]
                      rw [if_neg (by simp), if_pos trivial, w64n x (by omega)]
                  · have hv := (hb hx16).symm
                    rw [← h1]
                    show acc ++ rowRest g y (x + 1) fr = acc ++ rowRest g y x fr
                    unfold rowRest
                    rw [if_neg (by omega), if_neg (by omega), endAt_step g y x hx16 hv]
                | false =>
                  refine ⟨(acc ++ [⟨(y : Int), fr, (x : Int)⟩], -1), fun r hr => ?_, ?_, by simp; omega, .inl rfl⟩
                  · refine Ev.step (f := fun k => spec_runsOf.j3 k (tab g) acc (y : Int) fr (x : Int) false false) (fun k => ?_) (Ev.step (fun k => ?_) hr)
                    · simp only [spec_runsOf.j2]; simp
                    · simp only [spec_runsOf.j3]
                      rw [if_neg (by simp), if_neg (by simp), if_pos (by omega), if_pos (by omega), w64n x (by omega)]
                  · rw [← h1]
                    show acc ++ [⟨(y : Int), fr, (x : Int)⟩] ++ rowRest g y (x + 1) (-1) = acc ++ rowRest g y x fr
                    unfold rowRest
                    have hst : endAt g y (16 - x) x = x := endAt_stop g y x (by
                      by_cases c : x < 16
                      · right; exact (hb c).symm
                      · left; omega)
                    rw [if_pos (by omega), if_neg (by omega), hst]
                    simp
            by_cases hx16 : x < 16
            · obtain ⟨s', e1, e2⟩ := j3 (g (y * 16 + x)) (fun _ => rfl) (fun c => by omega)
              refine ⟨s', fun r hr => ?_, e2, rfl⟩
              refine Ev.step (fun k => ?_) (e1 r hr)
              simp only [spec_runsOf.l1]
              have e3 : wrap64 (wrap64 ((y : Int) * 16) + (x : Int)) = ((y * 16 + x : Nat) : Int) := by
                rw [w64 (x := (y : Int) * 16) (by omega) (by omega), w64 (x := (y : Int) * 16 + (x : Int)) (by omega) (by omega)]; omega
              rw [if_pos (by omega), if_pos (by omega), e3, if_pos (by omega), tab_length, if_pos (by omega), tab_get g _ (by omega)]
            · obtain ⟨s', e1, e2⟩ := j3 false (fun c => by omega) (fun _ => rfl)
              refine ⟨s', fun r hr => ?_, e2, rfl⟩
              refine Ev.step (fun k => ?_) (e1 r hr)
              simp only [spec_runsOf.l1]
              rw [if_pos (by omega), if_neg (by omega)])
          (by
            intro q hq
            obtain ⟨acc, fr⟩ := q
            obtain ⟨h1, h2, h3⟩ := hq
            simp only at h1 h2 h3
            have hf : fr = -1 := by omega
            subst hf
            have he : acc = runsTo g (y + 1) := by
              rw [← h1]
              unfold rowRest
              rw [if_pos (by omega), scan_end g y 17 (by omega), List.append_nil]
            refine Ev.step (fun k => ?_) (hnext acc he (by omega))
            simp only [spec_runsOf.l1]
            rw [if_neg (by omega), w64n y (by omega)])
          17 0 (s, -1) (by omega) ⟨by
            unfold rowRest
            rw [if_pos (by omega), hs.1, ← runsTo_succ], by have := hs.2; simp only; omega, .inl rfl⟩
        exact h
      have hlen : (runsTo g (y + 1)).length ≤ 17 * (y + 1) := by
        rw [runsTo_succ, List.length_append]
        have hsc : ∀ d x, 17 ≤ x + d → (scanRow g y x).length ≤ 17 - x := by
          intro d
          induction d with
          | zero => intro x hx; rw [scan_end g y x (by omega)]; simp
          | succ d ih =>
            intro x hx
            by_cases h16 : x < 16
            · cases hv : g (y * 16 + x) with
              | true =>
                have := endAt_ge g y (16 - x) x
                rw [scan_true g y x h16 hv, List.length_cons]
                have := ih (endAt g y (16 - x) x + 1) (by omega)
                omega
              | false =>
                rw [scan_false g y x h16 hv]
                have := ih (x + 1) (by omega)
                omega
            · rw [scan_end g y x (by omega)]; simp
        have h1 := hsc 17 0 (by omega)
        have h2 := hs.2
        rw [hs.1] at h2
        omega
      refine ⟨runsTo g (y + 1), fun r hr => ?_, ⟨rfl, hlen⟩, rfl⟩
      refine Ev.step (fun k => ?_) (inner r (fun acc ha _ => by rw [ha]; exact hr))
      simp only [spec_runsOf.l0]
      rw [if_pos (by omega)])
    (by
      intro s hs
      refine Ev.step (f := fun _ => some s) (fun k => ?_) (ev_val (Ev.now s) hs.1)
      simp only [spec_runsOf.l0]
      rw [if_neg (by omega)])
    16 0 [] (by omega) ⟨by simp [runsTo], by simp⟩
  exact key
end Go.Proofs.Ytfgeickfheogoaa.Pure

/- (impl.grid).has: whether a pixel, which may be anywhere, is in a grid. -/
namespace Go.Proofs.Ytfgeickfheogoaa.Q
open Go.RowKit Go.Proofs.YtfgeickfheogoaaW.PrintWords Go.Proofs.YtfgeickfheogoaaW.PrintLast Go.Proofs.YtfgeickfheogoaaW.PrintMore
attribute [local go_sem] max2_int min2_int max_two min_two max_three min_three max_four min_four
set_option linter.unusedVariables false
set_option linter.unusedSimpArgs false

def hasP (g : Nat → Bool) (x y : Int) : Bool := decide (x ≥ 0) && decide (x < 16) && decide (y ≥ 0) && decide (y < 16) && g (y.toNat * 16 + x.toNat)

set_option maxHeartbeats 2000000 in
set_option maxRecDepth 100000 in
theorem has_calls (g : Nat → Bool) (x y : Int) (w : World) :
    Calls Try.prog 60 #[.agg (gc g), .int .i64 x, .int .i64 y] w fun e w' => e = .returned (.bool (hasP g x y)) ∧ Below w.heap.size w w' := by
  have hB := Aside0.mk (below_alloc (Below.refl w.heap.size w) (.cells (gc g) 66))
  have hgs := gc_size g
  by_cases h1 : x ≥ 0
  · have d1 : decide (0 ≤ x) = true := by simpa using h1
    by_cases h2 : x < 16
    · have d2 : decide (x < 16) = true := by simpa using h2
      by_cases h3 : y ≥ 0
      · have d3 : decide (0 ≤ y) = true := by simpa using h3
        by_cases h4 : y < 16
        · have d4 : decide (y < 16) = true := by simpa using h4
          obtain ⟨x, rfl⟩ := Int.eq_ofNat_of_zero_le h1
          obtain ⟨y, rfl⟩ := Int.eq_ofNat_of_zero_le h3
          have hE := Aside0.mk (show hasP g (x : Int) (y : Int) = g (y * 16 + x) by simp [hasP]; omega)
          have hc := (GridAt.new w g).cell (y * 16 + x) (by omega)
          go_enter Try.func60, Try.ntmps60
          go_wp2
          go_ret
          exact ⟨by rw [hE.out]; rfl, hB.out⟩
        · have d4 : decide (y < 16) = false := by simpa using h4
          have hE := Aside0.mk (show hasP g x y = false by simp [hasP, h4])
          go_enter Try.func60, Try.ntmps60
          go_wp2
          go_ret
          exact ⟨by rw [hE.out]; rfl, hB.out⟩
      · have d3 : decide (0 ≤ y) = false := by simpa using h3
        have hE := Aside0.mk (show hasP g x y = false by simp [hasP, h3])
        go_enter Try.func60, Try.ntmps60
        go_wp2
        go_ret
        exact ⟨by rw [hE.out]; rfl, hB.out⟩
    · have d2 : decide (x < 16) = false := by simpa using h2
      have hE := Aside0.mk (show hasP g x y = false by simp [hasP, h2])
      go_enter Try.func60, Try.ntmps60
      go_wp2
      go_ret
      exact ⟨by rw [hE.out]; rfl, hB.out⟩
  · have d1 : decide (0 ≤ x) = false := by simpa using h1
    have hE := Aside0.mk (show hasP g x y = false by simp [hasP, h1])
    go_enter Try.func60, Try.ntmps60
    go_wp2
    go_ret
    exact ⟨by rw [hE.out]; rfl, hB.out⟩
end Go.Proofs.Ytfgeickfheogoaa.Q

/- Pixels that are connected in a grid: what a search finds that begins at one of them. -/
namespace Go.Proofs.Ytfgeickfheogoaa.Q
open Go.RowKit Go.Proofs.YtfgeickfheogoaaW.PrintWords Go.Proofs.YtfgeickfheogoaaW.PrintLast Go.Proofs.YtfgeickfheogoaaW.PrintMore
attribute [local go_sem] max2_int min2_int max_two min_two max_three min_three max_four min_four
set_option linter.unusedVariables false
set_option linter.unusedSimpArgs false

theorem hasP_iff (g : Nat → Bool) (x y : Int) : hasP g x y = true ↔ 0 ≤ x ∧ x < 16 ∧ 0 ≤ y ∧ y < 16 ∧ g (y.toNat * 16 + x.toNat) = true := by
  simp [hasP, and_assoc]
theorem hasP_nat (g : Nat → Bool) (r : Nat) (hr : r < 256) : hasP g ((r % 16 : Nat) : Int) ((r / 16 : Nat) : Int) = g r := by
  have e : r / 16 * 16 + r % 16 = r := by omega
  rw [Bool.eq_iff_iff, hasP_iff, Int.toNat_natCast, Int.toNat_natCast, e]
  constructor
  · intro h; exact h.2.2.2.2
  · intro h; exact ⟨by omega, by omega, by omega, by omega, h⟩
end Go.Proofs.Ytfgeickfheogoaa.Q

/- impl.neighbours: the four neighbours of a pixel. -/
namespace Go.Proofs.Ytfgeickfheogoaa.Q
open Go.RowKit Go.Proofs.YtfgeickfheogoaaW.PrintWords Go.Proofs.YtfgeickfheogoaaW.PrintLast Go.Proofs.YtfgeickfheogoaaW.PrintMore
attribute [local go_sem] max2_int min2_int max_two min_two max_three min_three max_four min_four
set_option linter.unusedVariables false
set_option linter.unusedSimpArgs false
open Go.Proofs.Ytfgeickfheogoaa.Pure

/-- neighbour i of a pixel, which may be anywhere -/
def nbI (x y : Int) (i : Nat) : Int × Int := match i with
  | 0 => (x - 1, y)
  | 1 => (x + 1, y)
  | 2 => (x, y - 1)
  | _ => (x, y + 1)
/-- whether the neighbours before i all have what h says -/
def nbAll (h : Int → Int → Bool) (x y : Int) : Bool := h (x - 1) y && h (x + 1) y && h x (y - 1) && h x (y + 1)
def nbAny (h : Int → Int → Bool) (x y : Int) : Bool := h (x - 1) y || h (x + 1) y || h x (y - 1) || h x (y + 1)
theorem nbAll_no {h : Int → Int → Bool} {x y : Int} (i : Nat) (hi : i < 4) (hf : h (nbI x y i).1 (nbI x y i).2 = false) : nbAll h x y = false := by
  unfold nbAll
  obtain rfl | rfl | rfl | rfl : i = 0 ∨ i = 1 ∨ i = 2 ∨ i = 3 := by omega
  all_goals (simp only [nbI] at hf; rw [hf]; simp)
theorem nbAll_yes {h : Int → Int → Bool} {x y : Int} (ha : ∀ i, i < 4 → h (nbI x y i).1 (nbI x y i).2 = true) : nbAll h x y = true := by
  unfold nbAll
  have h0 := ha 0 (by omega)
  have h1 := ha 1 (by omega)
  have h2 := ha 2 (by omega)
  have h3 := ha 3 (by omega)
  simp only [nbI] at h0 h1 h2 h3
  rw [h0, h1, h2, h3]; rfl
theorem nbAny_yes {h : Int → Int → Bool} {x y : Int} (i : Nat) (hi : i < 4) (hf : h (nbI x y i).1 (nbI x y i).2 = true) : nbAny h x y = true := by
  unfold nbAny
  obtain rfl | rfl | rfl | rfl : i = 0 ∨ i = 1 ∨ i = 2 ∨ i = 3 := by omega
  all_goals (simp only [nbI] at hf; rw [hf]; simp)
theorem nbAny_no {h : Int → Int → Bool} {x y : Int} (ha : ∀ i, i < 4 → h (nbI x y i).1 (nbI x y i).2 = false) : nbAny h x y = false := by
  unfold nbAny
  have h0 := ha 0 (by omega)
  have h1 := ha 1 (by omega)
  have h2 := ha 2 (by omega)
  have h3 := ha 3 (by omega)
  simp only [nbI] at h0 h1 h2 h3
  rw [h0, h1, h2, h3]; rfl
def nbv (x y : Int) : Value := .agg #[.int .i64 (x - 1), .int .i64 y, .int .i64 (x + 1), .int .i64 y, .int .i64 x, .int .i64 (y - 1), .int .i64 x, .int .i64 (y + 1)]

set_option maxHeartbeats 4000000 in
set_option maxRecDepth 100000 in
theorem neighbours_calls (x y : Int) (h0 : 0 ≤ x ∧ x < 16 ∧ 0 ≤ y ∧ y < 16) (w : World) :
    Calls Try.prog 84 #[.int .i64 x, .int .i64 y] w fun e w' => e = .returned (nbv x y) ∧ Below w.heap.size w w' := by
  have e1 : wrap64 (x - 1) = x - 1 := w64 (by omega) (by omega)
  have e2 : wrap64 (x + 1) = x + 1 := w64 (by omega) (by omega)
  have e3 : wrap64 (y - 1) = y - 1 := w64 (by omega) (by omega)
  have e4 : wrap64 (y + 1) = y + 1 := w64 (by omega) (by omega)
  have hB := Aside0.mk (below_alloc (Below.refl w.heap.size w) (.cells #[.int .i64 0, .int .i64 0, .int .i64 0, .int .i64 0, .int .i64 0, .int .i64 0, .int .i64 0, .int .i64 0] 90))
  clear h0
  go_enter Try.func84, Try.ntmps84
  go_wp2
  refine bodyPost_ret (results_cell_row rfl _ _ w.heap.size 90 #[.int .i64 (x - 1), .int .i64 y, .int .i64 (x + 1), .int .i64 y, .int .i64 x, .int .i64 (y - 1), .int .i64 x, .int .i64 (y + 1)] (0, 0) (.array 4 89) rfl (blk_new _ _) Try.underlying90 rfl (by kernel_rfl)) rfl ?_
  exact ⟨rfl, below_alloc (Below.refl _ _) _⟩
end Go.Proofs.Ytfgeickfheogoaa.Q

/- impl.gridBy: the grid of the pixels for which a function value's answer is true. -/
namespace Go.Proofs.Ytfgeickfheogoaa.Q
open Go.RowKit Go.Proofs.YtfgeickfheogoaaW.PrintWords Go.Proofs.YtfgeickfheogoaaW.PrintLast Go.Proofs.YtfgeickfheogoaaW.PrintMore
attribute [local go_sem] max2_int min2_int max_two min_two max_three min_three max_four min_four
set_option linter.unusedVariables false
set_option linter.unusedSimpArgs false

/-- what has been asked so far -/
def gso (so : Nat → Nat → Bool) (n : Nat) : Nat → Bool := fun p => decide (p < n) && so (p % 16) (p / 16)

theorem gso_step (so : Nat → Nat → Bool) (x y : Nat) (hx : x < 16) (p : Nat) : (if p = y * 16 + x then so x y else gso so (16 * y + x) p) = gso so (16 * y + (x + 1)) p := by
  unfold gso
  by_cases e : p = y * 16 + x
  · rw [if_pos e]
    have h1 : p % 16 = x := by omega
    have h2 : p / 16 = y := by omega
    rw [h1, h2]
    simp; omega
  · rw [if_neg e]
    congr 1
    rw [decide_eq_decide]
    omega
set_option maxHeartbeats 8000000 in
set_option maxRecDepth 100000 in
theorem gridBy_calls (q : Nat) (lb : Array Value) (so : Nat → Nat → Bool) (w : World)
    (eg : ∀ args W, (callFunc q args).run Try.prog W = .ok (.enter q args) W)
    (hp : ∀ (W : World) (x y : Nat), x < 16 → y < 16 → Below w.heap.size w W → Calls Try.prog q (#[.int .i64 (x : Int), .int .i64 (y : Int)] ++ lb) W fun e W' => e = .returned (.bool (so x y)) ∧ Below W.heap.size W W') :
    Calls Try.prog 62 #[.func (.func q) #[] lb] w fun e w' => e = .returned (.agg (gc (gso so 256))) ∧ Below w.heap.size w w' := by
  have HP := Aside0.mk hp
  clear hp
  have z0 := zero66
  have hst := run_storeCells_new (P := Try.prog) (w.alloc (.cells (gc fun _ => false) 66)) 66 (gc fun _ => false) (gc fun _ => false) (by rw [gc_size]; exact info66) rfl (gc_one _)
  simp only [World.size_alloc] at hst
  go_enter Try.func62, Try.ntmps62
  go_wp2
  go_loopw [7] (fun v7 W => ∃ y : Nat, v7 = .int .i64 y ∧ y ≤ 16 ∧ GridAt W (w.heap.size + 1) (gso so (16 * y)) ∧ GridAt W w.heap.size (fun _ => false) ∧ Aside0 (Below w.heap.size w W)) (fun v7 _ => 16 - (intOf v7).toNat)
  case atStart =>
    refine ⟨0, rfl, by omega, ?_, (GridAt.new _ _).alloc _, ⟨((Below.refl _ _).alloc (Nat.le_refl _) _).alloc (by simp) _⟩⟩
    have h := GridAt.new (w.alloc (.cells (gc fun _ => false) 66)) (fun _ => false)
    simp only [World.size_alloc] at h
    exact h.congr (fun p _ => by simp [gso])
  case round =>
    obtain ⟨y, rfl, hy, hg, hg2, hb⟩ := hrel
    clear hst
    by_cases hlt : y < 16
    · have hdy : decide ((y : Int) < 16) = true := by simp; omega
      go_wp2
      go_loopw [10] (fun v10 W => ∃ x : Nat, v10 = .int .i64 x ∧ x ≤ 16 ∧ GridAt W (w.heap.size + 1) (gso so (16 * y + x)) ∧ GridAt W w.heap.size (fun _ => false) ∧ Aside0 (Below w.heap.size w W)) (fun v10 _ => 16 - (intOf v10).toNat)
      case atStart => exact ⟨0, rfl, by omega, hg, hg2, hb⟩
      case round =>
        clear hg hg2 hb
        obtain ⟨x, rfl, hx, hg, hg2, hb⟩ := hrel
        by_cases hlx : x < 16
        · have hdx : decide ((x : Int) < 16) = true := by simp; omega
          go_wp2
          go_region_with (first | (go_at_fn q; refine (HP.out _ x y hlx hlt (by first | exact hb.out | exact below_drew hb.out | exact pw_below_drewN hb.out _)).mono ?_; rintro e w' ⟨rfl, hb2⟩; have hgn := Aside0.mk (blk_below (w := wr.drew) hg hb2); have hgn2 := Aside0.mk (blk_below (w := wr.drew) hg2 hb2); have hbn := Aside0.mk (below_then (below_drew hb.out) (below_drew hb.out).size hb2); have hc1 := GridAt.cell hgn.out (y * 16 + x) (by omega); have hf1 := GridAt.free hgn.out (y * 16 + x); clear hb2))
          all_goals
            go_wp2
            go_roundw
            case rel => exact ⟨x + 1, by go_num, by omega, (GridAt.set_ hgn.out (y * 16 + x) (so x y)).congr (fun p _ => gso_step so x y hlx p), blk_far hgn2.out (by simp) _, ⟨below_set hbn.out (by omega)⟩⟩
            case measure => simp [intOf]; omega
        · have hdx : decide ((x : Int) < 16) = false := by simp; omega
          have hx16 : x = 16 := by omega
          subst hx16
          go_wp2
          go_roundw
          case rel => exact ⟨y + 1, by go_num, by omega, hg.congr (fun p _ => by rw [Nat.mul_add]), hg2, hb⟩
          case measure => simp [intOf]; omega
    · have hdy : decide ((y : Int) < 16) = false := by simp; omega
      have hy16 : y = 16 := by omega
      subst hy16
      have hg' : wr.heap[w.heap.size + 1]? = some (.cells (gc (gso so 256)) 66 (0, 0)) := hg
      have hg2' : wr.heap[w.heap.size]? = some (.cells (gc fun _ => false) 66 (0, 0)) := hg2
      have hi : (Try.prog.info? 66).map (·.size) = some (gc (gso so 256)).size := by rw [gc_size]; exact info66
      have hold : (gc fun _ => false).size = (gc (gso so 256)).size := by rw [gc_size, gc_size]
      have h1 := gc_one (gso so 256)
      go_wp2_with (first
        | ((with_reducible refine gate_dst (N := 23) rfl ?_); refine wpList_load_row rfl 66 (.tmp 3) rfl (w.heap.size + 1) rfl 66 (gc (gso so 256)) (0, 0) (.array 16 64) hg' underlying66 rfl hi ?_)
        | ((with_reducible refine wpList_store_row rfl 66 (.tmp 2) (.tmp 23) rfl w.heap.size (gc (gso so 256)) ?hx ?hy 66 (gc fun _ => false) hg2' hi hold h1 ?_); (case hx => rfl); (case hy => rfl)))
      refine bodyPost_ret (results_cell_row rfl _ _ w.heap.size 66 (gc (gso so 256)) (0, 0) (.array 16 64) rfl (hg2.setRow (gso so 256)) underlying66 rfl hi) rfl ?_
      exact ⟨rfl, below_setRow hb.out (Nat.le_refl _) _⟩
end Go.Proofs.Ytfgeickfheogoaa.Q

/- (impl.grid).edge: the pixels of a grid that have a neighbour that is not in it. -/
namespace Go.Proofs.Ytfgeickfheogoaa.Q
open Go.RowKit Go.Proofs.YtfgeickfheogoaaW.PrintWords Go.Proofs.YtfgeickfheogoaaW.PrintLast Go.Proofs.YtfgeickfheogoaaW.PrintMore
attribute [local go_sem] max2_int min2_int max_two min_two max_three min_three max_four min_four
set_option linter.unusedVariables false
set_option linter.unusedSimpArgs false

/-- whether pixel p of a grid is at its edge -/
def edgeP (g : Nat → Bool) (x y : Nat) : Bool := g (y * 16 + x) && !(nbAll (hasP g) (x : Int) (y : Int))

set_option maxHeartbeats 1600000 in
set_option maxRecDepth 100000 in
theorem edge1_calls (g : Nat → Bool) (x y : Nat) (hx : x < 16) (hy : y < 16) (B : Nat) (w : World) (hg : GridAt w B g) :
    Calls Try.prog 83 #[.int .i64 (x : Int), .int .i64 (y : Int), .pointer (some ⟨B, 0, none⟩)] w fun e w' => e = .returned (.bool (edgeP g x y)) ∧ Below w.heap.size w w' := by
  have hgs := gc_size g
  have hcg := hg.cell (y * 16 + x) (by omega)
  have HN := Aside0.mk (neighbours_calls (x : Int) (y : Int) (by omega))
  have HG := Aside0.mk hg
  have HI := Aside0.mk (show (Try.prog.info? 66).map (·.size) = some (gc g).size by rw [gc_size]; exact info66)
  clear hg
  by_cases hp : g (y * 16 + x) = true
  · rw [hp] at hcg
    go_enter Try.func83, Try.ntmps83
    go_wp2_with (first
      | (go_at_call 84; refine (HN.out _).mono ?_; rintro e w1 ⟨rfl, hb1⟩; have HB1 := Aside0.mk hb1; clear hb1))
    unfold nbv
    go_loopw [17] (fun v17 W => ∃ i : Nat, v17 = .int .i64 i ∧ i ≤ 4 ∧ Aside0 (∀ j, j < i → hasP g (nbI x y j).1 (nbI x y j).2 = true) ∧ Aside0 (Below w.heap.size w W)) (fun v17 _ => 4 - (intOf v17).toNat)
    case atStart => exact ⟨0, rfl, by omega, ⟨fun j hj => absurd hj (by omega)⟩, HB1⟩
    case round =>
      obtain ⟨i, rfl, hi, HA, HB⟩ := hrel
      obtain ⟨wo, rfl⟩ : ∃ wo : World, wo = wr := ⟨_, rfl⟩
      have HGW := Aside0.mk (HG.out.below HB.out)
      have hg' : wo.heap[B]? = some (.cells (gc g) 66 (0, 0)) := HGW.out
      by_cases h4 : i = 4
      · subst h4
        have HE := Aside0.mk (show edgeP g x y = false by unfold edgeP; rw [hp, nbAll_yes (fun i hi => HA.out i hi)]; rfl)
        go_wp2
        go_ret
        exact ⟨by rw [HE.out]; rfl, HB.out⟩
      · have hall : ∀ (nx ny : Int), nbI x y i = (nx, ny) → True := fun _ _ _ => trivial
        obtain h | h | h | h : i = 0 ∨ i = 1 ∨ i = 2 ∨ i = 3 := by omega
        all_goals subst h
        · clear hall
          have hn : nbI x y 0 = ((x : Int) - 1, (y : Int)) := rfl
          cases hv : hasP g ((x : Int) - 1) ((y : Int)) with
          | true =>
            have HC := Aside0.mk (fun W => has_calls g ((x : Int) - 1) ((y : Int)) W)
            rw [hv] at HC
            have HV := Aside0.mk hv
            clear hv
            go_wp2_with (first
              | ((with_reducible refine gate_dst (N := 19) rfl ?_); refine Kd.event_run (v := .agg #[.int .i64 ((x : Int) - 1), .int .i64 ((y : Int))]) (w1 := wo) rfl (by kernel_rfl) ?_)
              | ((with_reducible refine gate_dst (N := 20) rfl ?_); refine wpList_load_row rfl 66 (.tmp 2) rfl B rfl 66 (gc g) (0, 0) (.array 16 64) (blk_alloc hg' _) underlying66 rfl HI.out ?_)
              | (go_at_call 60; refine (HC.out _).mono ?_; rintro e w2 ⟨rfl, hb2⟩; have HB2 := Aside0.mk (below_then (below_alloc HB.out _) (below_alloc HB.out _).size hb2); clear hb2))
            go_roundw
            case rel => exact ⟨0+1, by go_num, by omega, ⟨fun j hj => by
              by_cases e : j = 0
              · subst e; exact HV.out
              · exact HA.out j (by omega)⟩, HB2⟩
            case measure => simp [intOf]
          | false =>
            have HC := Aside0.mk (fun W => has_calls g ((x : Int) - 1) ((y : Int)) W)
            rw [hv] at HC
            have HE := Aside0.mk (show edgeP g x y = true by unfold edgeP; rw [hp, nbAll_no 0 (by omega) hv]; rfl)
            clear hv
            go_wp2_with (first
              | ((with_reducible refine gate_dst (N := 19) rfl ?_); refine Kd.event_run (v := .agg #[.int .i64 ((x : Int) - 1), .int .i64 ((y : Int))]) (w1 := wo) rfl (by kernel_rfl) ?_)
              | ((with_reducible refine gate_dst (N := 20) rfl ?_); refine wpList_load_row rfl 66 (.tmp 2) rfl B rfl 66 (gc g) (0, 0) (.array 16 64) (blk_alloc hg' _) underlying66 rfl HI.out ?_)
              | (go_at_call 60; refine (HC.out _).mono ?_; rintro e w2 ⟨rfl, hb2⟩; have HB2 := Aside0.mk (below_then (below_alloc HB.out _) (below_alloc HB.out _).size hb2); clear hb2))
            go_ret
            exact ⟨by rw [HE.out]; rfl, HB2.out⟩
        · clear hall
          have hn : nbI x y 1 = ((x : Int) + 1, (y : Int)) := rfl
          cases hv : hasP g ((x : Int) + 1) ((y : Int)) with
          | true =>
            have HC := Aside0.mk (fun W => has_calls g ((x : Int) + 1) ((y : Int)) W)
            rw [hv] at HC
            have HV := Aside0.mk hv
            clear hv
            go_wp2_with (first
              | ((with_reducible refine gate_dst (N := 19) rfl ?_); refine Kd.event_run (v := .agg #[.int .i64 ((x : Int) + 1), .int .i64 ((y : Int))]) (w1 := wo) rfl (by kernel_rfl) ?_)
              | ((with_reducible refine gate_dst (N := 20) rfl ?_); refine wpList_load_row rfl 66 (.tmp 2) rfl B rfl 66 (gc g) (0, 0) (.array 16 64) (blk_alloc hg' _) underlying66 rfl HI.out ?_)
              | (go_at_call 60; refine (HC.out _).mono ?_; rintro e w2 ⟨rfl, hb2⟩; have HB2 := Aside0.mk (below_then (below_alloc HB.out _) (below_alloc HB.out _).size hb2); clear hb2))
            go_roundw
            case rel => exact ⟨1+1, by go_num, by omega, ⟨fun j hj => by
              by_cases e : j = 1
              · subst e; exact HV.out
              · exact HA.out j (by omega)⟩, HB2⟩
            case measure => simp [intOf]
          | false =>
            have HC := Aside0.mk (fun W => has_calls g ((x : Int) + 1) ((y : Int)) W)
            rw [hv] at HC
            have HE := Aside0.mk (show edgeP g x y = true by unfold edgeP; rw [hp, nbAll_no 1 (by omega) hv]; rfl)
            clear hv
            go_wp2_with (first
              | ((with_reducible refine gate_dst (N := 19) rfl ?_); refine Kd.event_run (v := .agg #[.int .i64 ((x : Int) + 1), .int .i64 ((y : Int))]) (w1 := wo) rfl (by kernel_rfl) ?_)
              | ((with_reducible refine gate_dst (N := 20) rfl ?_); refine wpList_load_row rfl 66 (.tmp 2) rfl B rfl 66 (gc g) (0, 0) (.array 16 64) (blk_alloc hg' _) underlying66 rfl HI.out ?_)
              | (go_at_call 60; refine (HC.out _).mono ?_; rintro e w2 ⟨rfl, hb2⟩; have HB2 := Aside0.mk (below_then (below_alloc HB.out _) (below_alloc HB.out _).size hb2); clear hb2))
            go_ret
            exact ⟨by rw [HE.out]; rfl, HB2.out⟩
        · clear hall
          have hn : nbI x y 2 = ((x : Int), (y : Int) - 1) := rfl
          cases hv : hasP g ((x : Int)) ((y : Int) - 1) with
          | true =>
            have HC := Aside0.mk (fun W => has_calls g ((x : Int)) ((y : Int) - 1) W)
            rw [hv] at HC
            have HV := Aside0.mk hv
            clear hv
            go_wp2_with (first
              | ((with_reducible refine gate_dst (N := 19) rfl ?_); refine Kd.event_run (v := .agg #[.int .i64 ((x : Int)), .int .i64 ((y : Int) - 1)]) (w1 := wo) rfl (by kernel_rfl) ?_)
              | ((with_reducible refine gate_dst (N := 20) rfl ?_); refine wpList_load_row rfl 66 (.tmp 2) rfl B rfl 66 (gc g) (0, 0) (.array 16 64) (blk_alloc hg' _) underlying66 rfl HI.out ?_)
              | (go_at_call 60; refine (HC.out _).mono ?_; rintro e w2 ⟨rfl, hb2⟩; have HB2 := Aside0.mk (below_then (below_alloc HB.out _) (below_alloc HB.out _).size hb2); clear hb2))
            go_roundw
            case rel => exact ⟨2+1, by go_num, by omega, ⟨fun j hj => by
              by_cases e : j = 2
              · subst e; exact HV.out
              · exact HA.out j (by omega)⟩, HB2⟩
            case measure => simp [intOf]
          | false =>
            have HC := Aside0.mk (fun W => has_calls g ((x : Int)) ((y : Int) - 1) W)
            rw [hv] at HC
            have HE := Aside0.mk (show edgeP g x y = true by unfold edgeP; rw [hp, nbAll_no 2 (by omega) hv]; rfl)
            clear hv
            go_wp2_with (first
              | ((with_reducible refine gate_dst (N := 19) rfl ?_); refine Kd.event_run (v := .agg #[.int .i64 ((x : Int)), .int .i64 ((y : Int) - 1)]) (w1 := wo) rfl (by kernel_rfl) ?_)
              | ((with_reducible refine gate_dst (N := 20) rfl ?_); refine wpList_load_row rfl 66 (.tmp 2) rfl B rfl 66 (gc g) (0, 0) (.array 16 64) (blk_alloc hg' _) underlying66 rfl HI.out ?_)
              | (go_at_call 60; refine (HC.out _).mono ?_; rintro e w2 ⟨rfl, hb2⟩; have HB2 := Aside0.mk (below_then (below_alloc HB.out _) (below_alloc HB.out _).size hb2); clear hb2))
            go_ret
            exact ⟨by rw [HE.out]; rfl, HB2.out⟩
        · clear hall
          have hn : nbI x y 3 = ((x : Int), (y : Int) + 1) := rfl
          cases hv : hasP g ((x : Int)) ((y : Int) + 1) with
          | true =>
            have HC := Aside0.mk (fun W => has_calls g ((x : Int)) ((y : Int) + 1) W)
            rw [hv] at HC
            have HV := Aside0.mk hv
            clear hv
            go_wp2_with (first
              | ((with_reducible refine gate_dst (N := 19) rfl ?_); refine Kd.event_run (v := .agg #[.int .i64 ((x : Int)), .int .i64 ((y : Int) + 1)]) (w1 := wo) rfl (by kernel_rfl) ?_)
              | ((with_reducible refine gate_dst (N := 20) rfl ?_); refine wpList_load_row rfl 66 (.tmp 2) rfl B rfl 66 (gc g) (0, 0) (.array 16 64) (blk_alloc hg' _) underlying66 rfl HI.out ?_)
              | (go_at_call 60; refine (HC.out _).mono ?_; rintro e w2 ⟨rfl, hb2⟩; have HB2 := Aside0.mk (below_then (below_alloc HB.out _) (below_alloc HB.out _).size hb2); clear hb2))
            go_roundw
            case rel => exact ⟨3+1, by go_num, by omega, ⟨fun j hj => by
              by_cases e : j = 3
              · subst e; exact HV.out
              · exact HA.out j (by omega)⟩, HB2⟩
            case measure => simp [intOf]
          | false =>
            have HC := Aside0.mk (fun W => has_calls g ((x : Int)) ((y : Int) + 1) W)
            rw [hv] at HC
            have HE := Aside0.mk (show edgeP g x y = true by unfold edgeP; rw [hp, nbAll_no 3 (by omega) hv]; rfl)
            clear hv
            go_wp2_with (first
              | ((with_reducible refine gate_dst (N := 19) rfl ?_); refine Kd.event_run (v := .agg #[.int .i64 ((x : Int)), .int .i64 ((y : Int) + 1)]) (w1 := wo) rfl (by kernel_rfl) ?_)
              | ((with_reducible refine gate_dst (N := 20) rfl ?_); refine wpList_load_row rfl 66 (.tmp 2) rfl B rfl 66 (gc g) (0, 0) (.array 16 64) (blk_alloc hg' _) underlying66 rfl HI.out ?_)
              | (go_at_call 60; refine (HC.out _).mono ?_; rintro e w2 ⟨rfl, hb2⟩; have HB2 := Aside0.mk (below_then (below_alloc HB.out _) (below_alloc HB.out _).size hb2); clear hb2))
            go_ret
            exact ⟨by rw [HE.out]; rfl, HB2.out⟩
  · replace hp : g (y * 16 + x) = false := by simpa using hp
    rw [hp] at hcg
    have hE : edgeP g x y = false := by unfold edgeP; rw [hp]; rfl
    go_enter Try.func83, Try.ntmps83
    go_wp2
    go_ret
    exact ⟨by rw [hE]; rfl, Below.refl _ _⟩

set_option maxHeartbeats 1600000 in
set_option maxRecDepth 100000 in
theorem edge_calls (g : Nat → Bool) (w : World) :
    Calls Try.prog 72 #[.agg (gc g)] w fun e w' => e = .returned (.agg (gc (gso (edgeP g) 256))) ∧ Below w.heap.size w w' := by
  have z0 := zero66
  have HB := Aside0.mk (below_alloc (below_alloc (Below.refl w.heap.size w) (.cells (gc g) 66)) (.cells (gc fun _ => false) 66))
  have HG := Aside0.mk ((GridAt.new w g).alloc (.cells (gc fun _ => false) 66))
  have HZ := Aside0.mk (GridAt.new (w.alloc (.cells (gc g) 66)) (fun _ => false))
  simp only [World.size_alloc] at HZ
  have HSZ := Aside0.mk (show (gc fun _ => false).size = (gc (gso (edgeP g) 256)).size by rw [gc_size, gc_size])
  have HO := Aside0.mk (gc_one (gso (edgeP g) 256))
  have HI := Aside0.mk (show (Try.prog.info? 66).map (·.size) = some (gc (gso (edgeP g) 256)).size by rw [gc_size]; exact info66)
  go_enter Try.func72, Try.ntmps72
  go_wp2_with (first
    | (go_at_call 62; refine (gridBy_calls 83 #[.pointer (some ⟨w.heap.size, 0, none⟩)] (edgeP g) ((w.alloc (.cells (gc g) 66)).alloc (.cells (gc fun _ => false) 66)) (enters_of Try.func83 (by kernel_rfl) rfl) (fun W x y hx hy hW => edge1_calls g x y hx hy w.heap.size W (HG.out.below hW))).mono ?_; rintro e w2 ⟨rfl, hb2⟩; have HZ2 : Aside0 (w2.heap[w.heap.size + 1]? = some (.cells (gc fun _ => false) 66 (0, 0))) := Aside0.mk (HZ.out.below hb2); have HB2 := Aside0.mk (below_then HB.out HB.out.size hb2); clear hb2)
    | ((with_reducible refine wpList_store_row rfl 66 (.tmp 2) (.tmp 4) rfl (w.heap.size + 1) (gc (gso (edgeP g) 256)) ?hx ?hy 66 (gc fun _ => false) HZ2.out HI.out HSZ.out HO.out ?_); (case hx => rfl); (case hy => rfl)))
  refine bodyPost_ret (results_cell_row rfl _ _ (w.heap.size + 1) 66 (gc (gso (edgeP g) 256)) (0, 0) (.array 16 64) rfl (GridAt.setRow (g := fun _ => false) HZ2.out (gso (edgeP g) 256)) underlying66 rfl HI.out) rfl ?_
  exact ⟨rfl, below_setRow HB2.out (Nat.le_succ _) _⟩
end Go.Proofs.Ytfgeickfheogoaa.Q

/- (impl.grid).grown: a grid with its neighbours, so often. -/
namespace Go.Proofs.Ytfgeickfheogoaa.Q
open Go.RowKit Go.Proofs.YtfgeickfheogoaaW.PrintWords Go.Proofs.YtfgeickfheogoaaW.PrintLast Go.Proofs.YtfgeickfheogoaaW.PrintMore
attribute [local go_sem] max2_int min2_int max_two min_two max_three min_three max_four min_four
set_option linter.unusedVariables false
set_option linter.unusedSimpArgs false

/-- whether pixel p of a grid or a neighbour is in it -/
def growP (g : Nat → Bool) (x y : Nat) : Bool := g (y * 16 + x) || nbAny (hasP g) (x : Int) (y : Int)
def growN (g : Nat → Bool) : Nat → Nat → Bool
  | 0 => g
  | n + 1 => gso (growP (growN g n)) 256
theorem setRow_keepG {W : World} {k g : Nat} {o : Obj} (h : W.heap[k]? = some o) (cs : Array Value) (hk : k ≠ g) : (W.setRow g cs).heap[k]? = some o := (setRow_other W g k cs hk).trans h

set_option maxHeartbeats 1600000 in
set_option maxRecDepth 100000 in
theorem grown1_calls (g : Nat → Bool) (x y : Nat) (hx : x < 16) (hy : y < 16) (B : Nat) (w : World) (hg : GridAt w B g) :
    Calls Try.prog 87 #[.int .i64 (x : Int), .int .i64 (y : Int), .pointer (some ⟨B, 0, none⟩)] w fun e w' => e = .returned (.bool (growP g x y)) ∧ Below w.heap.size w w' := by
  have hgs := gc_size g
  have hcg := hg.cell (y * 16 + x) (by omega)
  have HN := Aside0.mk (neighbours_calls (x : Int) (y : Int) (by omega))
  have HG := Aside0.mk hg
  have HI := Aside0.mk (show (Try.prog.info? 66).map (·.size) = some (gc g).size by rw [gc_size]; exact info66)
  clear hg
  by_cases hp : g (y * 16 + x) = false
  · rw [hp] at hcg
    go_enter Try.func87, Try.ntmps87
    go_wp2_with (first
      | (go_at_call 84; refine (HN.out _).mono ?_; rintro e w1 ⟨rfl, hb1⟩; have HB1 := Aside0.mk hb1; clear hb1))
    unfold nbv
    go_loopw [16] (fun v16 W => ∃ i : Nat, v16 = .int .i64 i ∧ i ≤ 4 ∧ Aside0 (∀ j, j < i → hasP g (nbI x y j).1 (nbI x y j).2 = false) ∧ Aside0 (Below w.heap.size w W)) (fun v16 _ => 4 - (intOf v16).toNat)
    case atStart => exact ⟨0, rfl, by omega, ⟨fun j hj => absurd hj (by omega)⟩, HB1⟩
    case round =>
      obtain ⟨i, rfl, hi, HA, HB⟩ := hrel
      obtain ⟨wo, rfl⟩ : ∃ wo : World, wo = wr := ⟨_, rfl⟩
      have HGW := Aside0.mk (HG.out.below HB.out)
      have hg' : wo.heap[B]? = some (.cells (gc g) 66 (0, 0)) := HGW.out
      by_cases h4 : i = 4
      · subst h4
        have HE := Aside0.mk (show growP g x y = false by unfold growP; rw [hp, nbAny_no (fun i hi => HA.out i hi)]; rfl)
        go_wp2
        go_ret
        exact ⟨by rw [HE.out]; rfl, HB.out⟩
      · obtain h | h | h | h : i = 0 ∨ i = 1 ∨ i = 2 ∨ i = 3 := by omega
        all_goals subst h
        · have hn : nbI x y 0 = ((x : Int) - 1, (y : Int)) := rfl
          cases hv : hasP g ((x : Int) - 1) ((y : Int)) with
          | false =>
            have HC := Aside0.mk (fun W => has_calls g ((x : Int) - 1) ((y : Int)) W)
            rw [hv] at HC
            have HV := Aside0.mk hv
            clear hv
            go_wp2_with (first
              | ((with_reducible refine gate_dst (N := 18) rfl ?_); refine Kd.event_run (v := .agg #[.int .i64 ((x : Int) - 1), .int .i64 ((y : Int))]) (w1 := wo) rfl (by kernel_rfl) ?_)
              | ((with_reducible refine gate_dst (N := 19) rfl ?_); refine wpList_load_row rfl 66 (.tmp 2) rfl B rfl 66 (gc g) (0, 0) (.array 16 64) (blk_alloc hg' _) underlying66 rfl HI.out ?_)
              | (go_at_call 60; refine (HC.out _).mono ?_; rintro e w2 ⟨rfl, hb2⟩; have HB2 := Aside0.mk (below_then (below_alloc HB.out _) (below_alloc HB.out _).size hb2); clear hb2))
            go_roundw
            case rel => exact ⟨0+1, by go_num, by omega, ⟨fun j hj => by
              by_cases e : j = 0
              · subst e; exact HV.out
              · exact HA.out j (by omega)⟩, HB2⟩
            case measure => simp [intOf]
          | true =>
            have HC := Aside0.mk (fun W => has_calls g ((x : Int) - 1) ((y : Int)) W)
            rw [hv] at HC
            have HE := Aside0.mk (show growP g x y = true by unfold growP; rw [hp, nbAny_yes 0 (by omega) hv]; rfl)
            clear hv
            go_wp2_with (first
              | ((with_reducible refine gate_dst (N := 18) rfl ?_); refine Kd.event_run (v := .agg #[.int .i64 ((x : Int) - 1), .int .i64 ((y : Int))]) (w1 := wo) rfl (by kernel_rfl) ?_)
              | ((with_reducible refine gate_dst (N := 19) rfl ?_); refine wpList_load_row rfl 66 (.tmp 2) rfl B rfl 66 (gc g) (0, 0) (.array 16 64) (blk_alloc hg' _) underlying66 rfl HI.out ?_)
              | (go_at_call 60; refine (HC.out _).mono ?_; rintro e w2 ⟨rfl, hb2⟩; have HB2 := Aside0.mk (below_then (below_alloc HB.out _) (below_alloc HB.out _).size hb2); clear hb2))
            go_ret
            exact ⟨by rw [HE.out]; rfl, HB2.out⟩
        · have hn : nbI x y 1 = ((x : Int) + 1, (y : Int)) := rfl
          cases hv : hasP g ((x : Int) + 1) ((y : Int)) with
          | false =>
            have HC := Aside0.mk (fun W => has_calls g ((x : Int) + 1) ((y : Int)) W)
            rw [hv] at HC
            have HV := Aside0.mk hv
            clear hv
            go_wp2_with (first
              | ((with_reducible refine gate_dst (N := 18) rfl ?_); refine Kd.event_run (v := .agg #[.int .i64 ((x : Int) + 1), .int .i64 ((y : Int))]) (w1 := wo) rfl (by kernel_rfl) ?_)
              | ((with_reducible refine gate_dst (N := 19) rfl ?_); refine wpList_load_row rfl 66 (.tmp 2) rfl B rfl 66 (gc g) (0, 0) (.array 16 64) (blk_alloc hg' _) underlying66 rfl HI.out ?_)
              | (go_at_call 60; refine (HC.out _).mono ?_; rintro e w2 ⟨rfl, hb2⟩; have HB2 := Aside0.mk (below_then (below_alloc HB.out _) (below_alloc HB.out _).size hb2); clear hb2))
            go_roundw
            case rel => exact ⟨1+1, by go_num, by omega, ⟨fun j hj => by
              by_cases e : j = 1
              · subst e; exact HV.out
              · exact HA.out j (by omega)⟩, HB2⟩
            case measure => simp [intOf]
          | true =>
            have HC := Aside0.mk (fun W => has_calls g ((x : Int) + 1) ((y : Int)) W)
            rw [hv] at HC
            have HE := Aside0.mk (show growP g x y = true by unfold growP; rw [hp, nbAny_yes 1 (by omega) hv]; rfl)
            clear hv
            go_wp2_with (first
              | ((with_reducible refine gate_dst (N := 18) rfl ?_); refine Kd.event_run (v := .agg #[.int .i64 ((x : Int) + 1), .int .i64 ((y : Int))]) (w1 := wo) rfl (by kernel_rfl) ?_)
              | ((with_reducible refine gate_dst (N := 19) rfl ?_); refine wpList_load_row rfl 66 (.tmp 2) rfl B rfl 66 (gc g) (0, 0) (.array 16 64) (blk_alloc hg' _) underlying66 rfl HI.out ?_)
              | (go_at_call 60; refine (HC.out _).mono ?_; rintro e w2 ⟨rfl, hb2⟩; have HB2 := Aside0.mk (below_then (below_alloc HB.out _) (below_alloc HB.out _).size hb2); clear hb2))
            go_ret
            exact ⟨by rw [HE.out]; rfl, HB2.out⟩
        · have hn : nbI x y 2 = ((x : Int), (y : Int) - 1) := rfl
          cases hv : hasP g ((x : Int)) ((y : Int) - 1) with
          | false =>
            have HC := Aside0.mk (fun W => has_calls g ((x : Int)) ((y : Int) - 1) W)
            rw [hv] at HC
            have HV := Aside0.mk hv
            clear hv
            go_wp2_with (first
              | ((with_reducible refine gate_dst (N := 18) rfl ?_); refine Kd.event_run (v := .agg #[.int .i64 ((x : Int)), .int .i64 ((y : Int) - 1)]) (w1 := wo) rfl (by kernel_rfl) ?_)
              | ((with_reducible refine gate_dst (N := 19) rfl ?_); refine wpList_load_row rfl 66 (.tmp 2) rfl B rfl 66 (gc g) (0, 0) (.array 16 64) (blk_alloc hg' _) underlying66 rfl HI.out ?_)
              | (go_at_call 60; refine (HC.out _).mono ?_; rintro e w2 ⟨rfl, hb2⟩; have HB2 := Aside0.mk (below_then (below_alloc HB.out _) (below_alloc HB.out _).size hb2); clear hb2))
            go_roundw
            case rel => exact ⟨2+1, by go_num, by omega, ⟨fun j hj => by
              by_cases e : j = 2
              · subst e; exact HV.out
              · exact HA.out j (by omega)⟩, HB2⟩
            case measure => simp [intOf]
          | true =>
            have HC := Aside0.mk (fun W => has_calls g ((x : Int)) ((y : Int) - 1) W)
            rw [hv] at HC
            have HE := Aside0.mk (show growP g x y = true by unfold growP; rw [hp, nbAny_yes 2 (by omega) hv]; rfl)
            clear hv
            go_wp2_with (first
              | ((with_reducible refine gate_dst (N := 18) rfl ?_); refine Kd.event_run (v := .agg #[.int .i64 ((x : Int)), .int .i64 ((y : Int) - 1)]) (w1 := wo) rfl (by kernel_rfl) ?_)
              | ((with_reducible refine gate_dst (N := 19) rfl ?_); refine wpList_load_row rfl 66 (.tmp 2) rfl B rfl 66 (gc g) (0, 0) (.array 16 64) (blk_alloc hg' _) underlying66 rfl HI.out ?_)
              | (go_at_call 60; refine (HC.out _).mono ?_; rintro e w2 ⟨rfl, hb2⟩; have HB2 := Aside0.mk (below_then (below_alloc HB.out _) (below_alloc HB.out _).size hb2); clear hb2))
            go_ret
            exact ⟨by rw [HE.out]; rfl, HB2.out⟩
        · have hn : nbI x y 3 = ((x : Int), (y : Int) + 1) := rfl
          cases hv : hasP g ((x : Int)) ((y : Int) + 1) with
          | false =>
            have HC := Aside0.mk (fun W => has_calls g ((x : Int)) ((y : Int) + 1) W)
            rw [hv] at HC
            have HV := Aside0.mk hv
            clear hv
            go_wp2_with (first
              | ((with_reducible refine gate_dst (N := 18) rfl ?_); refine Kd.event_run (v := .agg #[.int .i64 ((x : Int)), .int .i64 ((y : Int) + 1)]) (w1 := wo) rfl (by kernel_rfl) ?_)
              | ((with_reducible refine gate_dst (N := 19) rfl ?_); refine wpList_load_row rfl 66 (.tmp 2) rfl B rfl 66 (gc g) (0, 0) (.array 16 64) (blk_alloc hg' _) underlying66 rfl HI.out ?_)
              | (go_at_call 60; refine (HC.out _).mono ?_; rintro e w2 ⟨rfl, hb2⟩; have HB2 := Aside0.mk (below_then (below_alloc HB.out _) (below_alloc HB.out _).size hb2); clear hb2))
            go_roundw
            case rel => exact ⟨3+1, by go_num, by omega, ⟨fun j hj => by
              by_cases e : j = 3
              · subst e; exact HV.out
              · exact HA.out j (by omega)⟩, HB2⟩
            case measure => simp [intOf]
          | true =>
            have HC := Aside0.mk (fun W => has_calls g ((x : Int)) ((y : Int) + 1) W)
            rw [hv] at HC
            have HE := Aside0.mk (show growP g x y = true by unfold growP; rw [hp, nbAny_yes 3 (by omega) hv]; rfl)
            clear hv
            go_wp2_with (first
              | ((with_reducible refine gate_dst (N := 18) rfl ?_); refine Kd.event_run (v := .agg #[.int .i64 ((x : Int)), .int .i64 ((y : Int) + 1)]) (w1 := wo) rfl (by kernel_rfl) ?_)
              | ((with_reducible refine gate_dst (N := 19) rfl ?_); refine wpList_load_row rfl 66 (.tmp 2) rfl B rfl 66 (gc g) (0, 0) (.array 16 64) (blk_alloc hg' _) underlying66 rfl HI.out ?_)
              | (go_at_call 60; refine (HC.out _).mono ?_; rintro e w2 ⟨rfl, hb2⟩; have HB2 := Aside0.mk (below_then (below_alloc HB.out _) (below_alloc HB.out _).size hb2); clear hb2))
            go_ret
            exact ⟨by rw [HE.out]; rfl, HB2.out⟩
  · replace hp : g (y * 16 + x) = true := by simpa using hp
    rw [hp] at hcg
    have hE : growP g x y = true := by unfold growP; rw [hp]; rfl
    go_enter Try.func87, Try.ntmps87
    go_wp2
    go_ret
    exact ⟨by rw [hE]; rfl, Below.refl _ _⟩

set_option maxHeartbeats 1600000 in
set_option maxRecDepth 100000 in
theorem grown_calls (g : Nat → Bool) (n : Nat) (hn : n ≤ 16) (w : World) :
    Calls Try.prog 79 #[.agg (gc g), .int .i64 (n : Int)] w fun e w' => e = .returned (.agg (gc (growN g n))) ∧ Below w.heap.size w w' := by
  have z0 := zero66
  have HSZ := Aside0.mk (fun g g' : Nat → Bool => show (gc g).size = (gc g').size by rw [gc_size, gc_size])
  have HO := Aside0.mk (fun g : Nat → Bool => gc_one g)
  have HI := Aside0.mk (fun g : Nat → Bool => show (Try.prog.info? 66).map (·.size) = some (gc g).size by rw [gc_size]; exact info66)
  go_enter Try.func79, Try.ntmps79
  go_wp2
  go_loopw [7] (fun v7 W => ∃ i : Nat, v7 = .int .i64 i ∧ i ≤ n ∧ Aside0 (GridAt W w.heap.size (growN g i)) ∧ Aside0 (GridAt W (w.heap.size + 1) (fun _ => false)) ∧ Aside0 (Below w.heap.size w W)) (fun v7 _ => n - (intOf v7).toNat)
  case atStart =>
    have h := GridAt.new (w.alloc (.cells (gc g) 66)) (fun _ => false)
    simp only [World.size_alloc] at h
    exact ⟨0, rfl, by omega, ⟨(GridAt.new _ _).alloc _⟩, ⟨h⟩, ⟨below_alloc (below_alloc (Below.refl _ _) _) _⟩⟩
  case round =>
    obtain ⟨i, rfl, hi, HG, HZ, HB⟩ := hrel
    obtain ⟨wo, rfl⟩ : ∃ wo : World, wo = wr := ⟨_, rfl⟩
    have hg' : wo.heap[w.heap.size]? = some (.cells (gc (growN g i)) 66 (0, 0)) := HG.out
    have hz' : wo.heap[w.heap.size + 1]? = some (.cells (gc fun _ => false) 66 (0, 0)) := HZ.out
    have hlt := GridAt.lt HZ.out
    by_cases hlt : i < n
    · have d1 : decide ((i : Int) < (n : Int)) = true := by simpa using hlt
      have HN : Aside0 ((wo.alloc (.cells (gc fun _ => false) 66)).heap[wo.heap.size]? = some (.cells (gc fun _ => false) 66 (0, 0))) := Aside0.mk (blk_new _ _)
      have HN2 : Aside0 (GridAt ((wo.alloc (.cells (gc fun _ => false) 66)).setRow wo.heap.size (gc (growN g i))) wo.heap.size (growN g i)) := Aside0.mk (GridAt.setRow (g := fun _ => false) HN.out (growN g i))
      have HG2 := Aside0.mk (setRow_keepG (g := wo.heap.size) (blk_alloc hg' (.cells (gc fun _ => false) 66)) (gc (growN g i)) (by omega))
      have HZ2 := Aside0.mk (setRow_keepG (g := wo.heap.size) (blk_alloc hz' (.cells (gc fun _ => false) 66)) (gc (growN g i)) (by omega))
      have HB2 := Aside0.mk (below_setRow (below_alloc HB.out (.cells (gc fun _ => false) 66)) HB.out.size (gc (growN g i)))
      go_wp2_with (first
        | ((with_reducible refine gate_dst (N := 9) rfl ?_); refine wpList_load_row rfl 66 (.tmp 2) rfl w.heap.size rfl 66 (gc (growN g i)) (0, 0) (.array 16 64) hg' underlying66 rfl (HI.out _) ?_)
        | ((with_reducible refine wpList_store_row rfl 66 (.tmp 5) (.tmp 9) rfl wo.heap.size (gc (growN g i)) ?hx ?hy 66 (gc fun _ => false) HN.out (HI.out _) (HSZ.out _ _) (HO.out _) ?_); (case hx => rfl); (case hy => rfl))
        | (go_at_call 62; refine (gridBy_calls 87 #[.pointer (some ⟨wo.heap.size, 0, none⟩)] (growP (growN g i)) ((wo.alloc (.cells (gc fun _ => false) 66)).setRow wo.heap.size (gc (growN g i))) (enters_of Try.func87 (by kernel_rfl) rfl) (fun W x y hx hy hW => grown1_calls (growN g i) x y hx hy _ W (HN2.out.below hW))).mono ?_; rintro e w2 ⟨rfl, hb2⟩;
            have HB3 := Aside0.mk (below_then HB2.out HB2.out.size hb2); have HG3 : Aside0 (w2.heap[w.heap.size]? = some (.cells (gc (growN g i)) 66 (0, 0))) := Aside0.mk (blk_below HG2.out hb2); have HZ3 := Aside0.mk (blk_below HZ2.out hb2); clear hb2)
        | ((with_reducible refine wpList_store_row rfl 66 (.tmp 2) (.tmp 11) rfl w.heap.size (gc (gso (growP (growN g i)) 256)) ?hx ?hy 66 (gc (growN g i)) HG3.out (HI.out _) (HSZ.out _ _) (HO.out _) ?_); (case hx => rfl); (case hy => rfl)))
      go_roundw
      case rel => exact ⟨i + 1, by go_num, by omega, ⟨GridAt.setRow (g := growN g i) HG3.out _⟩, ⟨setRow_keepG HZ3.out _ (by omega)⟩, ⟨below_setRow HB3.out (Nat.le_refl _) _⟩⟩
      case measure => simp [intOf]; omega
    · have d1 : decide ((i : Int) < (n : Int)) = false := by simpa using hlt
      have hin : i = n := by omega
      subst hin
      go_wp2_with (first
        | ((with_reducible refine gate_dst (N := 13) rfl ?_); refine wpList_load_row rfl 66 (.tmp 2) rfl w.heap.size rfl 66 (gc (growN g i)) (0, 0) (.array 16 64) hg' underlying66 rfl (HI.out _) ?_)
        | ((with_reducible refine wpList_store_row rfl 66 (.tmp 4) (.tmp 13) rfl (w.heap.size + 1) (gc (growN g i)) ?hx ?hy 66 (gc fun _ => false) hz' (HI.out _) (HSZ.out _ _) (HO.out _) ?_); (case hx => rfl); (case hy => rfl)))
      refine bodyPost_ret (results_cell_row rfl _ _ (w.heap.size + 1) 66 (gc (growN g i)) (0, 0) (.array 16 64) rfl (GridAt.setRow (g := fun _ => false) HZ.out (growN g i)) underlying66 rfl (HI.out _)) rfl ?_
      exact ⟨rfl, below_setRow HB.out (Nat.le_succ _) _⟩
end Go.Proofs.Ytfgeickfheogoaa.Q

/- (impl.grid).shrunk: a grid without its edge, so often. -/
namespace Go.Proofs.Ytfgeickfheogoaa.Q
open Go.RowKit Go.Proofs.YtfgeickfheogoaaW.PrintWords Go.Proofs.YtfgeickfheogoaaW.PrintLast Go.Proofs.YtfgeickfheogoaaW.PrintMore
attribute [local go_sem] max2_int min2_int max_two min_two max_three min_three max_four min_four
set_option linter.unusedVariables false
set_option linter.unusedSimpArgs false

def shrinkP (g : Nat → Bool) (x y : Nat) : Bool := g (y * 16 + x) && !(gso (edgeP g) 256 (y * 16 + x))
def shrinkN (g : Nat → Bool) : Nat → Nat → Bool
  | 0 => g
  | n + 1 => gso (shrinkP (shrinkN g n)) 256
theorem setRow_keepS {W : World} {k g : Nat} {o : Obj} (h : W.heap[k]? = some o) (cs : Array Value) (hk : k ≠ g) : (W.setRow g cs).heap[k]? = some o := (setRow_other W g k cs hk).trans h
theorem yields_grid {ops : Array Oper} {S : World → Prop} {op : Oper} {a : Act} (hw : Region.wanted op (yielded ops a.tmps) = true) (x : Operand) (ho : op.op = .load 66 x)
    (B : Nat) (hx : a.eval x = .pointer (some ⟨B, 0, none⟩)) (g : Nat → Bool) (hS : ∀ w, S w → GridAt w B g) : YieldsIf Try.prog ops S op (.agg (gc g)) a :=
  .inl ⟨hw, fun w hw' => by
    unfold execOp
    simp only [ho, hx, Instr.loadAt, Instr.sureAddr, Sem.run_bind, Sem.run_pure, Result.andThen_ok, run_loadVar_row w B 66 66 (gc g) (0, 0) (.array 16 64) (hS w hw') underlying66 rfl (by rw [gc_size]; exact info66)]⟩

set_option maxHeartbeats 1600000 in
set_option maxRecDepth 100000 in
theorem shrunk1_calls (g e : Nat → Bool) (x y : Nat) (hx : x < 16) (hy : y < 16) (B1 B2 : Nat) (w : World) (h1 : GridAt w B1 g) (h2 : GridAt w B2 e) :
    Calls Try.prog 88 #[.int .i64 (x : Int), .int .i64 (y : Int), .pointer (some ⟨B1, 0, none⟩), .pointer (some ⟨B2, 0, none⟩)] w fun e_ w' => e_ = .returned (.bool (g (y * 16 + x) && !(e (y * 16 + x)))) ∧ Below w.heap.size w w' := by
  have c1 := h1.cell (y * 16 + x) (by omega)
  have c2 := h2.cell (y * 16 + x) (by omega)
  clear h1 h2
  cases hp : g (y * 16 + x) <;> cases hq : e (y * 16 + x) <;> rw [hp] at c1 <;> rw [hq] at c2
  all_goals
    clear hp hq
    go_enter Try.func88, Try.ntmps88
    go_wp2
    go_ret
    exact ⟨rfl, Below.refl _ _⟩

set_option maxHeartbeats 1600000 in
set_option maxRecDepth 100000 in
theorem shrunk_calls (g : Nat → Bool) (n : Nat) (hn : n ≤ 16) (w : World) :
    Calls Try.prog 80 #[.agg (gc g), .int .i64 (n : Int)] w fun e w' => e = .returned (.agg (gc (shrinkN g n))) ∧ Below w.heap.size w w' := by
  have z0 := zero66
  have HSZ := Aside0.mk (fun g g' : Nat → Bool => show (gc g).size = (gc g').size by rw [gc_size, gc_size])
  have HO := Aside0.mk (fun g : Nat → Bool => gc_one g)
  have HI := Aside0.mk (fun g : Nat → Bool => show (Try.prog.info? 66).map (·.size) = some (gc g).size by rw [gc_size]; exact info66)
  go_enter Try.func80, Try.ntmps80
  go_wp2
  go_loopw [8] (fun v8 W => ∃ i : Nat, v8 = .int .i64 i ∧ i ≤ n ∧ Aside0 (GridAt W w.heap.size (shrinkN g i)) ∧ Aside0 (GridAt W (w.heap.size + 1) (fun _ => false)) ∧ Aside0 (Below w.heap.size w W)) (fun v8 _ => n - (intOf v8).toNat)
  case atStart =>
    have h := GridAt.new (w.alloc (.cells (gc g) 66)) (fun _ => false)
    simp only [World.size_alloc] at h
    exact ⟨0, rfl, by omega, ⟨(GridAt.new _ _).alloc _⟩, ⟨h⟩, ⟨below_alloc (below_alloc (Below.refl _ _) _) _⟩⟩
  case round =>
    obtain ⟨i, rfl, hi, HG, HZ, HB⟩ := hrel
    obtain ⟨wo, rfl⟩ : ∃ wo : World, wo = wr := ⟨_, rfl⟩
    by_cases hlt : i < n
    · have d1 : decide ((i : Int) < (n : Int)) = true := by simpa using hlt
      have hlt0 := GridAt.lt HZ.out
      go_wp2
      refine wp_region_held_drew (S := fun W => Aside0 (GridAt W w.heap.size (shrinkN g i) ∧ GridAt W (w.heap.size + 1) (fun _ => false) ∧ Below w.heap.size w W ∧ w.heap.size + 1 < W.heap.size)) (by kernel_rfl) ⟨HG.out, HZ.out, below_drew HB.out, hlt0⟩ (fun hH => ?_)
      clear HG HZ HB hlt0
      obtain ⟨W0, hW0⟩ : ∃ W, W = wo.drew := ⟨_, rfl⟩
      rw [← hW0] at hH ⊢
      clear hW0
      refine wpAnyH_take (i := 0) rfl (by kernel_rfl) (by kernel_rfl) (by kernel_rfl) (fun _ _ _ h => h) (yields_grid (by rfl) _ rfl w.heap.size rfl (shrinkN g i) (fun W hW => hW.out.1)) hH ?_
      simp only [Act.put, List.setIfInBounds_toArray, List.set_cons_zero, List.set_cons_succ]
      refine wpAnyH_take (i := 1) rfl (by kernel_rfl) (by kernel_rfl) (by kernel_rfl) (fun _ _ _ h => h) (yields_grid (by rfl) _ rfl w.heap.size rfl (shrinkN g i) (fun W hW => hW.out.1)) hH ?_
      simp only [Act.put, List.setIfInBounds_toArray, List.set_cons_zero, List.set_cons_succ]
      refine wpAnyH_ready (rs := [2, 3, 4]) (by kernel_rfl) (by simp) ?_
      refine AllReadyH.cons (i := 2) rfl ?_ (AllReadyH.cons (i := 3) rfl ?_ (AllReadyH.cons (i := 4) rfl ?_ (AllReadyH.nil)))
      · intro K hK
        rw [if_pos (by rfl)]
        go_simp
        go_wp2_with (first | (go_at_call 72; refine (edge_calls _ _).mono ?_; rintro e W1 ⟨rfl, hb⟩))
        refine hK.out _ _ ⟨hH.out.1.below hb, hH.out.2.1.below hb, below_then hH.out.2.2.1 hH.out.2.2.1.size hb, Nat.lt_of_lt_of_le hH.out.2.2.2 hb.size⟩ (fun hH1 => ?_)
        clear hK K
        clear hb hH
        have hH := hH1
        clear hH1
        try simp only [Act.put, List.setIfInBounds_toArray, List.set_cons_zero, List.set_cons_succ]
        refine wpAnyH_ready (rs := [3, 4]) (by kernel_rfl) (by simp) ?_
        refine AllReadyH.cons (i := 3) rfl ?_ (AllReadyH.cons (i := 4) rfl ?_ (AllReadyH.nil))
        · intro K hK
          rw [if_pos (by rfl)]
          go_simp
          refine hK.out _ _ ⟨hH.out.1.alloc _, hH.out.2.1.alloc _, below_alloc hH.out.2.2.1 _, by have := hH.out.2.2.2; simp only [World.size_alloc]; omega⟩ (fun hH1 => ?_)
          clear hK K
          have HN5 := Aside0.mk (GridAt.new W1 (fun _ => false))
          obtain ⟨W2, hW⟩ : ∃ W, W = W1.alloc (.cells (gc fun _ => false) 66) := ⟨_, rfl⟩
          rw [← hW] at hH1 HN5 ⊢
          obtain ⟨B5, hB5⟩ : ∃ B, B = W1.heap.size := ⟨_, rfl⟩
          have hl5 : w.heap.size + 1 < B5 := by rw [hB5]; exact hH.out.2.2.2
          rw [← hB5] at HN5 ⊢
          clear hW hB5 hH
          have hH := hH1
          clear hH1
          try simp only [Act.put, List.setIfInBounds_toArray, List.set_cons_zero, List.set_cons_succ]
          refine wpAnyH_ready (rs := [4]) (by kernel_rfl) (by simp) ?_
          refine AllReadyH.cons (i := 4) rfl ?_ (AllReadyH.nil)
          · have HN50 := HN5
            intro K hK
            rw [if_pos (by rfl)]
            go_simp
            refine hK.out _ _ ⟨hH.out.1.alloc _, hH.out.2.1.alloc _, below_alloc hH.out.2.2.1 _, by have := hH.out.2.2.2; simp only [World.size_alloc]; omega⟩ (fun hH1 => ?_)
            clear hK K
            have HN6 := Aside0.mk (GridAt.new W2 (fun _ => false))
            replace HN5 := Aside0.mk (GridAt.alloc HN5.out (.cells (gc fun _ => false) 66))
            obtain ⟨W3, hW⟩ : ∃ W, W = W2.alloc (.cells (gc fun _ => false) 66) := ⟨_, rfl⟩
            rw [← hW] at hH1 HN6 HN5 ⊢
            obtain ⟨B6, hB6⟩ : ∃ B, B = W2.heap.size := ⟨_, rfl⟩
            have hl6 : w.heap.size + 1 < B6 := by rw [hB6]; exact hH.out.2.2.2
            have hne : B5 ≠ B6 := by have := GridAt.lt HN50.out; omega
            rw [← hB6] at HN6 ⊢
            clear hW hB6 hH
            have hH := hH1
            clear hH1
            clear HN50
            try simp only [Act.put, List.setIfInBounds_toArray, List.set_cons_zero, List.set_cons_succ]
            refine wpAnyH_ready (rs := [5]) (by kernel_rfl) (by simp) ?_
            refine AllReadyH.cons (i := 5) rfl ?_ AllReadyH.nil
            intro K hK
            rw [if_pos (by rfl)]
            have hx5 : W3.heap[B5]? = some (.cells (gc fun _ => false) 66 (0, 0)) := HN5.out
            (with_reducible refine wp_store_row 66 (.tmp 5) (.tmp 10) rfl B5 (gc (shrinkN g i)) ?hx ?hy 66 (gc fun _ => false) hx5 (HI.out _) (HSZ.out _ _) (HO.out _) ?_)
            case hx => rfl
            case hy => rfl
            clear hx5
            have hH1 : Aside0 (GridAt (W3.setRow B5 (gc (shrinkN g i))) w.heap.size (shrinkN g i) ∧ GridAt (W3.setRow B5 (gc (shrinkN g i))) (w.heap.size + 1) (fun _ => false) ∧ Below w.heap.size w (W3.setRow B5 (gc (shrinkN g i))) ∧ w.heap.size + 1 < (W3.setRow B5 (gc (shrinkN g i))).heap.size) := ⟨setRow_keepS hH.out.1 _ (by omega), setRow_keepS hH.out.2.1 _ (by omega), below_setRow hH.out.2.2.1 (by omega) _, by rw [setRow_size]; exact hH.out.2.2.2⟩
            have HN61 : Aside0 (GridAt (W3.setRow B5 (gc (shrinkN g i))) B6 (fun _ => false)) := Aside0.mk (setRow_keepS HN6.out (gc (shrinkN g i)) (show B6 ≠ B5 by omega))
            have HN51 : Aside0 (GridAt (W3.setRow B5 (gc (shrinkN g i))) B5 (shrinkN g i)) := Aside0.mk (GridAt.setRow (g := fun _ => false) HN5.out (shrinkN g i))
            refine hK.out _ _ hH1 (fun _ => ?_)
            clear hK K hH HN5 HN6
            have hH := hH1
            have HN5 := HN51
            have HN6 := HN61
            clear hH1 HN51 HN61
            obtain ⟨X1, hW⟩ : ∃ W, W = W3.setRow B5 (gc (shrinkN g i)) := ⟨_, rfl⟩
            rw [← hW] at hH HN5 HN6 ⊢
            clear hW
            try simp only [Act.put, List.setIfInBounds_toArray, List.set_cons_zero, List.set_cons_succ]
            refine wpAnyH_ready (rs := [6]) (by kernel_rfl) (by simp) ?_
            refine AllReadyH.cons (i := 6) rfl ?_ AllReadyH.nil
            intro K hK
            rw [if_pos (by rfl)]
            have hx6 : X1.heap[B6]? = some (.cells (gc fun _ => false) 66 (0, 0)) := HN6.out
            (with_reducible refine wp_store_row 66 (.tmp 6) (.tmp 12) rfl B6 (gc (gso (edgeP (shrinkN g i)) 256)) ?hx ?hy 66 (gc fun _ => false) hx6 (HI.out _) (HSZ.out _ _) (HO.out _) ?_)
            case hx => rfl
            case hy => rfl
            clear hx6
            have hH1 : Aside0 (GridAt (X1.setRow B6 (gc (gso (edgeP (shrinkN g i)) 256))) w.heap.size (shrinkN g i) ∧ GridAt (X1.setRow B6 (gc (gso (edgeP (shrinkN g i)) 256))) (w.heap.size + 1) (fun _ => false) ∧ Below w.heap.size w (X1.setRow B6 (gc (gso (edgeP (shrinkN g i)) 256))) ∧ w.heap.size + 1 < (X1.setRow B6 (gc (gso (edgeP (shrinkN g i)) 256))).heap.size) := ⟨setRow_keepS hH.out.1 _ (by omega), setRow_keepS hH.out.2.1 _ (by omega), below_setRow hH.out.2.2.1 (by omega) _, by rw [setRow_size]; exact hH.out.2.2.2⟩
            have HN51 : Aside0 (GridAt (X1.setRow B6 (gc (gso (edgeP (shrinkN g i)) 256))) B5 (shrinkN g i)) := Aside0.mk (setRow_keepS HN5.out (gc (gso (edgeP (shrinkN g i)) 256)) (show B5 ≠ B6 by omega))
            have HN61 : Aside0 (GridAt (X1.setRow B6 (gc (gso (edgeP (shrinkN g i)) 256))) B6 (gso (edgeP (shrinkN g i)) 256)) := Aside0.mk (GridAt.setRow (g := fun _ => false) HN6.out (gso (edgeP (shrinkN g i)) 256))
            refine hK.out _ _ hH1 (fun _ => ?_)
            clear hK K hH HN5 HN6
            have hH := hH1
            have HN5 := HN51
            have HN6 := HN61
            clear hH1 HN51 HN61
            obtain ⟨X2, hW⟩ : ∃ W, W = X1.setRow B6 (gc (gso (edgeP (shrinkN g i)) 256)) := ⟨_, rfl⟩
            rw [← hW] at hH HN5 HN6 ⊢
            clear hW
            try simp only [Act.put, List.setIfInBounds_toArray, List.set_cons_zero, List.set_cons_succ]
            refine wpAnyH_done (by kernel_rfl) ?_ _
            have HG2 : Aside0 (X2.heap[w.heap.size]? = some (.cells (gc (shrinkN g i)) 66 (0, 0))) := Aside0.mk hH.out.1
            go_wp2_with (first
              | (go_at_call 62; refine (gridBy_calls 88 #[.pointer (some ⟨B5, 0, none⟩), .pointer (some ⟨B6, 0, none⟩)] (shrinkP (shrinkN g i)) X2 (enters_of Try.func88 (by kernel_rfl) rfl) (fun W x y hx hy hW => shrunk1_calls (shrinkN g i) (gso (edgeP (shrinkN g i)) 256) x y hx hy _ _ W (HN5.out.below hW) (HN6.out.below hW))).mono ?_; rintro e w2 ⟨rfl, hb2⟩; have HB3 := Aside0.mk (below_then hH.out.2.2.1 hH.out.2.2.1.size hb2); have HG3 : Aside0 (w2.heap[w.heap.size]? = some (.cells (gc (shrinkN g i)) 66 (0, 0))) := Aside0.mk (blk_below HG2.out hb2); have HZ3 := Aside0.mk (GridAt.below hH.out.2.1 hb2); clear hb2)
              | ((with_reducible refine wpList_store_row rfl 66 (.tmp 2) (.tmp 14) rfl w.heap.size (gc (gso (shrinkP (shrinkN g i)) 256)) ?hx ?hy 66 (gc (shrinkN g i)) HG3.out (HI.out _) (HSZ.out _ _) (HO.out _) ?_); (case hx => rfl); (case hy => rfl)))
            go_roundw
            case rel => exact ⟨i + 1, by go_num, by omega, ⟨GridAt.setRow (g := shrinkN g i) HG3.out _⟩, ⟨setRow_keepS HZ3.out _ (by omega)⟩, ⟨below_setRow HB3.out (Nat.le_refl _) _⟩⟩
            case measure => simp [intOf]; omega
        · intro K hK
          rw [if_pos (by rfl)]
          go_simp
          refine hK.out _ _ ⟨hH.out.1.alloc _, hH.out.2.1.alloc _, below_alloc hH.out.2.2.1 _, by have := hH.out.2.2.2; simp only [World.size_alloc]; omega⟩ (fun hH1 => ?_)
          clear hK K
          have HN6 := Aside0.mk (GridAt.new W1 (fun _ => false))
          obtain ⟨W2, hW⟩ : ∃ W, W = W1.alloc (.cells (gc fun _ => false) 66) := ⟨_, rfl⟩
          rw [← hW] at hH1 HN6 ⊢
          obtain ⟨B6, hB6⟩ : ∃ B, B = W1.heap.size := ⟨_, rfl⟩
          have hl6 : w.heap.size + 1 < B6 := by rw [hB6]; exact hH.out.2.2.2
          rw [← hB6] at HN6 ⊢
          clear hW hB6 hH
          have hH := hH1
          clear hH1
          try simp only [Act.put, List.setIfInBounds_toArray, List.set_cons_zero, List.set_cons_succ]
          refine wpAnyH_ready (rs := [3]) (by kernel_rfl) (by simp) ?_
          refine AllReadyH.cons (i := 3) rfl ?_ (AllReadyH.nil)
          · have HN60 := HN6
            intro K hK
            rw [if_pos (by rfl)]
            go_simp
            refine hK.out _ _ ⟨hH.out.1.alloc _, hH.out.2.1.alloc _, below_alloc hH.out.2.2.1 _, by have := hH.out.2.2.2; simp only [World.size_alloc]; omega⟩ (fun hH1 => ?_)
            clear hK K
            have HN5 := Aside0.mk (GridAt.new W2 (fun _ => false))
            replace HN6 := Aside0.mk (GridAt.alloc HN6.out (.cells (gc fun _ => false) 66))
            obtain ⟨W3, hW⟩ : ∃ W, W = W2.alloc (.cells (gc fun _ => false) 66) := ⟨_, rfl⟩
            rw [← hW] at hH1 HN5 HN6 ⊢
            obtain ⟨B5, hB5⟩ : ∃ B, B = W2.heap.size := ⟨_, rfl⟩
            have hl5 : w.heap.size + 1 < B5 := by rw [hB5]; exact hH.out.2.2.2
            have hne : B6 ≠ B5 := by have := GridAt.lt HN60.out; omega
            rw [← hB5] at HN5 ⊢
            clear hW hB5 hH
            have hH := hH1
            clear hH1
            clear HN60
            try simp only [Act.put, List.setIfInBounds_toArray, List.set_cons_zero, List.set_cons_succ]
            refine wpAnyH_ready (rs := [5]) (by kernel_rfl) (by simp) ?_
            refine AllReadyH.cons (i := 5) rfl ?_ AllReadyH.nil
            intro K hK
            rw [if_pos (by rfl)]
            have hx5 : W3.heap[B5]? = some (.cells (gc fun _ => false) 66 (0, 0)) := HN5.out
            (with_reducible refine wp_store_row 66 (.tmp 5) (.tmp 10) rfl B5 (gc (shrinkN g i)) ?hx ?hy 66 (gc fun _ => false) hx5 (HI.out _) (HSZ.out _ _) (HO.out _) ?_)
            case hx => rfl
            case hy => rfl
            clear hx5
            have hH1 : Aside0 (GridAt (W3.setRow B5 (gc (shrinkN g i))) w.heap.size (shrinkN g i) ∧ GridAt (W3.setRow B5 (gc (shrinkN g i))) (w.heap.size + 1) (fun _ => false) ∧ Below w.heap.size w (W3.setRow B5 (gc (shrinkN g i))) ∧ w.heap.size + 1 < (W3.setRow B5 (gc (shrinkN g i))).heap.size) := ⟨setRow_keepS hH.out.1 _ (by omega), setRow_keepS hH.out.2.1 _ (by omega), below_setRow hH.out.2.2.1 (by omega) _, by rw [setRow_size]; exact hH.out.2.2.2⟩
            have HN61 : Aside0 (GridAt (W3.setRow B5 (gc (shrinkN g i))) B6 (fun _ => false)) := Aside0.mk (setRow_keepS HN6.out (gc (shrinkN g i)) (show B6 ≠ B5 by omega))
            have HN51 : Aside0 (GridAt (W3.setRow B5 (gc (shrinkN g i))) B5 (shrinkN g i)) := Aside0.mk (GridAt.setRow (g := fun _ => false) HN5.out (shrinkN g i))
            refine hK.out _ _ hH1 (fun _ => ?_)
            clear hK K hH HN5 HN6
            have hH := hH1
            have HN5 := HN51
            have HN6 := HN61
            clear hH1 HN51 HN61
            obtain ⟨X1, hW⟩ : ∃ W, W = W3.setRow B5 (gc (shrinkN g i)) := ⟨_, rfl⟩
            rw [← hW] at hH HN5 HN6 ⊢
            clear hW
            try simp only [Act.put, List.setIfInBounds_toArray, List.set_cons_zero, List.set_cons_succ]
            refine wpAnyH_ready (rs := [6]) (by kernel_rfl) (by simp) ?_
            refine AllReadyH.cons (i := 6) rfl ?_ AllReadyH.nil
            intro K hK
            rw [if_pos (by rfl)]
            have hx6 : X1.heap[B6]? = some (.cells (gc fun _ => false) 66 (0, 0)) := HN6.out
            (with_reducible refine wp_store_row 66 (.tmp 6) (.tmp 12) rfl B6 (gc (gso (edgeP (shrinkN g i)) 256)) ?hx ?hy 66 (gc fun _ => false) hx6 (HI.out _) (HSZ.out _ _) (HO.out _) ?_)
            case hx => rfl
            case hy => rfl
            clear hx6
            have hH1 : Aside0 (GridAt (X1.setRow B6 (gc (gso (edgeP (shrinkN g i)) 256))) w.heap.size (shrinkN g i) ∧ GridAt (X1.setRow B6 (gc (gso (edgeP (shrinkN g i)) 256))) (w.heap.size + 1) (fun _ => false) ∧ Below w.heap.size w (X1.setRow B6 (gc (gso (edgeP (shrinkN g i)) 256))) ∧ w.heap.size + 1 < (X1.setRow B6 (gc (gso (edgeP (shrinkN g i)) 256))).heap.size) := ⟨setRow_keepS hH.out.1 _ (by omega), setRow_keepS hH.out.2.1 _ (by omega), below_setRow hH.out.2.2.1 (by omega) _, by rw [setRow_size]; exact hH.out.2.2.2⟩
            have HN51 : Aside0 (GridAt (X1.setRow B6 (gc (gso (edgeP (shrinkN g i)) 256))) B5 (shrinkN g i)) := Aside0.mk (setRow_keepS HN5.out (gc (gso (edgeP (shrinkN g i)) 256)) (show B5 ≠ B6 by omega))
            have HN61 : Aside0 (GridAt (X1.setRow B6 (gc (gso (edgeP (shrinkN g i)) 256))) B6 (gso (edgeP (shrinkN g i)) 256)) := Aside0.mk (GridAt.setRow (g := fun _ => false) HN6.out (gso (edgeP (shrinkN g i)) 256))
            refine hK.out _ _ hH1 (fun _ => ?_)
            clear hK K hH HN5 HN6
            have hH := hH1
            have HN5 := HN51
            have HN6 := HN61
            clear hH1 HN51 HN61
            obtain ⟨X2, hW⟩ : ∃ W, W = X1.setRow B6 (gc (gso (edgeP (shrinkN g i)) 256)) := ⟨_, rfl⟩
            rw [← hW] at hH HN5 HN6 ⊢
            clear hW
            try simp only [Act.put, List.setIfInBounds_toArray, List.set_cons_zero, List.set_cons_succ]
            refine wpAnyH_done (by kernel_rfl) ?_ _
            have HG2 : Aside0 (X2.heap[w.heap.size]? = some (.cells (gc (shrinkN g i)) 66 (0, 0))) := Aside0.mk hH.out.1
            go_wp2_with (first
              | (go_at_call 62; refine (gridBy_calls 88 #[.pointer (some ⟨B5, 0, none⟩), .pointer (some ⟨B6, 0, none⟩)] (shrinkP (shrinkN g i)) X2 (enters_of Try.func88 (by kernel_rfl) rfl) (fun W x y hx hy hW => shrunk1_calls (shrinkN g i) (gso (edgeP (shrinkN g i)) 256) x y hx hy _ _ W (HN5.out.below hW) (HN6.out.below hW))).mono ?_; rintro e w2 ⟨rfl, hb2⟩; have HB3 := Aside0.mk (below_then hH.out.2.2.1 hH.out.2.2.1.size hb2); have HG3 : Aside0 (w2.heap[w.heap.size]? = some (.cells (gc (shrinkN g i)) 66 (0, 0))) := Aside0.mk (blk_below HG2.out hb2); have HZ3 := Aside0.mk (GridAt.below hH.out.2.1 hb2); clear hb2)
              | ((with_reducible refine wpList_store_row rfl 66 (.tmp 2) (.tmp 14) rfl w.heap.size (gc (gso (shrinkP (shrinkN g i)) 256)) ?hx ?hy 66 (gc (shrinkN g i)) HG3.out (HI.out _) (HSZ.out _ _) (HO.out _) ?_); (case hx => rfl); (case hy => rfl)))
            go_roundw
            case rel => exact ⟨i + 1, by go_num, by omega, ⟨GridAt.setRow (g := shrinkN g i) HG3.out _⟩, ⟨setRow_keepS HZ3.out _ (by omega)⟩, ⟨below_setRow HB3.out (Nat.le_refl _) _⟩⟩
            case measure => simp [intOf]; omega
      · intro K hK
        rw [if_pos (by rfl)]
        go_simp
        refine hK.out _ _ ⟨hH.out.1.alloc _, hH.out.2.1.alloc _, below_alloc hH.out.2.2.1 _, by have := hH.out.2.2.2; simp only [World.size_alloc]; omega⟩ (fun hH1 => ?_)
        clear hK K
        have HN5 := Aside0.mk (GridAt.new W0 (fun _ => false))
        obtain ⟨W1, hW⟩ : ∃ W, W = W0.alloc (.cells (gc fun _ => false) 66) := ⟨_, rfl⟩
        rw [← hW] at hH1 HN5 ⊢
        obtain ⟨B5, hB5⟩ : ∃ B, B = W0.heap.size := ⟨_, rfl⟩
        have hl5 : w.heap.size + 1 < B5 := by rw [hB5]; exact hH.out.2.2.2
        rw [← hB5] at HN5 ⊢
        clear hW hB5 hH
        have hH := hH1
        clear hH1
        try simp only [Act.put, List.setIfInBounds_toArray, List.set_cons_zero, List.set_cons_succ]
        refine wpAnyH_ready (rs := [2, 4]) (by kernel_rfl) (by simp) ?_
        refine AllReadyH.cons (i := 2) rfl ?_ (AllReadyH.cons (i := 4) rfl ?_ (AllReadyH.nil))
        · intro K hK
          rw [if_pos (by rfl)]
          go_simp
          go_wp2_with (first | (go_at_call 72; refine (edge_calls _ _).mono ?_; rintro e W2 ⟨rfl, hb⟩))
          refine hK.out _ _ ⟨hH.out.1.below hb, hH.out.2.1.below hb, below_then hH.out.2.2.1 hH.out.2.2.1.size hb, Nat.lt_of_lt_of_le hH.out.2.2.2 hb.size⟩ (fun hH1 => ?_)
          clear hK K
          replace HN5 := Aside0.mk (GridAt.below HN5.out hb)
          clear hb hH
          have hH := hH1
          clear hH1
          try simp only [Act.put, List.setIfInBounds_toArray, List.set_cons_zero, List.set_cons_succ]
          refine wpAnyH_ready (rs := [4]) (by kernel_rfl) (by simp) ?_
          refine AllReadyH.cons (i := 4) rfl ?_ (AllReadyH.nil)
          · have HN50 := HN5
            intro K hK
            rw [if_pos (by rfl)]
            go_simp
            refine hK.out _ _ ⟨hH.out.1.alloc _, hH.out.2.1.alloc _, below_alloc hH.out.2.2.1 _, by have := hH.out.2.2.2; simp only [World.size_alloc]; omega⟩ (fun hH1 => ?_)
            clear hK K
            have HN6 := Aside0.mk (GridAt.new W2 (fun _ => false))
            replace HN5 := Aside0.mk (GridAt.alloc HN5.out (.cells (gc fun _ => false) 66))
            obtain ⟨W3, hW⟩ : ∃ W, W = W2.alloc (.cells (gc fun _ => false) 66) := ⟨_, rfl⟩
            rw [← hW] at hH1 HN6 HN5 ⊢
            obtain ⟨B6, hB6⟩ : ∃ B, B = W2.heap.size := ⟨_, rfl⟩
            have hl6 : w.heap.size + 1 < B6 := by rw [hB6]; exact hH.out.2.2.2
            have hne : B5 ≠ B6 := by have := GridAt.lt HN50.out; omega
            rw [← hB6] at HN6 ⊢
            clear hW hB6 hH
            have hH := hH1
            clear hH1
            clear HN50
            try simp only [Act.put, List.setIfInBounds_toArray, List.set_cons_zero, List.set_cons_succ]
            refine wpAnyH_ready (rs := [5]) (by kernel_rfl) (by simp) ?_
            refine AllReadyH.cons (i := 5) rfl ?_ AllReadyH.nil
            intro K hK
            rw [if_pos (by rfl)]
            have hx5 : W3.heap[B5]? = some (.cells (gc fun _ => false) 66 (0, 0)) := HN5.out
            (with_reducible refine wp_store_row 66 (.tmp 5) (.tmp 10) rfl B5 (gc (shrinkN g i)) ?hx ?hy 66 (gc fun _ => false) hx5 (HI.out _) (HSZ.out _ _) (HO.out _) ?_)
            case hx => rfl
            case hy => rfl
            clear hx5
            have hH1 : Aside0 (GridAt (W3.setRow B5 (gc (shrinkN g i))) w.heap.size (shrinkN g i) ∧ GridAt (W3.setRow B5 (gc (shrinkN g i))) (w.heap.size + 1) (fun _ => false) ∧ Below w.heap.size w (W3.setRow B5 (gc (shrinkN g i))) ∧ w.heap.size + 1 < (W3.setRow B5 (gc (shrinkN g i))).heap.size) := ⟨setRow_keepS hH.out.1 _ (by omega), setRow_keepS hH.out.2.1 _ (by omega), below_setRow hH.out.2.2.1 (by omega) _, by rw [setRow_size]; exact hH.out.2.2.2⟩
            have HN61 : Aside0 (GridAt (W3.setRow B5 (gc (shrinkN g i))) B6 (fun _ => false)) := Aside0.mk (setRow_keepS HN6.out (gc (shrinkN g i)) (show B6 ≠ B5 by omega))
            have HN51 : Aside0 (GridAt (W3.setRow B5 (gc (shrinkN g i))) B5 (shrinkN g i)) := Aside0.mk (GridAt.setRow (g := fun _ => false) HN5.out (shrinkN g i))
            refine hK.out _ _ hH1 (fun _ => ?_)
            clear hK K hH HN5 HN6
            have hH := hH1
            have HN5 := HN51
            have HN6 := HN61
            clear hH1 HN51 HN61
            obtain ⟨X1, hW⟩ : ∃ W, W = W3.setRow B5 (gc (shrinkN g i)) := ⟨_, rfl⟩
            rw [← hW] at hH HN5 HN6 ⊢
            clear hW
            try simp only [Act.put, List.setIfInBounds_toArray, List.set_cons_zero, List.set_cons_succ]
            refine wpAnyH_ready (rs := [6]) (by kernel_rfl) (by simp) ?_
            refine AllReadyH.cons (i := 6) rfl ?_ AllReadyH.nil
            intro K hK
            rw [if_pos (by rfl)]
            have hx6 : X1.heap[B6]? = some (.cells (gc fun _ => false) 66 (0, 0)) := HN6.out
            (with_reducible refine wp_store_row 66 (.tmp 6) (.tmp 12) rfl B6 (gc (gso (edgeP (shrinkN g i)) 256)) ?hx ?hy 66 (gc fun _ => false) hx6 (HI.out _) (HSZ.out _ _) (HO.out _) ?_)
            case hx => rfl
            case hy => rfl
            clear hx6
            have hH1 : Aside0 (GridAt (X1.setRow B6 (gc (gso (edgeP (shrinkN g i)) 256))) w.heap.size (shrinkN g i) ∧ GridAt (X1.setRow B6 (gc (gso (edgeP (shrinkN g i)) 256))) (w.heap.size + 1) (fun _ => false) ∧ Below w.heap.size w (X1.setRow B6 (gc (gso (edgeP (shrinkN g i)) 256))) ∧ w.heap.size + 1 < (X1.setRow B6 (gc (gso (edgeP (shrinkN g i)) 256))).heap.size) := ⟨setRow_keepS hH.out.1 _ (by omega), setRow_keepS hH.out.2.1 _ (by omega), below_setRow hH.out.2.2.1 (by omega) _, by rw [setRow_size]; exact hH.out.2.2.2⟩
            have HN51 : Aside0 (GridAt (X1.setRow B6 (gc (gso (edgeP (shrinkN g i)) 256))) B5 (shrinkN g i)) := Aside0.mk (setRow_keepS HN5.out (gc (gso (edgeP (shrinkN g i)) 256)) (show B5 ≠ B6 by omega))
            have HN61 : Aside0 (GridAt (X1.setRow B6 (gc (gso (edgeP (shrinkN g i)) 256))) B6 (gso (edgeP (shrinkN g i)) 256)) := Aside0.mk (GridAt.setRow (g := fun _ => false) HN6.out (gso (edgeP (shrinkN g i)) 256))
            refine hK.out _ _ hH1 (fun _ => ?_)
            clear hK K hH HN5 HN6
            have hH := hH1
            have HN5 := HN51
            have HN6 := HN61
            clear hH1 HN51 HN61
            obtain ⟨X2, hW⟩ : ∃ W, W = X1.setRow B6 (gc (gso (edgeP (shrinkN g i)) 256)) := ⟨_, rfl⟩
            rw [← hW] at hH HN5 HN6 ⊢
            clear hW
            try simp only [Act.put, List.setIfInBounds_toArray, List.set_cons_zero, List.set_cons_succ]
            refine wpAnyH_done (by kernel_rfl) ?_ _
            have HG2 : Aside0 (X2.heap[w.heap.size]? = some (.cells (gc (shrinkN g i)) 66 (0, 0))) := Aside0.mk hH.out.1
            go_wp2_with (first
              | (go_at_call 62; refine (gridBy_calls 88 #[.pointer (some ⟨B5, 0, none⟩), .pointer (some ⟨B6, 0, none⟩)] (shrinkP (shrinkN g i)) X2 (enters_of Try.func88 (by kernel_rfl) rfl) (fun W x y hx hy hW => shrunk1_calls (shrinkN g i) (gso (edgeP (shrinkN g i)) 256) x y hx hy _ _ W (HN5.out.below hW) (HN6.out.below hW))).mono ?_; rintro e w2 ⟨rfl, hb2⟩; have HB3 := Aside0.mk (below_then hH.out.2.2.1 hH.out.2.2.1.size hb2); have HG3 : Aside0 (w2.heap[w.heap.size]? = some (.cells (gc (shrinkN g i)) 66 (0, 0))) := Aside0.mk (blk_below HG2.out hb2); have HZ3 := Aside0.mk (GridAt.below hH.out.2.1 hb2); clear hb2)
              | ((with_reducible refine wpList_store_row rfl 66 (.tmp 2) (.tmp 14) rfl w.heap.size (gc (gso (shrinkP (shrinkN g i)) 256)) ?hx ?hy 66 (gc (shrinkN g i)) HG3.out (HI.out _) (HSZ.out _ _) (HO.out _) ?_); (case hx => rfl); (case hy => rfl)))
            go_roundw
            case rel => exact ⟨i + 1, by go_num, by omega, ⟨GridAt.setRow (g := shrinkN g i) HG3.out _⟩, ⟨setRow_keepS HZ3.out _ (by omega)⟩, ⟨below_setRow HB3.out (Nat.le_refl _) _⟩⟩
            case measure => simp [intOf]; omega
        · have HN50 := HN5
          intro K hK
          rw [if_pos (by rfl)]
          go_simp
          refine hK.out _ _ ⟨hH.out.1.alloc _, hH.out.2.1.alloc _, below_alloc hH.out.2.2.1 _, by have := hH.out.2.2.2; simp only [World.size_alloc]; omega⟩ (fun hH1 => ?_)
          clear hK K
          have HN6 := Aside0.mk (GridAt.new W1 (fun _ => false))
          replace HN5 := Aside0.mk (GridAt.alloc HN5.out (.cells (gc fun _ => false) 66))
          obtain ⟨W2, hW⟩ : ∃ W, W = W1.alloc (.cells (gc fun _ => false) 66) := ⟨_, rfl⟩
          rw [← hW] at hH1 HN6 HN5 ⊢
          obtain ⟨B6, hB6⟩ : ∃ B, B = W1.heap.size := ⟨_, rfl⟩
          have hl6 : w.heap.size + 1 < B6 := by rw [hB6]; exact hH.out.2.2.2
          have hne : B5 ≠ B6 := by have := GridAt.lt HN50.out; omega
          rw [← hB6] at HN6 ⊢
          clear hW hB6 hH
          have hH := hH1
          clear hH1
          clear HN50
          try simp only [Act.put, List.setIfInBounds_toArray, List.set_cons_zero, List.set_cons_succ]
          refine wpAnyH_ready (rs := [2]) (by kernel_rfl) (by simp) ?_
          refine AllReadyH.cons (i := 2) rfl ?_ (AllReadyH.nil)
          · intro K hK
            rw [if_pos (by rfl)]
            go_simp
            go_wp2_with (first | (go_at_call 72; refine (edge_calls _ _).mono ?_; rintro e W3 ⟨rfl, hb⟩))
            refine hK.out _ _ ⟨hH.out.1.below hb, hH.out.2.1.below hb, below_then hH.out.2.2.1 hH.out.2.2.1.size hb, Nat.lt_of_lt_of_le hH.out.2.2.2 hb.size⟩ (fun hH1 => ?_)
            clear hK K
            replace HN5 := Aside0.mk (GridAt.below HN5.out hb)
            replace HN6 := Aside0.mk (GridAt.below HN6.out hb)
            clear hb hH
            have hH := hH1
            clear hH1
            try simp only [Act.put, List.setIfInBounds_toArray, List.set_cons_zero, List.set_cons_succ]
            refine wpAnyH_ready (rs := [5]) (by kernel_rfl) (by simp) ?_
            refine AllReadyH.cons (i := 5) rfl ?_ AllReadyH.nil
            intro K hK
            rw [if_pos (by rfl)]
            have hx5 : W3.heap[B5]? = some (.cells (gc fun _ => false) 66 (0, 0)) := HN5.out
            (with_reducible refine wp_store_row 66 (.tmp 5) (.tmp 10) rfl B5 (gc (shrinkN g i)) ?hx ?hy 66 (gc fun _ => false) hx5 (HI.out _) (HSZ.out _ _) (HO.out _) ?_)
            case hx => rfl
            case hy => rfl
            clear hx5
            have hH1 : Aside0 (GridAt (W3.setRow B5 (gc (shrinkN g i))) w.heap.size (shrinkN g i) ∧ GridAt (W3.setRow B5 (gc (shrinkN g i))) (w.heap.size + 1) (fun _ => false) ∧ Below w.heap.size w (W3.setRow B5 (gc (shrinkN g i))) ∧ w.heap.size + 1 < (W3.setRow B5 (gc (shrinkN g i))).heap.size) := ⟨setRow_keepS hH.out.1 _ (by omega), setRow_keepS hH.out.2.1 _ (by omega), below_setRow hH.out.2.2.1 (by omega) _, by rw [setRow_size]; exact hH.out.2.2.2⟩
            have HN61 : Aside0 (GridAt (W3.setRow B5 (gc (shrinkN g i))) B6 (fun _ => false)) := Aside0.mk (setRow_keepS HN6.out (gc (shrinkN g i)) (show B6 ≠ B5 by omega))
            have HN51 : Aside0 (GridAt (W3.setRow B5 (gc (shrinkN g i))) B5 (shrinkN g i)) := Aside0.mk (GridAt.setRow (g := fun _ => false) HN5.out (shrinkN g i))
            refine hK.out _ _ hH1 (fun _ => ?_)
            clear hK K hH HN5 HN6
            have hH := hH1
            have HN5 := HN51
            have HN6 := HN61
            clear hH1 HN51 HN61
            obtain ⟨X1, hW⟩ : ∃ W, W = W3.setRow B5 (gc (shrinkN g i)) := ⟨_, rfl⟩
            rw [← hW] at hH HN5 HN6 ⊢
            clear hW
            try simp only [Act.put, List.setIfInBounds_toArray, List.set_cons_zero, List.set_cons_succ]
            refine wpAnyH_ready (rs := [6]) (by kernel_rfl) (by simp) ?_
            refine AllReadyH.cons (i := 6) rfl ?_ AllReadyH.nil
            intro K hK
            rw [if_pos (by rfl)]
            have hx6 : X1.heap[B6]? = some (.cells (gc fun _ => false) 66 (0, 0)) := HN6.out
            (with_reducible refine wp_store_row 66 (.tmp 6) (.tmp 12) rfl B6 (gc (gso (edgeP (shrinkN g i)) 256)) ?hx ?hy 66 (gc fun _ => false) hx6 (HI.out _) (HSZ.out _ _) (HO.out _) ?_)
            case hx => rfl
            case hy => rfl
            clear hx6
            have hH1 : Aside0 (GridAt (X1.setRow B6 (gc (gso (edgeP (shrinkN g i)) 256))) w.heap.size (shrinkN g i) ∧ GridAt (X1.setRow B6 (gc (gso (edgeP (shrinkN g i)) 256))) (w.heap.size + 1) (fun _ => false) ∧ Below w.heap.size w (X1.setRow B6 (gc (gso (edgeP (shrinkN g i)) 256))) ∧ w.heap.size + 1 < (X1.setRow B6 (gc (gso (edgeP (shrinkN g i)) 256))).heap.size) := ⟨setRow_keepS hH.out.1 _ (by omega), setRow_keepS hH.out.2.1 _ (by omega), below_setRow hH.out.2.2.1 (by omega) _, by rw [setRow_size]; exact hH.out.2.2.2⟩
            have HN51 : Aside0 (GridAt (X1.setRow B6 (gc (gso (edgeP (shrinkN g i)) 256))) B5 (shrinkN g i)) := Aside0.mk (setRow_keepS HN5.out (gc (gso (edgeP (shrinkN g i)) 256)) (show B5 ≠ B6 by omega))
            have HN61 : Aside0 (GridAt (X1.setRow B6 (gc (gso (edgeP (shrinkN g i)) 256))) B6 (gso (edgeP (shrinkN g i)) 256)) := Aside0.mk (GridAt.setRow (g := fun _ => false) HN6.out (gso (edgeP (shrinkN g i)) 256))
            refine hK.out _ _ hH1 (fun _ => ?_)
            clear hK K hH HN5 HN6
            have hH := hH1
            have HN5 := HN51
            have HN6 := HN61
            clear hH1 HN51 HN61
            obtain ⟨X2, hW⟩ : ∃ W, W = X1.setRow B6 (gc (gso (edgeP (shrinkN g i)) 256)) := ⟨_, rfl⟩
            rw [← hW] at hH HN5 HN6 ⊢
            clear hW
            try simp only [Act.put, List.setIfInBounds_toArray, List.set_cons_zero, List.set_cons_succ]
            refine wpAnyH_done (by kernel_rfl) ?_ _
            have HG2 : Aside0 (X2.heap[w.heap.size]? = some (.cells (gc (shrinkN g i)) 66 (0, 0))) := Aside0.mk hH.out.1
            go_wp2_with (first
              | (go_at_call 62; refine (gridBy_calls 88 #[.pointer (some ⟨B5, 0, none⟩), .pointer (some ⟨B6, 0, none⟩)] (shrinkP (shrinkN g i)) X2 (enters_of Try.func88 (by kernel_rfl) rfl) (fun W x y hx hy hW => shrunk1_calls (shrinkN g i) (gso (edgeP (shrinkN g i)) 256) x y hx hy _ _ W (HN5.out.below hW) (HN6.out.below hW))).mono ?_; rintro e w2 ⟨rfl, hb2⟩; have HB3 := Aside0.mk (below_then hH.out.2.2.1 hH.out.2.2.1.size hb2); have HG3 : Aside0 (w2.heap[w.heap.size]? = some (.cells (gc (shrinkN g i)) 66 (0, 0))) := Aside0.mk (blk_below HG2.out hb2); have HZ3 := Aside0.mk (GridAt.below hH.out.2.1 hb2); clear hb2)
              | ((with_reducible refine wpList_store_row rfl 66 (.tmp 2) (.tmp 14) rfl w.heap.size (gc (gso (shrinkP (shrinkN g i)) 256)) ?hx ?hy 66 (gc (shrinkN g i)) HG3.out (HI.out _) (HSZ.out _ _) (HO.out _) ?_); (case hx => rfl); (case hy => rfl)))
            go_roundw
            case rel => exact ⟨i + 1, by go_num, by omega, ⟨GridAt.setRow (g := shrinkN g i) HG3.out _⟩, ⟨setRow_keepS HZ3.out _ (by omega)⟩, ⟨below_setRow HB3.out (Nat.le_refl _) _⟩⟩
            case measure => simp [intOf]; omega
      · intro K hK
        rw [if_pos (by rfl)]
        go_simp
        refine hK.out _ _ ⟨hH.out.1.alloc _, hH.out.2.1.alloc _, below_alloc hH.out.2.2.1 _, by have := hH.out.2.2.2; simp only [World.size_alloc]; omega⟩ (fun hH1 => ?_)
        clear hK K
        have HN6 := Aside0.mk (GridAt.new W0 (fun _ => false))
        obtain ⟨W1, hW⟩ : ∃ W, W = W0.alloc (.cells (gc fun _ => false) 66) := ⟨_, rfl⟩
        rw [← hW] at hH1 HN6 ⊢
        obtain ⟨B6, hB6⟩ : ∃ B, B = W0.heap.size := ⟨_, rfl⟩
        have hl6 : w.heap.size + 1 < B6 := by rw [hB6]; exact hH.out.2.2.2
        rw [← hB6] at HN6 ⊢
        clear hW hB6 hH
        have hH := hH1
        clear hH1
        try simp only [Act.put, List.setIfInBounds_toArray, List.set_cons_zero, List.set_cons_succ]
        refine wpAnyH_ready (rs := [2, 3]) (by kernel_rfl) (by simp) ?_
        refine AllReadyH.cons (i := 2) rfl ?_ (AllReadyH.cons (i := 3) rfl ?_ (AllReadyH.nil))
        · intro K hK
          rw [if_pos (by rfl)]
          go_simp
          go_wp2_with (first | (go_at_call 72; refine (edge_calls _ _).mono ?_; rintro e W2 ⟨rfl, hb⟩))
          refine hK.out _ _ ⟨hH.out.1.below hb, hH.out.2.1.below hb, below_then hH.out.2.2.1 hH.out.2.2.1.size hb, Nat.lt_of_lt_of_le hH.out.2.2.2 hb.size⟩ (fun hH1 => ?_)
          clear hK K
          replace HN6 := Aside0.mk (GridAt.below HN6.out hb)
          clear hb hH
          have hH := hH1
          clear hH1
          try simp only [Act.put, List.setIfInBounds_toArray, List.set_cons_zero, List.set_cons_succ]
          refine wpAnyH_ready (rs := [3]) (by kernel_rfl) (by simp) ?_
          refine AllReadyH.cons (i := 3) rfl ?_ (AllReadyH.nil)
          · have HN60 := HN6
            intro K hK
            rw [if_pos (by rfl)]
            go_simp
            refine hK.out _ _ ⟨hH.out.1.alloc _, hH.out.2.1.alloc _, below_alloc hH.out.2.2.1 _, by have := hH.out.2.2.2; simp only [World.size_alloc]; omega⟩ (fun hH1 => ?_)
            clear hK K
            have HN5 := Aside0.mk (GridAt.new W2 (fun _ => false))
            replace HN6 := Aside0.mk (GridAt.alloc HN6.out (.cells (gc fun _ => false) 66))
            obtain ⟨W3, hW⟩ : ∃ W, W = W2.alloc (.cells (gc fun _ => false) 66) := ⟨_, rfl⟩
            rw [← hW] at hH1 HN5 HN6 ⊢
            obtain ⟨B5, hB5⟩ : ∃ B, B = W2.heap.size := ⟨_, rfl⟩
            have hl5 : w.heap.size + 1 < B5 := by rw [hB5]; exact hH.out.2.2.2
            have hne : B6 ≠ B5 := by have := GridAt.lt HN60.out; omega
            rw [← hB5] at HN5 ⊢
            clear hW hB5 hH
            have hH := hH1
            clear hH1
            clear HN60
            try simp only [Act.put, List.setIfInBounds_toArray, List.set_cons_zero, List.set_cons_succ]
            refine wpAnyH_ready (rs := [5]) (by kernel_rfl) (by simp) ?_
            refine AllReadyH.cons (i := 5) rfl ?_ AllReadyH.nil
            intro K hK
            rw [if_pos (by rfl)]
            have hx5 : W3.heap[B5]? = some (.cells (gc fun _ => false) 66 (0, 0)) := HN5.out
            (with_reducible refine wp_store_row 66 (.tmp 5) (.tmp 10) rfl B5 (gc (shrinkN g i)) ?hx ?hy 66 (gc fun _ => false) hx5 (HI.out _) (HSZ.out _ _) (HO.out _) ?_)
            case hx => rfl
            case hy => rfl
            clear hx5
            have hH1 : Aside0 (GridAt (W3.setRow B5 (gc (shrinkN g i))) w.heap.size (shrinkN g i) ∧ GridAt (W3.setRow B5 (gc (shrinkN g i))) (w.heap.size + 1) (fun _ => false) ∧ Below w.heap.size w (W3.setRow B5 (gc (shrinkN g i))) ∧ w.heap.size + 1 < (W3.setRow B5 (gc (shrinkN g i))).heap.size) := ⟨setRow_keepS hH.out.1 _ (by omega), setRow_keepS hH.out.2.1 _ (by omega), below_setRow hH.out.2.2.1 (by omega) _, by rw [setRow_size]; exact hH.out.2.2.2⟩
            have HN61 : Aside0 (GridAt (W3.setRow B5 (gc (shrinkN g i))) B6 (fun _ => false)) := Aside0.mk (setRow_keepS HN6.out (gc (shrinkN g i)) (show B6 ≠ B5 by omega))
            have HN51 : Aside0 (GridAt (W3.setRow B5 (gc (shrinkN g i))) B5 (shrinkN g i)) := Aside0.mk (GridAt.setRow (g := fun _ => false) HN5.out (shrinkN g i))
            refine hK.out _ _ hH1 (fun _ => ?_)
            clear hK K hH HN5 HN6
            have hH := hH1
            have HN5 := HN51
            have HN6 := HN61
            clear hH1 HN51 HN61
            obtain ⟨X1, hW⟩ : ∃ W, W = W3.setRow B5 (gc (shrinkN g i)) := ⟨_, rfl⟩
            rw [← hW] at hH HN5 HN6 ⊢
            clear hW
            try simp only [Act.put, List.setIfInBounds_toArray, List.set_cons_zero, List.set_cons_succ]
            refine wpAnyH_ready (rs := [6]) (by kernel_rfl) (by simp) ?_
            refine AllReadyH.cons (i := 6) rfl ?_ AllReadyH.nil
            intro K hK
            rw [if_pos (by rfl)]
            have hx6 : X1.heap[B6]? = some (.cells (gc fun _ => false) 66 (0, 0)) := HN6.out
            (with_reducible refine wp_store_row 66 (.tmp 6) (.tmp 12) rfl B6 (gc (gso (edgeP (shrinkN g i)) 256)) ?hx ?hy 66 (gc fun _ => false) hx6 (HI.out _) (HSZ.out _ _) (HO.out _) ?_)
            case hx => rfl
            case hy => rfl
            clear hx6
            have hH1 : Aside0 (GridAt (X1.setRow B6 (gc (gso (edgeP (shrinkN g i)) 256))) w.heap.size (shrinkN g i) ∧ GridAt (X1.setRow B6 (gc (gso (edgeP (shrinkN g i)) 256))) (w.heap.size + 1) (fun _ => false) ∧ Below w.heap.size w (X1.setRow B6 (gc (gso (edgeP (shrinkN g i)) 256))) ∧ w.heap.size + 1 < (X1.setRow B6 (gc (gso (edgeP (shrinkN g i)) 256))).heap.size) := ⟨setRow_keepS hH.out.1 _ (by omega), setRow_keepS hH.out.2.1 _ (by omega), below_setRow hH.out.2.2.1 (by omega) _, by rw [setRow_size]; exact hH.out.2.2.2⟩
            have HN51 : Aside0 (GridAt (X1.setRow B6 (gc (gso (edgeP (shrinkN g i)) 256))) B5 (shrinkN g i)) := Aside0.mk (setRow_keepS HN5.out (gc (gso (edgeP (shrinkN g i)) 256)) (show B5 ≠ B6 by omega))
            have HN61 : Aside0 (GridAt (X1.setRow B6 (gc (gso (edgeP (shrinkN g i)) 256))) B6 (gso (edgeP (shrinkN g i)) 256)) := Aside0.mk (GridAt.setRow (g := fun _ => false) HN6.out (gso (edgeP (shrinkN g i)) 256))
            refine hK.out _ _ hH1 (fun _ => ?_)
            clear hK K hH HN5 HN6
            have hH := hH1
            have HN5 := HN51
            have HN6 := HN61
            clear hH1 HN51 HN61
            obtain ⟨X2, hW⟩ : ∃ W, W = X1.setRow B6 (gc (gso (edgeP (shrinkN g i)) 256)) := ⟨_, rfl⟩
            rw [← hW] at hH HN5 HN6 ⊢
            clear hW
            try simp only [Act.put, List.setIfInBounds_toArray, List.set_cons_zero, List.set_cons_succ]
            refine wpAnyH_done (by kernel_rfl) ?_ _
            have HG2 : Aside0 (X2.heap[w.heap.size]? = some (.cells (gc (shrinkN g i)) 66 (0, 0))) := Aside0.mk hH.out.1
            go_wp2_with (first
              | (go_at_call 62; refine (gridBy_calls 88 #[.pointer (some ⟨B5, 0, none⟩), .pointer (some ⟨B6, 0, none⟩)] (shrinkP (shrinkN g i)) X2 (enters_of Try.func88 (by kernel_rfl) rfl) (fun W x y hx hy hW => shrunk1_calls (shrinkN g i) (gso (edgeP (shrinkN g i)) 256) x y hx hy _ _ W (HN5.out.below hW) (HN6.out.below hW))).mono ?_; rintro e w2 ⟨rfl, hb2⟩; have HB3 := Aside0.mk (below_then hH.out.2.2.1 hH.out.2.2.1.size hb2); have HG3 : Aside0 (w2.heap[w.heap.size]? = some (.cells (gc (shrinkN g i)) 66 (0, 0))) := Aside0.mk (blk_below HG2.out hb2); have HZ3 := Aside0.mk (GridAt.below hH.out.2.1 hb2); clear hb2)
              | ((with_reducible refine wpList_store_row rfl 66 (.tmp 2) (.tmp 14) rfl w.heap.size (gc (gso (shrinkP (shrinkN g i)) 256)) ?hx ?hy 66 (gc (shrinkN g i)) HG3.out (HI.out _) (HSZ.out _ _) (HO.out _) ?_); (case hx => rfl); (case hy => rfl)))
            go_roundw
            case rel => exact ⟨i + 1, by go_num, by omega, ⟨GridAt.setRow (g := shrinkN g i) HG3.out _⟩, ⟨setRow_keepS HZ3.out _ (by omega)⟩, ⟨below_setRow HB3.out (Nat.le_refl _) _⟩⟩
            case measure => simp [intOf]; omega
        · have HN60 := HN6
          intro K hK
          rw [if_pos (by rfl)]
          go_simp
          refine hK.out _ _ ⟨hH.out.1.alloc _, hH.out.2.1.alloc _, below_alloc hH.out.2.2.1 _, by have := hH.out.2.2.2; simp only [World.size_alloc]; omega⟩ (fun hH1 => ?_)
          clear hK K
          have HN5 := Aside0.mk (GridAt.new W1 (fun _ => false))
          replace HN6 := Aside0.mk (GridAt.alloc HN6.out (.cells (gc fun _ => false) 66))
          obtain ⟨W2, hW⟩ : ∃ W, W = W1.alloc (.cells (gc fun _ => false) 66) := ⟨_, rfl⟩
          rw [← hW] at hH1 HN5 HN6 ⊢
          obtain ⟨B5, hB5⟩ : ∃ B, B = W1.heap.size := ⟨_, rfl⟩
          have hl5 : w.heap.size + 1 < B5 := by rw [hB5]; exact hH.out.2.2.2
          have hne : B6 ≠ B5 := by have := GridAt.lt HN60.out; omega
          rw [← hB5] at HN5 ⊢
          clear hW hB5 hH
          have hH := hH1
          clear hH1
          clear HN60
          try simp only [Act.put, List.setIfInBounds_toArray, List.set_cons_zero, List.set_cons_succ]
          refine wpAnyH_ready (rs := [2]) (by kernel_rfl) (by simp) ?_
          refine AllReadyH.cons (i := 2) rfl ?_ (AllReadyH.nil)
          · intro K hK
            rw [if_pos (by rfl)]
            go_simp
            go_wp2_with (first | (go_at_call 72; refine (edge_calls _ _).mono ?_; rintro e W3 ⟨rfl, hb⟩))
            refine hK.out _ _ ⟨hH.out.1.below hb, hH.out.2.1.below hb, below_then hH.out.2.2.1 hH.out.2.2.1.size hb, Nat.lt_of_lt_of_le hH.out.2.2.2 hb.size⟩ (fun hH1 => ?_)
            clear hK K
            replace HN5 := Aside0.mk (GridAt.below HN5.out hb)
            replace HN6 := Aside0.mk (GridAt.below HN6.out hb)
            clear hb hH
            have hH := hH1
            clear hH1
            try simp only [Act.put, List.setIfInBounds_toArray, List.set_cons_zero, List.set_cons_succ]
            refine wpAnyH_ready (rs := [5]) (by kernel_rfl) (by simp) ?_
            refine AllReadyH.cons (i := 5) rfl ?_ AllReadyH.nil
            intro K hK
            rw [if_pos (by rfl)]
            have hx5 : W3.heap[B5]? = some (.cells (gc fun _ => false) 66 (0, 0)) := HN5.out
            (with_reducible refine wp_store_row 66 (.tmp 5) (.tmp 10) rfl B5 (gc (shrinkN g i)) ?hx ?hy 66 (gc fun _ => false) hx5 (HI.out _) (HSZ.out _ _) (HO.out _) ?_)
            case hx => rfl
            case hy => rfl
            clear hx5
            have hH1 : Aside0 (GridAt (W3.setRow B5 (gc (shrinkN g i))) w.heap.size (shrinkN g i) ∧ GridAt (W3.setRow B5 (gc (shrinkN g i))) (w.heap.size + 1) (fun _ => false) ∧ Below w.heap.size w (W3.setRow B5 (gc (shrinkN g i))) ∧ w.heap.size + 1 < (W3.setRow B5 (gc (shrinkN g i))).heap.size) := ⟨setRow_keepS hH.out.1 _ (by omega), setRow_keepS hH.out.2.1 _ (by omega), below_setRow hH.out.2.2.1 (by omega) _, by rw [setRow_size]; exact hH.out.2.2.2⟩
            have HN61 : Aside0 (GridAt (W3.setRow B5 (gc (shrinkN g i))) B6 (fun _ => false)) := Aside0.mk (setRow_keepS HN6.out (gc (shrinkN g i)) (show B6 ≠ B5 by omega))
            have HN51 : Aside0 (GridAt (W3.setRow B5 (gc (shrinkN g i))) B5 (shrinkN g i)) := Aside0.mk (GridAt.setRow (g := fun _ => false) HN5.out (shrinkN g i))
            refine hK.out _ _ hH1 (fun _ => ?_)
            clear hK K hH HN5 HN6
            have hH := hH1
            have HN5 := HN51
            have HN6 := HN61
            clear hH1 HN51 HN61
            obtain ⟨X1, hW⟩ : ∃ W, W = W3.setRow B5 (gc (shrinkN g i)) := ⟨_, rfl⟩
            rw [← hW] at hH HN5 HN6 ⊢
            clear hW
            try simp only [Act.put, List.setIfInBounds_toArray, List.set_cons_zero, List.set_cons_succ]
            refine wpAnyH_ready (rs := [6]) (by kernel_rfl) (by simp) ?_
            refine AllReadyH.cons (i := 6) rfl ?_ AllReadyH.nil
            intro K hK
            rw [if_pos (by rfl)]
            have hx6 : X1.heap[B6]? = some (.cells (gc fun _ => false) 66 (0, 0)) := HN6.out
            (with_reducible refine wp_store_row 66 (.tmp 6) (.tmp 12) rfl B6 (gc (gso (edgeP (shrinkN g i)) 256)) ?hx ?hy 66 (gc fun _ => false) hx6 (HI.out _) (HSZ.out _ _) (HO.out _) ?_)
            case hx => rfl
            case hy => rfl
            clear hx6
            have hH1 : Aside0 (GridAt (X1.setRow B6 (gc (gso (edgeP (shrinkN g i)) 256))) w.heap.size (shrinkN g i) ∧ GridAt (X1.setRow B6 (gc (gso (edgeP (shrinkN g i)) 256))) (w.heap.size + 1) (fun _ => false) ∧ Below w.heap.size w (X1.setRow B6 (gc (gso (edgeP (shrinkN g i)) 256))) ∧ w.heap.size + 1 < (X1.setRow B6 (gc (gso (edgeP (shrinkN g i)) 256))).heap.size) := ⟨setRow_keepS hH.out.1 _ (by omega), setRow_keepS hH.out.2.1 _ (by omega), below_setRow hH.out.2.2.1 (by omega) _, by rw [setRow_size]; exact hH.out.2.2.2⟩
            have HN51 : Aside0 (GridAt (X1.setRow B6 (gc (gso (edgeP (shrinkN g i)) 256))) B5 (shrinkN g i)) := Aside0.mk (setRow_keepS HN5.out (gc (gso (edgeP (shrinkN g i)) 256)) (show B5 ≠ B6 by omega))
            have HN61 : Aside0 (GridAt (X1.setRow B6 (gc (gso (edgeP (shrinkN g i)) 256))) B6 (gso (edgeP (shrinkN g i)) 256)) := Aside0.mk (GridAt.setRow (g := fun _ => false) HN6.out (gso (edgeP (shrinkN g i)) 256))
            refine hK.out _ _ hH1 (fun _ => ?_)
            clear hK K hH HN5 HN6
            have hH := hH1
            have HN5 := HN51
            have HN6 := HN61
            clear hH1 HN51 HN61
            obtain ⟨X2, hW⟩ : ∃ W, W = X1.setRow B6 (gc (gso (edgeP (shrinkN g i)) 256)) := ⟨_, rfl⟩
            rw [← hW] at hH HN5 HN6 ⊢
            clear hW
            try simp only [Act.put, List.setIfInBounds_toArray, List.set_cons_zero, List.set_cons_succ]
            refine wpAnyH_done (by kernel_rfl) ?_ _
            have HG2 : Aside0 (X2.heap[w.heap.size]? = some (.cells (gc (shrinkN g i)) 66 (0, 0))) := Aside0.mk hH.out.1
            go_wp2_with (first
              | (go_at_call 62; refine (gridBy_calls 88 #[.pointer (some ⟨B5, 0, none⟩), .pointer (some ⟨B6, 0, none⟩)] (shrinkP (shrinkN g i)) X2 (enters_of Try.func88 (by kernel_rfl) rfl) (fun W x y hx hy hW => shrunk1_calls (shrinkN g i) (gso (edgeP (shrinkN g i)) 256) x y hx hy _ _ W (HN5.out.below hW) (HN6.out.below hW))).mono ?_; rintro e w2 ⟨rfl, hb2⟩; have HB3 := Aside0.mk (below_then hH.out.2.2.1 hH.out.2.2.1.size hb2); have HG3 : Aside0 (w2.heap[w.heap.size]? = some (.cells (gc (shrinkN g i)) 66 (0, 0))) := Aside0.mk (blk_below HG2.out hb2); have HZ3 := Aside0.mk (GridAt.below hH.out.2.1 hb2); clear hb2)
              | ((with_reducible refine wpList_store_row rfl 66 (.tmp 2) (.tmp 14) rfl w.heap.size (gc (gso (shrinkP (shrinkN g i)) 256)) ?hx ?hy 66 (gc (shrinkN g i)) HG3.out (HI.out _) (HSZ.out _ _) (HO.out _) ?_); (case hx => rfl); (case hy => rfl)))
            go_roundw
            case rel => exact ⟨i + 1, by go_num, by omega, ⟨GridAt.setRow (g := shrinkN g i) HG3.out _⟩, ⟨setRow_keepS HZ3.out _ (by omega)⟩, ⟨below_setRow HB3.out (Nat.le_refl _) _⟩⟩
            case measure => simp [intOf]; omega
    · have d1 : decide ((i : Int) < (n : Int)) = false := by simpa using hlt
      have hin : i = n := by omega
      subst hin
      have hg' : wo.heap[w.heap.size]? = some (.cells (gc (shrinkN g i)) 66 (0, 0)) := HG.out
      have hz' : wo.heap[w.heap.size + 1]? = some (.cells (gc fun _ => false) 66 (0, 0)) := HZ.out
      go_wp2_with (first
        | ((with_reducible refine gate_dst (N := 16) rfl ?_); refine wpList_load_row rfl 66 (.tmp 2) rfl w.heap.size rfl 66 (gc (shrinkN g i)) (0, 0) (.array 16 64) hg' underlying66 rfl (HI.out _) ?_)
        | ((with_reducible refine wpList_store_row rfl 66 (.tmp 4) (.tmp 16) rfl (w.heap.size + 1) (gc (shrinkN g i)) ?hx ?hy 66 (gc fun _ => false) hz' (HI.out _) (HSZ.out _ _) (HO.out _) ?_); (case hx => rfl); (case hy => rfl)))
      refine bodyPost_ret (results_cell_row rfl _ _ (w.heap.size + 1) 66 (gc (shrinkN g i)) (0, 0) (.array 16 64) rfl (GridAt.setRow (g := fun _ => false) HZ.out (shrinkN g i)) underlying66 rfl (HI.out _)) rfl ?_
      exact ⟨rfl, below_setRow HB.out (Nat.le_succ _) _⟩
end Go.Proofs.Ytfgeickfheogoaa.Q

/- Neighbours of a grid's pixels, by their numbers; a loop that fills a grid. -/
namespace Go.Proofs.Ytfgeickfheogoaa.Pure
open Go.RowKit Go.Proofs.Ytfgeickfheogoaa.Q Go.Proofs.YtfgeickfheogoaaW.PrintWords Go.Proofs.YtfgeickfheogoaaW.PrintLast Go.Proofs.YtfgeickfheogoaaW.PrintMore
set_option linter.unusedVariables false
set_option linter.unusedSimpArgs false

theorem gso_at (so : Nat → Nat → Bool) (p : Nat) (h : p < 256) : gso so 256 p = so (p % 16) (p / 16) := by
  unfold gso; rw [decide_eq_true h, Bool.true_and]
def rdT (g : Nat → Bool) (i : Int) : Bool := rdOf false (tab g) i
theorem rdT_nat (g : Nat → Bool) (i : Nat) (h : i < 256) : rdT g (i : Int) = g i := tab_get g i h
theorem hasP_no (g : Nat → Bool) (x y : Int) (h : x < 0 ∨ 16 ≤ x ∨ y < 0 ∨ 16 ≤ y) : hasP g x y = false := by
  rw [← Bool.not_eq_true, hasP_iff]; omega
theorem hasP_at (g : Nat → Bool) (x y : Int) (r : Nat) (hr : r < 256) (hx : x = ((r % 16 : Nat) : Int)) (hy : y = ((r / 16 : Nat) : Int)) : hasP g x y = g r := by
  rw [hx, hy, hasP_nat g r hr]
theorem has_left (g : Nat → Bool) (p : Nat) (hp : p < 256) : hasP g (((p % 16 : Nat) : Int) - 1) ((p / 16 : Nat) : Int) = (decide (((p % 16 : Nat) : Int) > 0) && rdT g ((p : Int) - 1)) := by
  by_cases c : ((p % 16 : Nat) : Int) > 0
  · rw [decide_eq_true c, Bool.true_and, hasP_at g _ _ (p - 1) (by omega) (by omega) (by omega), show (p : Int) - 1 = ((p - 1 : Nat) : Int) by omega, rdT_nat g _ (by omega)]
  · rw [decide_eq_false c, Bool.false_and, hasP_no g _ _ (by omega)]
theorem has_right (g : Nat → Bool) (p : Nat) (hp : p < 256) : hasP g (((p % 16 : Nat) : Int) + 1) ((p / 16 : Nat) : Int) = (decide (((p % 16 : Nat) : Int) < 15) && rdT g ((p : Int) + 1)) := by
  by_cases c : ((p % 16 : Nat) : Int) < 15
  · rw [decide_eq_true c, Bool.true_and, hasP_at g _ _ (p + 1) (by omega) (by omega) (by omega), show (p : Int) + 1 = ((p + 1 : Nat) : Int) by omega, rdT_nat g _ (by omega)]
  · rw [decide_eq_false c, Bool.false_and, hasP_no g _ _ (by omega)]
theorem has_up (g : Nat → Bool) (p : Nat) (hp : p < 256) : hasP g ((p % 16 : Nat) : Int) (((p / 16 : Nat) : Int) - 1) = (decide (((p / 16 : Nat) : Int) > 0) && rdT g ((p : Int) - 16)) := by
  by_cases c : ((p / 16 : Nat) : Int) > 0
  · rw [decide_eq_true c, Bool.true_and, hasP_at g _ _ (p - 16) (by omega) (by omega) (by omega), show (p : Int) - 16 = ((p - 16 : Nat) : Int) by omega, rdT_nat g _ (by omega)]
  · rw [decide_eq_false c, Bool.false_and, hasP_no g _ _ (by omega)]
theorem has_down (g : Nat → Bool) (p : Nat) (hp : p < 256) : hasP g ((p % 16 : Nat) : Int) (((p / 16 : Nat) : Int) + 1) = (decide (((p / 16 : Nat) : Int) < 15) && rdT g ((p : Int) + 16)) := by
  by_cases c : ((p / 16 : Nat) : Int) < 15
  · rw [decide_eq_true c, Bool.true_and, hasP_at g _ _ (p + 16) (by omega) (by omega) (by omega), show (p : Int) + 16 = ((p + 16 : Nat) : Int) by omega, rdT_nat g _ (by omega)]
  · rw [decide_eq_false c, Bool.false_and, hasP_no g _ _ (by omega)]
/-- A loop that writes all cells of a grid, one after the other. -/
theorem fill_ev {ρ : Type} (f : Nat → Bool) (init : Nat → Bool) (L : Nat → List Bool → Nat → Option ρ) (r : ρ)
    (step : ∀ k s p, p < 256 → s = tab (fun q => if q < p then f q else init q) → L (k + 1) s p = L k (s.set p (f p)) (p + 1))
    (last : Ev (fun k => L k (tab f) 256) r) : Ev (fun k => L k (tab init) 0) r := by
  have key := ev_up 256 (fun k p s => L k s p) (fun p s => s = tab (fun q => if q < p then f q else init q)) (fun _ _ => r)
    (by
      intro p s hp hs
      right
      refine ⟨s.set p (f p), fun k => step k s p hp hs, ?_, rfl⟩
      rw [hs, tab_set]
      apply tab_congr
      intro q _
      by_cases e : q = p
      · subst e; rw [if_pos rfl, if_pos (by omega)]
      · rw [if_neg e]
        by_cases h1 : q < p
        · rw [if_pos h1, if_pos (by omega)]
        · rw [if_neg h1, if_neg (by omega)])
    (by
      intro s hs
      have : s = tab f := by rw [hs]; exact tab_congr (fun q hq => by rw [if_pos hq])
      rw [this]; exact last)
    256 0 (tab init) (by omega) (tab_congr (fun q _ => by rw [if_neg (by omega)]))
  exact key
def innerT (g : Nat → Bool) (p : Nat) : Bool :=
  decide (((p % 16 : Nat) : Int) > 0) && (decide (((p % 16 : Nat) : Int) < 15) && (decide (((p / 16 : Nat) : Int) > 0) && (decide (((p / 16 : Nat) : Int) < 15) && (rdT g ((p : Int) - 1) && (rdT g ((p : Int) + 1) && (rdT g ((p : Int) - 16) && rdT g ((p : Int) + 16)))))))
theorem edge_is (g : Nat → Bool) (p : Nat) (hp : p < 256) : (g p && !(innerT g p)) = gso (edgeP g) 256 p := by
  rw [gso_at _ _ hp]
  unfold edgeP nbAll innerT
  rw [has_left g p hp, has_right g p hp, has_up g p hp, has_down g p hp, show p / 16 * 16 + p % 16 = p by omega]
  generalize decide (((p % 16 : Nat) : Int) > 0) = a1
  generalize decide (((p % 16 : Nat) : Int) < 15) = a2
  generalize decide (((p / 16 : Nat) : Int) > 0) = a3
  generalize decide (((p / 16 : Nat) : Int) < 15) = a4
  generalize rdT g ((p : Int) - 1) = a5
  generalize rdT g ((p : Int) + 1) = a6
  generalize rdT g ((p : Int) - 16) = a7
  generalize rdT g ((p : Int) + 16) = a8
  congr 2
  ac_rfl
def growT (g : Nat → Bool) (p : Nat) : Bool :=
  g p || ((decide (((p % 16 : Nat) : Int) > 0) && rdT g ((p : Int) - 1)) || ((decide (((p % 16 : Nat) : Int) < 15) && rdT g ((p : Int) + 1)) || ((decide (((p / 16 : Nat) : Int) > 0) && rdT g ((p : Int) - 16)) || (decide (((p / 16 : Nat) : Int) < 15) && rdT g ((p : Int) + 16)))))
theorem grow_is (g : Nat → Bool) (p : Nat) (hp : p < 256) : growT g p = gso (growP g) 256 p := by
  rw [gso_at _ _ hp]
  unfold growT growP nbAny
  rw [has_left g p hp, has_right g p hp, has_up g p hp, has_down g p hp, show p / 16 * 16 + p % 16 = p by omega]
  congr 1
  ac_rfl
end Go.Proofs.Ytfgeickfheogoaa.Pure

/- Rows of bools that hold a grid: what is made, read and written. -/
namespace Go.Proofs.Ytfgeickfheogoaa.Q
open Go.RowKit Go.Proofs.YtfgeickfheogoaaW.PrintWords Go.Proofs.YtfgeickfheogoaaW.PrintLast Go.Proofs.YtfgeickfheogoaaW.PrintMore
attribute [local go_sem] max2_int min2_int max_two min_two max_three min_three max_four min_four
set_option linter.unusedVariables false
set_option linter.unusedSimpArgs false
open Go.Proofs.Ytfgeickfheogoaa.Pure

theorem tabR_cell {W : World} {base g cap : Nat} {ok : Nat → Prop} {f : Nat → Bool} (h : Kd.bool.R 4 W base ok (.slice (some ⟨g, 0, none⟩) 256 cap) (tab f)) (i : Nat) (hi : i < 256) : W.cell? ⟨g, i, none⟩ = some (.bool (f i)) ∧ W.frozen? ⟨g, i, none⟩ = false := by
  have hl := tab_length f
  have h' : Kd.bool.R 4 W base ok (.slice (some ⟨g, 0, none⟩) (tab f).length cap) (tab f) := by rw [hl]; exact h
  have := Kd.R_cell false h' (i : Int) (by omega) (by omega)
  rw [Int.toNat_natCast, tab_get f i hi] at this
  exact this
theorem tabR_put {W : World} {base g cap : Nat} {ok : Nat → Prop} {f : Nat → Bool} (h : Kd.bool.R 4 W base ok (.slice (some ⟨g, 0, none⟩) 256 cap) (tab f)) (i : Nat) (b : Bool) : Kd.bool.R 4 (W.setCell ⟨g, i, none⟩ (.bool b)) base ok (.slice (some ⟨g, 0, none⟩) 256 cap) (tab fun p => if p = i then b else f p) := by
  have hl := tab_length f
  have h' : Kd.bool.R 4 W base ok (.slice (some ⟨g, 0, none⟩) (tab f).length cap) (tab f) := by rw [hl]; exact h
  have := (Kd.R_put h' (i : Int) b).1
  rw [Int.toNat_natCast, tab_set, hl] at this
  exact this
theorem tabR_congr {W : World} {base : Nat} {ok : Nat → Prop} {v : Value} {f f' : Nat → Bool} (h : Kd.bool.R 4 W base ok v (tab f)) (he : ∀ p, p < 256 → f p = f' p) : Kd.bool.R 4 W base ok v (tab f') := by
  rw [← tab_congr he]; exact h
theorem add_pos (ad : Addr) (m : Nat) (h : 0 < m) : ad.add m = ⟨ad.block, ad.off + m, none⟩ := by
  have := add_field ad 0 m h
  rw [Nat.zero_add] at this
  rw [this]
  unfold Addr.add
  simp
/-- what has been filled so far -/
def upTo (f init : Nat → Bool) (n : Nat) (p : Nat) : Bool := if p < n then f p else init p
theorem upTo_step (f init : Nat → Bool) (n p : Nat) : (if p = n then f n else upTo f init n p) = upTo f init (n + 1) p := by
  unfold upTo
  by_cases e : p = n
  · subst e; rw [if_pos rfl, if_pos (by omega)]
  · rw [if_neg e]
    by_cases c : p < n
    · rw [if_pos c, if_pos (by omega)]
    · rw [if_neg c, if_neg (by omega)]
theorem upTo_all (f init : Nat → Bool) (p : Nat) (h : p < 256) : upTo f init 256 p = f p := by unfold upTo; rw [if_pos h]
theorem tab_of (l : List Bool) (h : l.length = 256) : l = tab (fun p => l.getD p false) := by
  refine List.ext_getElem (by rw [tab_length]; exact h) (fun j h1 h2 => ?_)
  simp [tab, List.getD_eq_getElem?_getD, List.getElem?_eq_getElem h1]
theorem tabC_at {W : World} {A : Option Addr} {f : Nat → Bool} (h : Kd.bool.C W A 256 (tab f)) : ∃ ad, A = some ad ∧ ∀ i : Int, 0 ≤ i → i < 256 → W.cell? (ad.add i.toNat) = some (.bool (rdT f i)) := by
  obtain ⟨ad, rfl, _⟩ := Kd.at_bool h 0 (by omega) (by omega)
  refine ⟨ad, rfl, fun i h0 h1 => ?_⟩
  obtain ⟨ad', e, hc⟩ := Kd.at_bool h i h0 (by omega)
  cases e
  exact hc
end Go.Proofs.Ytfgeickfheogoaa.Q

/- spec.grow: a grid with its neighbours, as the reference has it. -/
namespace Go.Proofs.Ytfgeickfheogoaa.Q
open Go.RowKit Go.Proofs.YtfgeickfheogoaaW.PrintWords Go.Proofs.YtfgeickfheogoaaW.PrintLast Go.Proofs.YtfgeickfheogoaaW.PrintMore
attribute [local go_sem] max2_int min2_int max_two min_two max_three min_three max_four min_four
set_option linter.unusedVariables false
set_option linter.unusedSimpArgs false
open Go.Proofs.Ytfgeickfheogoaa.Pure

def spec_grow.f (l0 : List Bool) : Option (List Bool) := if l0.length = 256 then some (tab (gso (growP (fun p => l0.getD p false)) 256)) else none

set_option maxHeartbeats 2000000 in
set_option maxRecDepth 100000 in
theorem spec_grow_calls (A0 : Option Addr) (c0 : Nat) (g : Nat → Bool) (w : World) (hr0 : Kd.bool.C w A0 256 (tab g)) (hc0 : 256 ≤ c0) :
    Calls Try.prog 85 #[.slice A0 256 c0] w fun e w' => ∃ v0_ : Value, e = .returned (v0_) ∧ Kd.bool.R 4 w' w.heap.size (fun _ => True) v0_ (tab (growT g)) ∧ Below w.heap.size w w' := by
  obtain ⟨ad, rfl, HRD⟩ := tabC_at hr0
  have HR := Aside0.mk hr0
  have HRC := Aside0.mk (fun (W : World) (hb : Below w.heap.size w W) (i : Int) (h0 : 0 ≤ i) (h1 : i < 256) => show W.cell? (ad.add i.toNat) = some (.bool (rdT g i)) from by
    obtain ⟨ad', e, h⟩ := tabC_at (Kd.C_below HR.out hb)
    cases e
    exact h i h0 h1)
  clear hr0 HRD
  go_enter Try.func85, Try.ntmps85
  go_wp2_with (first
    | ((with_reducible refine gate_dst (N := 8) rfl ?_); refine Kd.R_lit Kd.bool _ 4 ?hg (N := 8) ?hd (xs := ([] : List Bool)) (inner := []) (ok := fun _ => True) (okp := fun _ => True) ?hr ?hp (fun _ hk => hk) trivial (Below.refl _ _) (Nat.le_refl _) (by simp) ?_; (case hd => rfl); (case hg => rfl); (case hr => first | (go_simp; done) | (go_simp; rfl)); (case hp => exact (Reps.none _ _)); intro v8 w3 ho4 hb hg_ hnew_; clear hg_ hnew_; have HO3 := Aside0.mk ho4; have HB3 := Aside0.mk hb; clear ho4 hb)
    | ((with_reducible refine gate_builtin (b := .append) (xs := #[.tmp 8, .tmp 9]) rfl ?_); at_builtin; refine Kd.R_append_rows Kd.bool (w0 := w) w.heap.size rfl (.tmp 8) (.tmp 9) 62 4 (.bool false) 1 rfl Try.underlying62 info4 rfl (by decide) (by omega) v8 [] (tab g) (some ad) 256 c0 (fun _ => True) (fun _ => False) rfl rfl HO3.out ?aR (fun _ _ h => h) (fun _ h => h.elim) (fun _ _ => trivial) HB3.out HB3.out.size (by decide) ?_; (case aR => exact Kd.C_below HR.out HB3.out); intro v1 w1 ho hb hg hat; have HO1 := Aside0.mk ho; have HB1 := Aside0.mk hb; clear ho hb hg hat))
  have hO : Kd.bool.R 4 w1 w.heap.size (fun _ => True) v1 (tab g) := HO1.out
  clear HO1
  obtain ⟨B, cap, rfl, hBb, hBl, _⟩ := Kd.R_form hO (by rw [tab_length]; omega)
  rw [tab_length] at hO ⊢
  go_loopw [5, 6, 7] (fun v5 v6 v7 W => ∃ p : Nat, v5 = .int .i64 p ∧ p ≤ 256 ∧ Aside0 (Kd.bool.R 4 W w.heap.size (fun _ => True) (.slice (some ⟨B, 0, none⟩) 256 cap) (tab (upTo (growT g) g p))) ∧ Aside0 (Below w.heap.size w W)) (fun v5 _ _ _ => 256 - (intOf v5).toNat)
  case atStart => exact ⟨0, rfl, by omega, ⟨tabR_congr hO (fun p _ => rfl)⟩, HB1⟩
  case round =>
    obtain ⟨p, rfl, hp, HO, HB⟩ := hrel
    obtain ⟨wo, rfl⟩ : ∃ wo : World, wo = wr := ⟨_, rfl⟩
    by_cases hlt : p < 256
    · have d0 : decide ((p : Int) < 256) = true := by simp; omega
      have HX : ((p : Int) % 16) = ((p % 16 : Nat) : Int) := by omega
      have HY : ((p : Int) / 16) = ((p / 16 : Nat) : Int) := by omega
      have hc0 := HRC.out wo HB.out (p : Int) (by omega) (by omega)
      rw [rdT_nat g p hlt, Int.toNat_natCast] at hc0
      have ht := tabR_cell HO.out p hlt
      have hf := ht.2
      replace ht := ht.1
      have HP := Aside0.mk (tabR_put HO.out p)
      have HL := Aside0.mk hBb
      have HV := Aside0.mk (show growT g p = (g p || ((decide ((p : Int) % 16 > 0) && rdT g ((p : Int) - 1)) || ((decide ((p : Int) % 16 < 15) && rdT g ((p : Int) + 1)) || ((decide ((p : Int) / 16 > 0) && rdT g ((p : Int) - 16)) || (decide ((p : Int) / 16 < 15) && rdT g ((p : Int) + 16)))))) by rw [HX, HY]; rfl)
      clear HX HY
      cases hgp : g p with
      | true =>
        rw [hgp] at hc0
        have HE := Aside0.mk (show growT g p = true by rw [HV.out, hgp]; simp)
        clear HV 
        go_wp2
        go_roundw
        case rel => exact ⟨p + 1, by go_num, by omega, ⟨tabR_congr (HP.out _) (fun q _ => by rw [← upTo_step]; by_cases e : q = p; (rw [if_pos e, if_pos e]; exact HE.out.symm); (rw [if_neg e, if_neg e]))⟩, ⟨below_set HB.out (by omega)⟩⟩
        case measure => simp [intOf]; omega
      | false =>
        rw [hgp] at hc0
        cases k0 : decide ((p : Int) % 16 > 0) with
        | false =>
          have m0 : decide (0 < (p : Int) % 16) = false := k0
          cases k1 : decide ((p : Int) % 16 < 15) with
          | false =>
            have m1 : decide ((p : Int) % 16 < 15) = false := k1
            cases k2 : decide ((p : Int) / 16 > 0) with
            | false =>
              have m2 : decide (0 < (p : Int) / 16) = false := k2
              cases k3 : decide ((p : Int) / 16 < 15) with
              | false =>
                have m3 : decide ((p : Int) / 16 < 15) = false := k3
                have HE := Aside0.mk (show growT g p = false by rw [HV.out, hgp, k0, k1, k2, k3]; simp)
                clear HV k0 k1 k2 k3
                go_wp2
                go_roundw
                case rel => exact ⟨p + 1, by go_num, by omega, ⟨tabR_congr (HP.out _) (fun q _ => by rw [← upTo_step]; by_cases e : q = p; (rw [if_pos e, if_pos e]; exact HE.out.symm); (rw [if_neg e, if_neg e]))⟩, ⟨below_set HB.out (by omega)⟩⟩
                case measure => simp [intOf]; omega
              | true =>
                have m3 : decide ((p : Int) / 16 < 15) = true := k3
                have c3 := of_decide_eq_true k3
                have g3 := HRC.out wo HB.out ((p : Int) + 16) (by omega) (by omega)
                rw [show ((p : Int) + 16).toNat = p + 16 by omega, add_pos ad _ (by omega)] at g3
                have n30 : 0 ≤ (p : Int) + 16 := by omega
                have n31 : (p : Int) + 16 < 256 := by omega
                cases b3 : rdT g ((p : Int) + 16) with
                | true =>
                  rw [b3] at g3
                  have HE := Aside0.mk (show growT g p = true by rw [HV.out, hgp, k0, k1, k2, k3, b3]; simp)
                  clear HV k0 k1 k2 k3
                  go_wp2
                  go_roundw
                  case rel => exact ⟨p + 1, by go_num, by omega, ⟨tabR_congr (HP.out _) (fun q _ => by rw [← upTo_step]; by_cases e : q = p; (rw [if_pos e, if_pos e]; exact HE.out.symm); (rw [if_neg e, if_neg e]))⟩, ⟨below_set HB.out (by omega)⟩⟩
                  case measure => simp [intOf]; omega
                | false =>
                  rw [b3] at g3
                  have HE := Aside0.mk (show growT g p = false by rw [HV.out, hgp, k0, k1, k2, k3, b3]; simp)
                  clear HV k0 k1 k2 k3
                  go_wp2
                  go_roundw
                  case rel => exact ⟨p + 1, by go_num, by omega, ⟨tabR_congr (HP.out _) (fun q _ => by rw [← upTo_step]; by_cases e : q = p; (rw [if_pos e, if_pos e]; exact HE.out.symm); (rw [if_neg e, if_neg e]))⟩, ⟨below_set HB.out (by omega)⟩⟩
                  case measure => simp [intOf]; omega
            | true =>
              have m2 : decide (0 < (p : Int) / 16) = true := k2
              have c2 := of_decide_eq_true k2
              have g2 := HRC.out wo HB.out ((p : Int) - 16) (by omega) (by omega)
              rw [show ((p : Int) - 16).toNat = p - 16 by omega] at g2
              have n20 : 0 ≤ (p : Int) - 16 := by omega
              have n21 : (p : Int) - 16 < 256 := by omega
              cases b2 : rdT g ((p : Int) - 16) with
              | true =>
                rw [b2] at g2
                have HE := Aside0.mk (show growT g p = true by rw [HV.out, hgp, k0, k1, k2, b2]; simp)
                clear HV k0 k1 k2
                go_wp2
                go_roundw
                case rel => exact ⟨p + 1, by go_num, by omega, ⟨tabR_congr (HP.out _) (fun q _ => by rw [← upTo_step]; by_cases e : q = p; (rw [if_pos e, if_pos e]; exact HE.out.symm); (rw [if_neg e, if_neg e]))⟩, ⟨below_set HB.out (by omega)⟩⟩
                case measure => simp [intOf]; omega
              | false =>
                rw [b2] at g2
                cases k3 : decide ((p : Int) / 16 < 15) with
                | false =>
                  have m3 : decide ((p : Int) / 16 < 15) = false := k3
                  have HE := Aside0.mk (show growT g p = false by rw [HV.out, hgp, k0, k1, k2, b2, k3]; simp)
                  clear HV k0 k1 k2 k3
                  go_wp2
                  go_roundw
                  case rel => exact ⟨p + 1, by go_num, by omega, ⟨tabR_congr (HP.out _) (fun q _ => by rw [← upTo_step]; by_cases e : q = p; (rw [if_pos e, if_pos e]; exact HE.out.symm); (rw [if_neg e, if_neg e]))⟩, ⟨below_set HB.out (by omega)⟩⟩
                  case measure => simp [intOf]; omega
                | true =>
                  have m3 : decide ((p : Int) / 16 < 15) = true := k3
                  have c3 := of_decide_eq_true k3
                  have g3 := HRC.out wo HB.out ((p : Int) + 16) (by omega) (by omega)
                  rw [show ((p : Int) + 16).toNat = p + 16 by omega, add_pos ad _ (by omega)] at g3
                  have n30 : 0 ≤ (p : Int) + 16 := by omega
                  have n31 : (p : Int) + 16 < 256 := by omega
                  cases b3 : rdT g ((p : Int) + 16) with
                  | true =>
                    rw [b3] at g3
                    have HE := Aside0.mk (show growT g p = true by rw [HV.out, hgp, k0, k1, k2, b2, k3, b3]; simp)
                    clear HV k0 k1 k2 k3
                    go_wp2
                    go_roundw
                    case rel => exact ⟨p + 1, by go_num, by omega, ⟨tabR_congr (HP.out _) (fun q _ => by rw [← upTo_step]; by_cases e : q = p; (rw [if_pos e, if_pos e]; exact HE.out.symm); (rw [if_neg e, if_neg e]))⟩, ⟨below_set HB.out (by omega)⟩⟩
                    case measure => simp [intOf]; omega
                  | false =>
                    rw [b3] at g3
                    have HE := Aside0.mk (show growT g p = false by rw [HV.out, hgp, k0, k1, k2, b2, k3, b3]; simp)
                    clear HV k0 k1 k2 k3
                    go_wp2
                    go_roundw
                    case rel => exact ⟨p + 1, by go_num, by omega, ⟨tabR_congr (HP.out _) (fun q _ => by rw [← upTo_step]; by_cases e : q = p; (rw [if_pos e, if_pos e]; exact HE.out.symm); (rw [if_neg e, if_neg e]))⟩, ⟨below_set HB.out (by omega)⟩⟩
                    case measure => simp [intOf]; omega
          | true =>
            have m1 : decide ((p : Int) % 16 < 15) = true := k1
            have c1 := of_decide_eq_true k1
            have g1 := HRC.out wo HB.out ((p : Int) + 1) (by omega) (by omega)
            rw [show ((p : Int) + 1).toNat = p + 1 by omega, add_pos ad _ (by omega)] at g1
            have n10 : 0 ≤ (p : Int) + 1 := by omega
            have n11 : (p : Int) + 1 < 256 := by omega
            cases b1 : rdT g ((p : Int) + 1) with
            | true =>
              rw [b1] at g1
              have HE := Aside0.mk (show growT g p = true by rw [HV.out, hgp, k0, k1, b1]; simp)
              clear HV k0 k1
              go_wp2
              go_roundw
              case rel => exact ⟨p + 1, by go_num, by omega, ⟨tabR_congr (HP.out _) (fun q _ => by rw [← upTo_step]; by_cases e : q = p; (rw [if_pos e, if_pos e]; exact HE.out.symm); (rw [if_neg e, if_neg e]))⟩, ⟨below_set HB.out (by omega)⟩⟩
              case measure => simp [intOf]; omega
            | false =>
              rw [b1] at g1
              cases k2 : decide ((p : Int) / 16 > 0) with
              | false =>
                have m2 : decide (0 < (p : Int) / 16) = false := k2
                cases k3 : decide ((p : Int) / 16 < 15) with
                | false =>
                  have m3 : decide ((p : Int) / 16 < 15) = false := k3
                  have HE := Aside0.mk (show growT g p = false by rw [HV.out, hgp, k0, k1, b1, k2, k3]; simp)
                  clear HV k0 k1 k2 k3
                  go_wp2
                  go_roundw
                  case rel => exact ⟨p + 1, by go_num, by omega, ⟨tabR_congr (HP.out _) (fun q _ => by rw [← upTo_step]; by_cases e : q = p; (rw [if_pos e, if_pos e]; exact HE.out.symm); (rw [if_neg e, if_neg e]))⟩, ⟨below_set HB.out (by omega)⟩⟩
                  case measure => simp [intOf]; omega
                | true =>
                  have m3 : decide ((p : Int) / 16 < 15) = true := k3
                  have c3 := of_decide_eq_true k3
                  have g3 := HRC.out wo HB.out ((p : Int) + 16) (by omega) (by omega)
                  rw [show ((p : Int) + 16).toNat = p + 16 by omega, add_pos ad _ (by omega)] at g3
                  have n30 : 0 ≤ (p : Int) + 16 := by omega
                  have n31 : (p : Int) + 16 < 256 := by omega
                  cases b3 : rdT g ((p : Int) + 16) with
                  | true =>
                    rw [b3] at g3
                    have HE := Aside0.mk (show growT g p = true by rw [HV.out, hgp, k0, k1, b1, k2, k3, b3]; simp)
                    clear HV k0 k1 k2 k3
                    go_wp2
                    go_roundw
                    case rel => exact ⟨p + 1, by go_num, by omega, ⟨tabR_congr (HP.out _) (fun q _ => by rw [← upTo_step]; by_cases e : q = p; (rw [if_pos e, if_pos e]; exact HE.out.symm); (rw [if_neg e, if_neg e]))⟩, ⟨below_set HB.out (by omega)⟩⟩
                    case measure => simp [intOf]; omega
                  | false =>
                    rw [b3] at g3
                    have HE := Aside0.mk (show growT g p = false by rw [HV.out, hgp, k0, k1, b1, k2, k3, b3]; simp)
                    clear HV k0 k1 k2 k3
                    go_wp2
                    go_roundw
                    case rel => exact ⟨p + 1, by go_num, by omega, ⟨tabR_congr (HP.out _) (fun q _ => by rw [← upTo_step]; by_cases e : q = p; (rw [if_pos e, if_pos e]; exact HE.out.symm); (rw [if_neg e, if_neg e]))⟩, ⟨below_set HB.out (by omega)⟩⟩
                    case measure => simp [intOf]; omega
              | true =>
                have m2 : decide (0 < (p : Int) / 16) = true := k2
                have c2 := of_decide_eq_true k2
                have g2 := HRC.out wo HB.out ((p : Int) - 16) (by omega) (by omega)
                rw [show ((p : Int) - 16).toNat = p - 16 by omega] at g2
                have n20 : 0 ≤ (p : Int) - 16 := by omega
                have n21 : (p : Int) - 16 < 256 := by omega
                cases b2 : rdT g ((p : Int) - 16) with
                | true =>
                  rw [b2] at g2
                  have HE := Aside0.mk (show growT g p = true by rw [HV.out, hgp, k0, k1, b1, k2, b2]; simp)
                  clear HV k0 k1 k2
                  go_wp2
                  go_roundw
                  case rel => exact ⟨p + 1, by go_num, by omega, ⟨tabR_congr (HP.out _) (fun q _ => by rw [← upTo_step]; by_cases e : q = p; (rw [if_pos e, if_pos e]; exact HE.out.symm); (rw [if_neg e, if_neg e]))⟩, ⟨below_set HB.out (by omega)⟩⟩
                  case measure => simp [intOf]; omega
                | false =>
                  rw [b2] at g2
                  cases k3 : decide ((p : Int) / 16 < 15) with
                  | false =>
                    have m3 : decide ((p : Int) / 16 < 15) = false := k3
                    have HE := Aside0.mk (show growT g p = false by rw [HV.out, hgp, k0, k1, b1, k2, b2, k3]; simp)
                    clear HV k0 k1 k2 k3
                    go_wp2
                    go_roundw
                    case rel => exact ⟨p + 1, by go_num, by omega, ⟨tabR_congr (HP.out _) (fun q _ => by rw [← upTo_step]; by_cases e : q = p; (rw [if_pos e, if_pos e]; exact HE.out.symm); (rw [if_neg e, if_neg e]))⟩, ⟨below_set HB.out (by omega)⟩⟩
                    case measure => simp [intOf]; omega
                  | true =>
                    have m3 : decide ((p : Int) / 16 < 15) = true := k3
                    have c3 := of_decide_eq_true k3
                    have g3 := HRC.out wo HB.out ((p : Int) + 16) (by omega) (by omega)
                    rw [show ((p : Int) + 16).toNat = p + 16 by omega, add_pos ad _ (by omega)] at g3
                    have n30 : 0 ≤ (p : Int) + 16 := by omega
                    have n31 : (p : Int) + 16 < 256 := by omega
                    cases b3 : rdT g ((p : Int) + 16) with
                    | true =>
                      rw [b3] at g3
                      have HE := Aside0.mk (show growT g p = true by rw [HV.out, hgp, k0, k1, b1, k2, b2, k3, b3]; simp)
                      clear HV k0 k1 k2 k3
                      go_wp2
                      go_roundw
                      case rel => exact ⟨p + 1, by go_num, by omega, ⟨tabR_congr (HP.out _) (fun q _ => by rw [← upTo_step]; by_cases e : q = p; (rw [if_pos e, if_pos e]; exact HE.out.symm); (rw [if_neg e, if_neg e]))⟩, ⟨below_set HB.out (by omega)⟩⟩
                      case measure => simp [intOf]; omega
                    | false =>
                      rw [b3] at g3
                      have HE := Aside0.mk (show growT g p = false by rw [HV.out, hgp, k0, k1, b1, k2, b2, k3, b3]; simp)
                      clear HV k0 k1 k2 k3
                      go_wp2
                      go_roundw
                      case rel => exact ⟨p + 1, by go_num, by omega, ⟨tabR_congr (HP.out _) (fun q _ => by rw [← upTo_step]; by_cases e : q = p; (rw [if_pos e, if_pos e]; exact HE.out.symm); (rw [if_neg e, if_neg e]))⟩, ⟨below_set HB.out (by omega)⟩⟩
                      case measure => simp [intOf]; omega
        | true =>
          have m0 : decide (0 < (p : Int) % 16) = true := k0
          have c0 := of_decide_eq_true k0
          have g0 := HRC.out wo HB.out ((p : Int) - 1) (by omega) (by omega)
          rw [show ((p : Int) - 1).toNat = p - 1 by omega] at g0
          have n00 : 0 ≤ (p : Int) - 1 := by omega
          have n01 : (p : Int) - 1 < 256 := by omega
          cases b0 : rdT g ((p : Int) - 1) with
          | true =>
            rw [b0] at g0
            have HE := Aside0.mk (show growT g p = true by rw [HV.out, hgp, k0, b0]; simp)
            clear HV k0
            go_wp2
            go_roundw
            case rel => exact ⟨p + 1, by go_num, by omega, ⟨tabR_congr (HP.out _) (fun q _ => by rw [← upTo_step]; by_cases e : q = p; (rw [if_pos e, if_pos e]; exact HE.out.symm); (rw [if_neg e, if_neg e]))⟩, ⟨below_set HB.out (by omega)⟩⟩
            case measure => simp [intOf]; omega
          | false =>
            rw [b0] at g0
            cases k1 : decide ((p : Int) % 16 < 15) with
            | false =>
              have m1 : decide ((p : Int) % 16 < 15) = false := k1
              cases k2 : decide ((p : Int) / 16 > 0) with
              | false =>
                have m2 : decide (0 < (p : Int) / 16) = false := k2
                cases k3 : decide ((p : Int) / 16 < 15) with
                | false =>
                  have m3 : decide ((p : Int) / 16 < 15) = false := k3
                  have HE := Aside0.mk (show growT g p = false by rw [HV.out, hgp, k0, b0, k1, k2, k3]; simp)
                  clear HV k0 k1 k2 k3
                  go_wp2
                  go_roundw
                  case rel => exact ⟨p + 1, by go_num, by omega, ⟨tabR_congr (HP.out _) (fun q _ => by rw [← upTo_step]; by_cases e : q = p; (rw [if_pos e, if_pos e]; exact HE.out.symm); (rw [if_neg e, if_neg e]))⟩, ⟨below_set HB.out (by omega)⟩⟩
                  case measure => simp [intOf]; omega
                | true =>
                  have m3 : decide ((p : Int) / 16 < 15) = true := k3
                  have c3 := of_decide_eq_true k3
                  have g3 := HRC.out wo HB.out ((p : Int) + 16) (by omega) (by omega)
                  rw [show ((p : Int) + 16).toNat = p + 16 by omega, add_pos ad _ (by omega)] at g3
                  have n30 : 0 ≤ (p : Int) + 16 := by omega
                  have n31 : (p : Int) + 16 < 256 := by omega
                  cases b3 : rdT g ((p : Int) + 16) with
                  | true =>
                    rw [b3] at g3
                    have HE := Aside0.mk (show growT g p = true by rw [HV.out, hgp, k0, b0, k1, k2, k3, b3]; simp)
                    clear HV k0 k1 k2 k3
                    go_wp2
                    go_roundw
                    case rel => exact ⟨p + 1, by go_num, by omega, ⟨tabR_congr (HP.out _) (fun q _ => by rw [← upTo_step]; by_cases e : q = p; (rw [if_pos e, if_pos e]; exact HE.out.symm); (rw [if_neg e, if_neg e]))⟩, ⟨below_set HB.out (by omega)⟩⟩
                    case measure => simp [intOf]; omega
                  | false =>
                    rw [b3] at g3
                    have HE := Aside0.mk (show growT g p = false by rw [HV.out, hgp, k0, b0, k1, k2, k3, b3]; simp)
                    clear HV k0 k1 k2 k3
                    go_wp2
                    go_roundw
                    case rel => exact ⟨p + 1, by go_num, by omega, ⟨tabR_congr (HP.out _) (fun q _ => by rw [← upTo_step]; by_cases e : q = p; (rw [if_pos e, if_pos e]; exact HE.out.symm); (rw [if_neg e, if_neg e]))⟩, ⟨below_set HB.out (by omega)⟩⟩
                    case measure => simp [intOf]; omega
              | true =>
                have m2 : decide (0 < (p : Int) / 16) = true := k2
                have c2 := of_decide_eq_true k2
                have g2 := HRC.out wo HB.out ((p : Int) - 16) (by omega) (by omega)
                rw [show ((p : Int) - 16).toNat = p - 16 by omega] at g2
                have n20 : 0 ≤ (p : Int) - 16 := by omega
                have n21 : (p : Int) - 16 < 256 := by omega
                cases b2 : rdT g ((p : Int) - 16) with
                | true =>
                  rw [b2] at g2
                  have HE := Aside0.mk (show growT g p = true by rw [HV.out, hgp, k0, b0, k1, k2, b2]; simp)
                  clear HV k0 k1 k2
                  go_wp2
                  go_roundw
                  case rel => exact ⟨p + 1, by go_num, by omega, ⟨tabR_congr (HP.out _) (fun q _ => by rw [← upTo_step]; by_cases e : q = p; (rw [if_pos e, if_pos e]; exact HE.out.symm); (rw [if_neg e, if_neg e]))⟩, ⟨below_set HB.out (by omega)⟩⟩
                  case measure => simp [intOf]; omega
                | false =>
                  rw [b2] at g2
                  cases k3 : decide ((p : Int) / 16 < 15) with
                  | false =>
                    have m3 : decide ((p : Int) / 16 < 15) = false := k3
                    have HE := Aside0.mk (show growT g p = false by rw [HV.out, hgp, k0, b0, k1, k2, b2, k3]; simp)
                    clear HV k0 k1 k2 k3
                    go_wp2
                    go_roundw
                    case rel => exact ⟨p + 1, by go_num, by omega, ⟨tabR_congr (HP.out _) (fun q _ => by rw [← upTo_step]; by_cases e : q = p; (rw [if_pos e, if_pos e]; exact HE.out.symm); (rw [if_neg e, if_neg e]))⟩, ⟨below_set HB.out (by omega)⟩⟩
                    case measure => simp [intOf]; omega
                  | true =>
                    have m3 : decide ((p : Int) / 16 < 15) = true := k3
                    have c3 := of_decide_eq_true k3
                    have g3 := HRC.out wo HB.out ((p : Int) + 16) (by omega) (by omega)
                    rw [show ((p : Int) + 16).toNat = p + 16 by omega, add_pos ad _ (by omega)] at g3
                    have n30 : 0 ≤ (p : Int) + 16 := by omega
                    have n31 : (p : Int) + 16 < 256 := by omega
                    cases b3 : rdT g ((p : Int) + 16) with
                    | true =>
                      rw [b3] at g3
                      have HE := Aside0.mk (show growT g p = true by rw [HV.out, hgp, k0, b0, k1, k2, b2, k3, b3]; simp)
                      clear HV k0 k1 k2 k3
                      go_wp2
                      go_roundw
                      case rel => exact ⟨p + 1, by go_num, by omega, ⟨tabR_congr (HP.out _) (fun q _ => by rw [← upTo_step]; by_cases e : q = p; (rw [if_pos e, if_pos e]; exact HE.out.symm); (rw [if_neg e, if_neg e]))⟩, ⟨below_set HB.out (by omega)⟩⟩
                      case measure => simp [intOf]; omega
                    | false =>
                      rw [b3] at g3
                      have HE := Aside0.mk (show growT g p = false by rw [HV.out, hgp, k0, b0, k1, k2, b2, k3, b3]; simp)
                      clear HV k0 k1 k2 k3
                      go_wp2
                      go_roundw
                      case rel => exact ⟨p + 1, by go_num, by omega, ⟨tabR_congr (HP.out _) (fun q _ => by rw [← upTo_step]; by_cases e : q = p; (rw [if_pos e, if_pos e]; exact HE.out.symm); (rw [if_neg e, if_neg e]))⟩, ⟨below_set HB.out (by omega)⟩⟩
                      case measure => simp [intOf]; omega
            | true =>
              have m1 : decide ((p : Int) % 16 < 15) = true := k1
              have c1 := of_decide_eq_true k1
              have g1 := HRC.out wo HB.out ((p : Int) + 1) (by omega) (by omega)
              rw [show ((p : Int) + 1).toNat = p + 1 by omega, add_pos ad _ (by omega)] at g1
              have n10 : 0 ≤ (p : Int) + 1 := by omega
              have n11 : (p : Int) + 1 < 256 := by omega
              cases b1 : rdT g ((p : Int) + 1) with
              | true =>
                rw [b1] at g1
                have HE := Aside0.mk (show growT g p = true by rw [HV.out, hgp, k0, b0, k1, b1]; simp)
                clear HV k0 k1
                go_wp2
                go_roundw
                case rel => exact ⟨p + 1, by go_num, by omega, ⟨tabR_congr (HP.out _) (fun q _ => by rw [← upTo_step]; by_cases e : q = p; (rw [if_pos e, if_pos e]; exact HE.out.symm); (rw [if_neg e, if_neg e]))⟩, ⟨below_set HB.out (by omega)⟩⟩
                case measure => simp [intOf]; omega
              | false =>
                rw [b1] at g1
                cases k2 : decide ((p : Int) / 16 > 0) with
                | false =>
                  have m2 : decide (0 < (p : Int) / 16) = false := k2
                  cases k3 : decide ((p : Int) / 16 < 15) with
                  | false =>
                    have m3 : decide ((p : Int) / 16 < 15) = false := k3
                    have HE := Aside0.mk (show growT g p = false by rw [HV.out, hgp, k0, b0, k1, b1, k2, k3]; simp)
                    clear HV k0 k1 k2 k3
                    go_wp2
                    go_roundw
                    case rel => exact ⟨p + 1, by go_num, by omega, ⟨tabR_congr (HP.out _) (fun q _ => by rw [← upTo_step]; by_cases e : q = p; (rw [if_pos e, if_pos e]; exact HE.out.symm); (rw [if_neg e, if_neg e]))⟩, ⟨below_set HB.out (by omega)⟩⟩
                    case measure => simp [intOf]; omega
                  | true =>
                    have m3 : decide ((p : Int) / 16 < 15) = true := k3
                    have c3 := of_decide_eq_true k3
                    have g3 := HRC.out wo HB.out ((p : Int) + 16) (by omega) (by omega)
                    rw [show ((p : Int) + 16).toNat = p + 16 by omega, add_pos ad _ (by omega)] at g3
                    have n30 : 0 ≤ (p : Int) + 16 := by omega
                    have n31 : (p : Int) + 16 < 256 := by omega
                    cases b3 : rdT g ((p : Int) + 16) with
                    | true =>
                      rw [b3] at g3
                      have HE := Aside0.mk (show growT g p = true by rw [HV.out, hgp, k0, b0, k1, b1, k2, k3, b3]; simp)
                      clear HV k0 k1 k2 k3
                      go_wp2
                      go_roundw
                      case rel => exact ⟨p + 1, by go_num, by omega, ⟨tabR_congr (HP.out _) (fun q _ => by rw [← upTo_step]; by_cases e : q = p; (rw [if_pos e, if_pos e]; exact HE.out.symm); (rw [if_neg e, if_neg e]))⟩, ⟨below_set HB.out (by omega)⟩⟩
                      case measure => simp [intOf]; omega
                    | false =>
                      rw [b3] at g3
                      have HE := Aside0.mk (show growT g p = false by rw [HV.out, hgp, k0, b0, k1, b1, k2, k3, b3]; simp)
                      clear HV k0 k1 k2 k3
                      go_wp2
                      go_roundw
                      case rel => exact ⟨p + 1, by go_num, by omega, ⟨tabR_congr (HP.out _) (fun q _ => by rw [← upTo_step]; by_cases e : q = p; (rw [if_pos e, if_pos e]; exact HE.out.symm); (rw [if_neg e, if_neg e]))⟩, ⟨below_set HB.out (by omega)⟩⟩
                      case measure => simp [intOf]; omega
                | true =>
                  have m2 : decide (0 < (p : Int) / 16) = true := k2
                  have c2 := of_decide_eq_true k2
                  have g2 := HRC.out wo HB.out ((p : Int) - 16) (by omega) (by omega)
                  rw [show ((p : Int) - 16).toNat = p - 16 by omega] at g2
                  have n20 : 0 ≤ (p : Int) - 16 := by omega
                  have n21 : (p : Int) - 16 < 256 := by omega
                  cases b2 : rdT g ((p : Int) - 16) with
                  | true =>
                    rw [b2] at g2
                    have HE := Aside0.mk (show growT g p = true by rw [HV.out, hgp, k0, b0, k1, b1, k2, b2]; simp)
                    clear HV k0 k1 k2
                    go_wp2
                    go_roundw
                    case rel => exact ⟨p + 1, by go_num, by omega, ⟨tabR_congr (HP.out _) (fun q _ => by rw [← upTo_step]; by_cases e : q = p; (rw [if_pos e, if_pos e]; exact HE.out.symm); (rw [if_neg e, if_neg e]))⟩, ⟨below_set HB.out (by omega)⟩⟩
                    case measure => simp [intOf]; omega
                  | false =>
                    rw [b2] at g2
                    cases k3 : decide ((p : Int) / 16 < 15) with
                    | false =>
                      have m3 : decide ((p : Int) / 16 < 15) = false := k3
                      have HE := Aside0.mk (show growT g p = false by rw [HV.out, hgp, k0, b0, k1, b1, k2, b2, k3]; simp)
                      clear HV k0 k1 k2 k3
                      go_wp2
                      go_roundw
                      case rel => exact ⟨p + 1, by go_num, by omega, ⟨tabR_congr (HP.out _) (fun q _ => by rw [← upTo_step]; by_cases e : q = p; (rw [if_pos e, if_pos e]; exact HE.out.symm); (rw [if_neg e, if_neg e]))⟩, ⟨below_set HB.out (by omega)⟩⟩
                      case measure => simp [intOf]; omega
                    | true =>
                      have m3 : decide ((p : Int) / 16 < 15) = true := k3
                      have c3 := of_decide_eq_true k3
                      have g3 := HRC.out wo HB.out ((p : Int) + 16) (by omega) (by omega)
                      rw [show ((p : Int) + 16).toNat = p + 16 by omega, add_pos ad _ (by omega)] at g3
                      have n30 : 0 ≤ (p : Int) + 16 := by omega
                      have n31 : (p : Int) + 16 < 256 := by omega
                      cases b3 : rdT g ((p : Int) + 16) with
                      | true =>
                        rw [b3] at g3
                        have HE := Aside0.mk (show growT g p = true by rw [HV.out, hgp, k0, b0, k1, b1, k2, b2, k3, b3]; simp)
                        clear HV k0 k1 k2 k3
                        go_wp2
                        go_roundw
                        case rel => exact ⟨p + 1, by go_num, by omega, ⟨tabR_congr (HP.out _) (fun q _ => by rw [← upTo_step]; by_cases e : q = p; (rw [if_pos e, if_pos e]; exact HE.out.symm); (rw [if_neg e, if_neg e]))⟩, ⟨below_set HB.out (by omega)⟩⟩
                        case measure => simp [intOf]; omega
                      | false =>
                        rw [b3] at g3
                        have HE := Aside0.mk (show growT g p = false by rw [HV.out, hgp, k0, b0, k1, b1, k2, b2, k3, b3]; simp)
                        clear HV k0 k1 k2 k3
                        go_wp2
                        go_roundw
                        case rel => exact ⟨p + 1, by go_num, by omega, ⟨tabR_congr (HP.out _) (fun q _ => by rw [← upTo_step]; by_cases e : q = p; (rw [if_pos e, if_pos e]; exact HE.out.symm); (rw [if_neg e, if_neg e]))⟩, ⟨below_set HB.out (by omega)⟩⟩
                        case measure => simp [intOf]; omega
    · have d0 : decide ((p : Int) < 256) = false := by simp; omega
      have hp256 : p = 256 := by omega
      subst hp256
      go_wp2
      go_ret
      exact ⟨_, rfl, tabR_congr HO.out (fun q hq => upTo_all _ _ q hq), HB.out⟩
theorem spec_grow.calls (A0 : Option Addr) (c0 : Nat) (l0 : List Bool) (r : List Bool) (w : World) (hr0 : Kd.bool.C w A0 l0.length l0) (hc0 : l0.length ≤ c0) (h : spec_grow.f l0 = some r) :
    Calls Try.prog 85 #[.slice A0 l0.length c0] w fun e w' => ∃ v0_ : Value, e = .returned (v0_) ∧ Kd.bool.R 4 w' w.heap.size (fun _ => True) v0_ r ∧ Below w.heap.size w w' := by
  unfold spec_grow.f at h
  by_cases hl : l0.length = 256
  · rw [if_pos hl] at h
    obtain rfl := Option.some.inj h
    rw [hl] at hr0 hc0 ⊢
    rw [tab_of l0 hl] at hr0
    have e := tab_congr (fun p hp => (grow_is (fun p => l0.getD p false) p hp).symm)
    rw [e]
    exact spec_grow_calls A0 c0 _ w hr0 hc0
  · rw [if_neg hl] at h; cases h
end Go.Proofs.Ytfgeickfheogoaa.Q

/- spec.edge: the pixels of a grid that have a neighbour that is not in it, as the reference has them. -/
namespace Go.Proofs.Ytfgeickfheogoaa.Q
open Go.RowKit Go.Proofs.YtfgeickfheogoaaW.PrintWords Go.Proofs.YtfgeickfheogoaaW.PrintLast Go.Proofs.YtfgeickfheogoaaW.PrintMore
attribute [local go_sem] max2_int min2_int max_two min_two max_three min_three max_four min_four
set_option linter.unusedVariables false
set_option linter.unusedSimpArgs false
open Go.Proofs.Ytfgeickfheogoaa.Pure

def spec_edge.f (l0 : List Bool) : Option (List Bool) := if l0.length = 256 then some (tab (gso (edgeP (fun p => l0.getD p false)) 256)) else none

set_option maxHeartbeats 2000000 in
set_option maxRecDepth 100000 in
theorem spec_edge_calls (A0 : Option Addr) (c0 : Nat) (g : Nat → Bool) (w : World) (hr0 : Kd.bool.C w A0 256 (tab g)) (hc0 : 256 ≤ c0) :
    Calls Try.prog 75 #[.slice A0 256 c0] w fun e w' => ∃ v0_ : Value, e = .returned (v0_) ∧ Kd.bool.R 4 w' w.heap.size (fun _ => True) v0_ (tab (fun p => g p && !(innerT g p))) ∧ Below w.heap.size w w' := by
  obtain ⟨ad, rfl, HRD⟩ := tabC_at hr0
  have HR := Aside0.mk hr0
  have HRC := Aside0.mk (fun (W : World) (hb : Below w.heap.size w W) (i : Int) (h0 : 0 ≤ i) (h1 : i < 256) => show W.cell? (ad.add i.toNat) = some (.bool (rdT g i)) from by
    obtain ⟨ad', e, h⟩ := tabC_at (Kd.C_below HR.out hb)
    cases e
    exact h i h0 h1)
  clear hr0 HRD
  go_enter Try.func75, Try.ntmps75
  go_wp2_with (first | ((with_reducible refine gate_dst (N := 11) rfl ?_); refine Kd.R_make Kd.bool w.heap.size 4 rfl (N := 11) rfl 62 _ _ rfl 256 rfl rfl Try.underlying62 (.bool false) 1 info4 rfl (by decide) (by omega) false (ok := fun _ => True) (okp := fun _ => True) rfl (fun _ hk => hk) trivial (by omega) (by omega) (Below.refl _ _) (Nat.le_refl _) ?_; intro v1 w1 ho1 hb1 hg1 hn1; clear hg1 hn1; have HO1 := Aside0.mk ho1; have HB1 := Aside0.mk hb1; clear ho1 hb1))
  have hO : Kd.bool.R 4 w1 w.heap.size (fun _ => True) v1 (tab (fun _ => false)) := by
    have h := HO1.out
    rw [show (256 : Int).toNat = 256 from rfl, tab_false] at h
    exact h
  clear HO1
  obtain ⟨B, cap, rfl, hBb, hBl, _⟩ := Kd.R_form hO (by rw [tab_length]; omega)
  rw [tab_length] at hO ⊢
  go_loopw [5, 6, 7, 8] (fun v5 v6 v7 v8 W => ∃ p : Nat, v5 = .int .i64 p ∧ p ≤ 256 ∧ Aside0 (Kd.bool.R 4 W w.heap.size (fun _ => True) (.slice (some ⟨B, 0, none⟩) 256 cap) (tab (upTo (fun p => g p && !(innerT g p)) (fun _ => false) p))) ∧ Aside0 (Below w.heap.size w W)) (fun v5 _ _ _ _ => 256 - (intOf v5).toNat)
  case atStart => exact ⟨0, rfl, by omega, ⟨tabR_congr hO (fun p _ => rfl)⟩, HB1⟩
  case round =>
    obtain ⟨p, rfl, hp, HO, HB⟩ := hrel
    obtain ⟨wo, rfl⟩ : ∃ wo : World, wo = wr := ⟨_, rfl⟩
    by_cases hlt : p < 256
    · have d0 : decide ((p : Int) < 256) = true := by simp; omega
      have HX : ((p : Int) % 16) = ((p % 16 : Nat) : Int) := by omega
      have HY : ((p : Int) / 16) = ((p / 16 : Nat) : Int) := by omega
      have hc0 := HRC.out wo HB.out (p : Int) (by omega) (by omega)
      rw [rdT_nat g p hlt, Int.toNat_natCast] at hc0
      have ht := tabR_cell HO.out p hlt
      have hf := ht.2
      replace ht := ht.1
      have HP := Aside0.mk (tabR_put HO.out p)
      have HL := Aside0.mk hBb
      have HV := Aside0.mk (show innerT g p = (decide ((p : Int) % 16 > 0) && (decide ((p : Int) % 16 < 15) && (decide ((p : Int) / 16 > 0) && (decide ((p : Int) / 16 < 15) && (rdT g ((p : Int) - 1) && (rdT g ((p : Int) + 1) && (rdT g ((p : Int) - 16) && rdT g ((p : Int) + 16)))))))) by rw [HX, HY]; rfl)
      clear HX HY
      cases hgp : g p with
      | false =>
        rw [hgp] at hc0
        cases k0 : decide ((p : Int) % 16 > 0) with
        | false =>
          have m0 : decide (0 < (p : Int) % 16) = false := k0
          have HE := Aside0.mk (show (g p && !(innerT g p)) = false by rw [hgp, HV.out, k0]; simp)
          clear HV k0
          go_wp2
          go_roundw
          case rel => exact ⟨p + 1, by go_num, by omega, ⟨tabR_congr (HP.out _) (fun q _ => by rw [← upTo_step]; by_cases e : q = p; (rw [if_pos e, if_pos e]; exact HE.out.symm); (rw [if_neg e, if_neg e]))⟩, ⟨below_set HB.out (by omega)⟩⟩
          case measure => simp [intOf]; omega
        | true =>
        have m0 : decide (0 < (p : Int) % 16) = true := k0
        have c0 := of_decide_eq_true k0
        cases k1 : decide ((p : Int) % 16 < 15) with
        | false =>
          have m1 : decide ((p : Int) % 16 < 15) = false := k1
          have HE := Aside0.mk (show (g p && !(innerT g p)) = false by rw [hgp, HV.out, k0, k1]; simp)
          clear HV k0 k1
          go_wp2
          go_roundw
          case rel => exact ⟨p + 1, by go_num, by omega, ⟨tabR_congr (HP.out _) (fun q _ => by rw [← upTo_step]; by_cases e : q = p; (rw [if_pos e, if_pos e]; exact HE.out.symm); (rw [if_neg e, if_neg e]))⟩, ⟨below_set HB.out (by omega)⟩⟩
          case measure => simp [intOf]; omega
        | true =>
        have m1 : decide ((p : Int) % 16 < 15) = true := k1
        have c1 := of_decide_eq_true k1
        cases k2 : decide ((p : Int) / 16 > 0) with
        | false =>
          have m2 : decide (0 < (p : Int) / 16) = false := k2
          have HE := Aside0.mk (show (g p && !(innerT g p)) = false by rw [hgp, HV.out, k0, k1, k2]; simp)
          clear HV k0 k1 k2
          go_wp2
          go_roundw
          case rel => exact ⟨p + 1, by go_num, by omega, ⟨tabR_congr (HP.out _) (fun q _ => by rw [← upTo_step]; by_cases e : q = p; (rw [if_pos e, if_pos e]; exact HE.out.symm); (rw [if_neg e, if_neg e]))⟩, ⟨below_set HB.out (by omega)⟩⟩
          case measure => simp [intOf]; omega
        | true =>
        have m2 : decide (0 < (p : Int) / 16) = true := k2
        have c2 := of_decide_eq_true k2
        cases k3 : decide ((p : Int) / 16 < 15) with
        | false =>
          have m3 : decide ((p : Int) / 16 < 15) = false := k3
          have HE := Aside0.mk (show (g p && !(innerT g p)) = false by rw [hgp, HV.out, k0, k1, k2, k3]; simp)
          clear HV k0 k1 k2 k3
          go_wp2
          go_roundw
          case rel => exact ⟨p + 1, by go_num, by omega, ⟨tabR_congr (HP.out _) (fun q _ => by rw [← upTo_step]; by_cases e : q = p; (rw [if_pos e, if_pos e]; exact HE.out.symm); (rw [if_neg e, if_neg e]))⟩, ⟨below_set HB.out (by omega)⟩⟩
          case measure => simp [intOf]; omega
        | true =>
        have m3 : decide ((p : Int) / 16 < 15) = true := k3
        have c3 := of_decide_eq_true k3
        have g4 := HRC.out wo HB.out ((p : Int) - 1) (by omega) (by omega)
        rw [show ((p : Int) - 1).toNat = p - 1 by omega] at g4
        have n40 : 0 ≤ (p : Int) - 1 := by omega
        have n41 : (p : Int) - 1 < 256 := by omega
        cases b4 : rdT g ((p : Int) - 1) with
        | false =>
          rw [b4] at g4
          have HE := Aside0.mk (show (g p && !(innerT g p)) = false by rw [hgp, HV.out, k0, k1, k2, k3, b4]; simp)
          clear HV k0 k1 k2 k3
          go_wp2
          go_roundw
          case rel => exact ⟨p + 1, by go_num, by omega, ⟨tabR_congr (HP.out _) (fun q _ => by rw [← upTo_step]; by_cases e : q = p; (rw [if_pos e, if_pos e]; exact HE.out.symm); (rw [if_neg e, if_neg e]))⟩, ⟨below_set HB.out (by omega)⟩⟩
          case measure => simp [intOf]; omega
        | true =>
        rw [b4] at g4
        have g5 := HRC.out wo HB.out ((p : Int) + 1) (by omega) (by omega)
        rw [show ((p : Int) + 1).toNat = p + 1 by omega, add_pos ad _ (by omega)] at g5
        have n50 : 0 ≤ (p : Int) + 1 := by omega
        have n51 : (p : Int) + 1 < 256 := by omega
        cases b5 : rdT g ((p : Int) + 1) with
        | false =>
          rw [b5] at g5
          have HE := Aside0.mk (show (g p && !(innerT g p)) = false by rw [hgp, HV.out, k0, k1, k2, k3, b4, b5]; simp)
          clear HV k0 k1 k2 k3
          go_wp2
          go_roundw
          case rel => exact ⟨p + 1, by go_num, by omega, ⟨tabR_congr (HP.out _) (fun q _ => by rw [← upTo_step]; by_cases e : q = p; (rw [if_pos e, if_pos e]; exact HE.out.symm); (rw [if_neg e, if_neg e]))⟩, ⟨below_set HB.out (by omega)⟩⟩
          case measure => simp [intOf]; omega
        | true =>
        rw [b5] at g5
        have g6 := HRC.out wo HB.out ((p : Int) - 16) (by omega) (by omega)
        rw [show ((p : Int) - 16).toNat = p - 16 by omega] at g6
        have n60 : 0 ≤ (p : Int) - 16 := by omega
        have n61 : (p : Int) - 16 < 256 := by omega
        cases b6 : rdT g ((p : Int) - 16) with
        | false =>
          rw [b6] at g6
          have HE := Aside0.mk (show (g p && !(innerT g p)) = false by rw [hgp, HV.out, k0, k1, k2, k3, b4, b5, b6]; simp)
          clear HV k0 k1 k2 k3
          go_wp2
          go_roundw
          case rel => exact ⟨p + 1, by go_num, by omega, ⟨tabR_congr (HP.out _) (fun q _ => by rw [← upTo_step]; by_cases e : q = p; (rw [if_pos e, if_pos e]; exact HE.out.symm); (rw [if_neg e, if_neg e]))⟩, ⟨below_set HB.out (by omega)⟩⟩
          case measure => simp [intOf]; omega
        | true =>
        rw [b6] at g6
        have g7 := HRC.out wo HB.out ((p : Int) + 16) (by omega) (by omega)
        rw [show ((p : Int) + 16).toNat = p + 16 by omega, add_pos ad _ (by omega)] at g7
        have n70 : 0 ≤ (p : Int) + 16 := by omega
        have n71 : (p : Int) + 16 < 256 := by omega
        cases b7 : rdT g ((p : Int) + 16) with
        | false =>
          rw [b7] at g7
          have HE := Aside0.mk (show (g p && !(innerT g p)) = false by rw [hgp, HV.out, k0, k1, k2, k3, b4, b5, b6, b7]; simp)
          clear HV k0 k1 k2 k3
          go_wp2
          go_roundw
          case rel => exact ⟨p + 1, by go_num, by omega, ⟨tabR_congr (HP.out _) (fun q _ => by rw [← upTo_step]; by_cases e : q = p; (rw [if_pos e, if_pos e]; exact HE.out.symm); (rw [if_neg e, if_neg e]))⟩, ⟨below_set HB.out (by omega)⟩⟩
          case measure => simp [intOf]; omega
        | true =>
        rw [b7] at g7
        have HE := Aside0.mk (show (g p && !(innerT g p)) = false by rw [HV.out, k0, k1, k2, k3, b4, b5, b6, b7]; simp)
        clear HV k0 k1 k2 k3
        go_wp2
        go_roundw
        case rel => exact ⟨p + 1, by go_num, by omega, ⟨tabR_congr (HP.out _) (fun q _ => by rw [← upTo_step]; by_cases e : q = p; (rw [if_pos e, if_pos e]; exact HE.out.symm); (rw [if_neg e, if_neg e]))⟩, ⟨below_set HB.out (by omega)⟩⟩
        case measure => simp [intOf]; omega
      | true =>
        rw [hgp] at hc0
        cases k0 : decide ((p : Int) % 16 > 0) with
        | false =>
          have m0 : decide (0 < (p : Int) % 16) = false := k0
          have HE := Aside0.mk (show (g p && !(innerT g p)) = true by rw [hgp, HV.out, k0]; simp)
          clear HV k0
          go_wp2
          go_roundw
          case rel => exact ⟨p + 1, by go_num, by omega, ⟨tabR_congr (HP.out _) (fun q _ => by rw [← upTo_step]; by_cases e : q = p; (rw [if_pos e, if_pos e]; exact HE.out.symm); (rw [if_neg e, if_neg e]))⟩, ⟨below_set HB.out (by omega)⟩⟩
          case measure => simp [intOf]; omega
        | true =>
        have m0 : decide (0 < (p : Int) % 16) = true := k0
        have c0 := of_decide_eq_true k0
        cases k1 : decide ((p : Int) % 16 < 15) with
        | false =>
          have m1 : decide ((p : Int) % 16 < 15) = false := k1
          have HE := Aside0.mk (show (g p && !(innerT g p)) = true by rw [hgp, HV.out, k0, k1]; simp)
          clear HV k0 k1
          go_wp2
          go_roundw
          case rel => exact ⟨p + 1, by go_num, by omega, ⟨tabR_congr (HP.out _) (fun q _ => by rw [← upTo_step]; by_cases e : q = p; (rw [if_pos e, if_pos e]; exact HE.out.symm); (rw [if_neg e, if_neg e]))⟩, ⟨below_set HB.out (by omega)⟩⟩
          case measure => simp [intOf]; omega
        | true =>
        have m1 : decide ((p : Int) % 16 < 15) = true := k1
        have c1 := of_decide_eq_true k1
        cases k2 : decide ((p : Int) / 16 > 0) with
        | false =>
          have m2 : decide (0 < (p : Int) / 16) = false := k2
          have HE := Aside0.mk (show (g p && !(innerT g p)) = true by rw [hgp, HV.out, k0, k1, k2]; simp)
          clear HV k0 k1 k2
          go_wp2
          go_roundw
          case rel => exact ⟨p + 1, by go_num, by omega, ⟨tabR_congr (HP.out _) (fun q _ => by rw [← upTo_step]; by_cases e : q = p; (rw [if_pos e, if_pos e]; exact HE.out.symm); (rw [if_neg e, if_neg e]))⟩, ⟨below_set HB.out (by omega)⟩⟩
          case measure => simp [intOf]; omega
        | true =>
        have m2 : decide (0 < (p : Int) / 16) = true := k2
        have c2 := of_decide_eq_true k2
        cases k3 : decide ((p : Int) / 16 < 15) with
        | false =>
          have m3 : decide ((p : Int) / 16 < 15) = false := k3
          have HE := Aside0.mk (show (g p && !(innerT g p)) = true by rw [hgp, HV.out, k0, k1, k2, k3]; simp)
          clear HV k0 k1 k2 k3
          go_wp2
          go_roundw
          case rel => exact ⟨p + 1, by go_num, by omega, ⟨tabR_congr (HP.out _) (fun q _ => by rw [← upTo_step]; by_cases e : q = p; (rw [if_pos e, if_pos e]; exact HE.out.symm); (rw [if_neg e, if_neg e]))⟩, ⟨below_set HB.out (by omega)⟩⟩
          case measure => simp [intOf]; omega
        | true =>
        have m3 : decide ((p : Int) / 16 < 15) = true := k3
        have c3 := of_decide_eq_true k3
        have g4 := HRC.out wo HB.out ((p : Int) - 1) (by omega) (by omega)
        rw [show ((p : Int) - 1).toNat = p - 1 by omega] at g4
        have n40 : 0 ≤ (p : Int) - 1 := by omega
        have n41 : (p : Int) - 1 < 256 := by omega
        cases b4 : rdT g ((p : Int) - 1) with
        | false =>
          rw [b4] at g4
          have HE := Aside0.mk (show (g p && !(innerT g p)) = true by rw [hgp, HV.out, k0, k1, k2, k3, b4]; simp)
          clear HV k0 k1 k2 k3
          go_wp2
          go_roundw
          case rel => exact ⟨p + 1, by go_num, by omega, ⟨tabR_congr (HP.out _) (fun q _ => by rw [← upTo_step]; by_cases e : q = p; (rw [if_pos e, if_pos e]; exact HE.out.symm); (rw [if_neg e, if_neg e]))⟩, ⟨below_set HB.out (by omega)⟩⟩
          case measure => simp [intOf]; omega
        | true =>
        rw [b4] at g4
        have g5 := HRC.out wo HB.out ((p : Int) + 1) (by omega) (by omega)
        rw [show ((p : Int) + 1).toNat = p + 1 by omega, add_pos ad _ (by omega)] at g5
        have n50 : 0 ≤ (p : Int) + 1 := by omega
        have n51 : (p : Int) + 1 < 256 := by omega
        cases b5 : rdT g ((p : Int) + 1) with
        | false =>
          rw [b5] at g5
          have HE := Aside0.mk (show (g p && !(innerT g p)) = true by rw [hgp, HV.out, k0, k1, k2, k3, b4, b5]; simp)
          clear HV k0 k1 k2 k3
          go_wp2
          go_roundw
          case rel => exact ⟨p + 1, by go_num, by omega, ⟨tabR_congr (HP.out _) (fun q _ => by rw [← upTo_step]; by_cases e : q = p; (rw [if_pos e, if_pos e]; exact HE.out.symm); (rw [if_neg e, if_neg e]))⟩, ⟨below_set HB.out (by omega)⟩⟩
          case measure => simp [intOf]; omega
        | true =>
        rw [b5] at g5
        have g6 := HRC.out wo HB.out ((p : Int) - 16) (by omega) (by omega)
        rw [show ((p : Int) - 16).toNat = p - 16 by omega] at g6
        have n60 : 0 ≤ (p : Int) - 16 := by omega
        have n61 : (p : Int) - 16 < 256 := by omega
        cases b6 : rdT g ((p : Int) - 16) with
        | false =>
          rw [b6] at g6
          have HE := Aside0.mk (show (g p && !(innerT g p)) = true by rw [hgp, HV.out, k0, k1, k2, k3, b4, b5, b6]; simp)
          clear HV k0 k1 k2 k3
          go_wp2
          go_roundw
          case rel => exact ⟨p + 1, by go_num, by omega, ⟨tabR_congr (HP.out _) (fun q _ => by rw [← upTo_step]; by_cases e : q = p; (rw [if_pos e, if_pos e]; exact HE.out.symm); (rw [if_neg e, if_neg e]))⟩, ⟨below_set HB.out (by omega)⟩⟩
          case measure => simp [intOf]; omega
        | true =>
        rw [b6] at g6
        have g7 := HRC.out wo HB.out ((p : Int) + 16) (by omega) (by omega)
        rw [show ((p : Int) + 16).toNat = p + 16 by omega, add_pos ad _ (by omega)] at g7
        have n70 : 0 ≤ (p : Int) + 16 := by omega
        have n71 : (p : Int) + 16 < 256 := by omega
        cases b7 : rdT g ((p : Int) + 16) with
        | false =>
          rw [b7] at g7
          have HE := Aside0.mk (show (g p && !(innerT g p)) = true by rw [hgp, HV.out, k0, k1, k2, k3, b4, b5, b6, b7]; simp)
          clear HV k0 k1 k2 k3
          go_wp2
          go_roundw
          case rel => exact ⟨p + 1, by go_num, by omega, ⟨tabR_congr (HP.out _) (fun q _ => by rw [← upTo_step]; by_cases e : q = p; (rw [if_pos e, if_pos e]; exact HE.out.symm); (rw [if_neg e, if_neg e]))⟩, ⟨below_set HB.out (by omega)⟩⟩
          case measure => simp [intOf]; omega
        | true =>
        rw [b7] at g7
        have HE := Aside0.mk (show (g p && !(innerT g p)) = false by rw [HV.out, k0, k1, k2, k3, b4, b5, b6, b7]; simp)
        clear HV k0 k1 k2 k3
        go_wp2
        go_roundw
        case rel => exact ⟨p + 1, by go_num, by omega, ⟨tabR_congr (HP.out _) (fun q _ => by rw [← upTo_step]; by_cases e : q = p; (rw [if_pos e, if_pos e]; exact HE.out.symm); (rw [if_neg e, if_neg e]))⟩, ⟨below_set HB.out (by omega)⟩⟩
        case measure => simp [intOf]; omega
    · have d0 : decide ((p : Int) < 256) = false := by simp; omega
      have hp256 : p = 256 := by omega
      subst hp256
      go_wp2
      go_ret
      exact ⟨_, rfl, tabR_congr HO.out (fun q hq => upTo_all _ _ q hq), HB.out⟩
theorem spec_edge.calls (A0 : Option Addr) (c0 : Nat) (l0 : List Bool) (r : List Bool) (w : World) (hr0 : Kd.bool.C w A0 l0.length l0) (hc0 : l0.length ≤ c0) (h : spec_edge.f l0 = some r) :
    Calls Try.prog 75 #[.slice A0 l0.length c0] w fun e w' => ∃ v0_ : Value, e = .returned (v0_) ∧ Kd.bool.R 4 w' w.heap.size (fun _ => True) v0_ r ∧ Below w.heap.size w w' := by
  unfold spec_edge.f at h
  by_cases hl : l0.length = 256
  · rw [if_pos hl] at h
    obtain rfl := Option.some.inj h
    rw [hl] at hr0 hc0 ⊢
    rw [tab_of l0 hl] at hr0
    have e := tab_congr (fun p hp => (edge_is (fun p => l0.getD p false) p hp).symm)
    rw [e]
    exact spec_edge_calls A0 c0 _ w hr0 hc0
  · rw [if_neg hl] at h; cases h
end Go.Proofs.Ytfgeickfheogoaa.Q

namespace Go.Proofs.Ytfgeickfheogoaa.Q
open Go.RowKit Go.Proofs.YtfgeickfheogoaaW.PrintWords Go.Proofs.YtfgeickfheogoaaW.PrintLast Go.Proofs.YtfgeickfheogoaaW.PrintMore
attribute [local go_sem] max2_int min2_int max_two min_two max_three min_three max_four min_four
set_option linter.unusedVariables false
set_option linter.unusedSimpArgs false
/-! ### spec_shrink: function 86 -/
def spec_shrink.l0 : Nat → List Bool → List Bool → Int → Option (List Bool)
  | 0, _, _, _ => none
  | k + 1, x0, x3, x4 => if x4 < (x0.length : Int) then (if 0 ≤ x4 then (if rdOf false x0 x4 = true then (if x4 < (x3.length : Int) then (spec_shrink.l0 k x0 (x3.set (x4 : Int).toNat (!(rdOf false x3 x4))) (wrap64 (x4 + 1))) else (none)) else (if x4 < (x3.length : Int) then (spec_shrink.l0 k x0 (x3.set (x4 : Int).toNat false) (wrap64 (x4 + 1))) else (none))) else (none)) else (some x3)
def spec_shrink.f (k : Nat) (l0 : List Bool) : Option (List Bool) := (spec_edge.f l0).bind fun t87001 => (spec_shrink.l0 k l0 t87001 0)
theorem spec_shrink.mono_l : ∀ k, (∀ y0 y1 y2, LeO (spec_shrink.l0 k y0 y1 y2) (spec_shrink.l0 (k + 1) y0 y1 y2))
  | 0 => fun _ _ _ r h => by simp [spec_shrink.l0] at h
  | k + 1 => by
    have ih0 := spec_shrink.mono_l k
    · intro y0 y1 y2
      unfold spec_shrink.l0
      repeat' first
      | (with_reducible exact ih0 _ _ _)
      | (with_reducible exact LeO.refl _)
      | (with_reducible exact LeO.none _)
      | (with_reducible refine LeO.ite ?_ ?_)
      | (with_reducible refine LeO.bind ?_ (fun _ => ?_))
      | exact ih0 _ _ _
      | exact LeO.none _
      | refine LeO.ite ?_ ?_
      | refine LeO.bind ?_ (fun _ => ?_)
theorem spec_shrink.mono : ∀ a0 k, LeO (spec_shrink.f k a0) (spec_shrink.f (k + 1) a0) := by
  intro a0 k
  have ih0 := spec_shrink.mono_l k
  unfold spec_shrink.f
  repeat' first
      | (with_reducible exact ih0 _ _ _)
      | (with_reducible exact LeO.refl _)
      | (with_reducible exact LeO.none _)
      | (with_reducible refine LeO.ite ?_ ?_)
      | (with_reducible refine LeO.bind ?_ (fun _ => ?_))
      | exact ih0 _ _ _
      | exact LeO.none _
      | refine LeO.ite ?_ ?_
      | refine LeO.bind ?_ (fun _ => ?_)
set_option maxHeartbeats 8000000 in
set_option maxRecDepth 100000 in
theorem spec_shrink.calls (k : Nat) (A0 : Option Addr) (c0 : Nat) (l0 : List Bool) (r : List Bool) (w : World) (hr0 : Kd.C Kd.bool w A0 l0.length l0) (hc0 : l0.length ≤ c0) (h : spec_shrink.f k l0 = some r) :
    Calls Try.prog 86 #[.slice A0 l0.length c0] w fun e w' => ∃ v0_ : Value, e = .returned (v0_) ∧ Kd.R Kd.bool 4 w' w.heap.size (fun _ => True) v0_ r ∧ Below w.heap.size w w' := by
  have HR0 := Aside0.mk hr0
  have HC0 := Aside0.mk hc0
  clear hr0 hc0
  have HB := Aside0.mk (Below.refl w.heap.size w)
  have H : ((spec_edge.f l0).bind fun t87001 => (spec_shrink.l0 k l0 t87001 0)) = some r := h
  clear h
  replace H := Option.bind_eq_some_iff.mp H
  obtain ⟨t87001, A20, H⟩ := H
  replace H : (spec_shrink.l0 k l0 t87001 0) = some r := H
  have A2 := Aside0.mk A20
  clear A20
  have H' := Aside0.mk H
  clear H
  go_enter Try.func86, Try.ntmps86
  go_wp2_with (first | ((with_reducible refine gate_callee (f := 75) rfl ?_); refine goesL_ (some 6) rfl rfl Try.func75 (by kernel_rfl) rfl #[.slice A0 l0.length c0] rfl (by (try simp only [List.map_toArray, List.map_cons, List.map_nil]); first | done | rfl | (simp only [List.length_drop, List.length_take]; rfl)) ?_; (with_reducible refine (spec_edge.calls _ _ l0 t87001 _ ?side1 ?side2 A2.out).mono ?_); (case side1 => repeat (first | exact HR0.out | (with_reducible refine Kd.C_alloc ?_ _) | (with_reducible refine Kd.C_drewN ?_ _) | (with_reducible refine Kd.C_drew ?_))); (case side2 => exact HC0.out); rintro e w3 ⟨v87002, rfl, ho0, hb⟩; refine ⟨_, rfl, ?_⟩; have n0_ := Aside0.mk (Kd.R_lower ho0 (below_size (by repeat (first | (with_reducible first | exact HB.out | apply below_alloc | apply pw_below_drewN | apply below_drew1) | exact HB.out)))); have n1_ := Aside0.mk (below_step (by repeat (first | (with_reducible first | exact HB.out | apply below_alloc | apply pw_below_drewN | apply below_drew1) | exact HB.out)) hb); clear HB; have HO87003 := n0_; have HB := n1_; clear n0_ n1_; (try clear hb); (try clear hb2); (try clear hk); (try clear hi); (try clear ho0)))
  go_loopg [4] k (fun kq v4 w' => ∃ (x3_1 : List Bool) (x4_1 : Int), v4 = .int .i64 x4_1 ∧ Aside0 (spec_shrink.l0 kq l0 x3_1 x4_1 = some r) ∧ Aside0 (kq ≤ k) ∧ Aside0 (Kd.R Kd.bool 4 w' w.heap.size (fun _ => True) v87002 x3_1) ∧ Aside0 (Below w.heap.size w w'))
  case atStart => exact ⟨(t87001), (0), (by first | rfl | (simp; done) | (simp [*]; done)), H', ⟨Nat.le_refl _⟩, ⟨by (with_reducible repeat (first | apply Kd.R_alloc | apply Kd.R_drewN | apply Kd.R_drew)); exact HO87003.out⟩, ⟨by repeat (first | (with_reducible first | exact HB.out | apply below_alloc | apply pw_below_drewN | apply below_drew1) | exact HB.out)⟩⟩
  case round =>
    clear H'
    try clear p2
    obtain ⟨x3_1, x4_1, rfl, HA, HK1, HO_3, HB⟩ := hrel
    cases gk with
    | zero => exact absurd HA.out (by simp [spec_shrink.l0])
    | succ k1 =>
      have H := HA.out
      clear HA
      simp only [spec_shrink.l0] at H
      by_cases c4 : x4_1 < (l0.length : Int)
      · rw [if_pos c4] at H
        have c4b0 : decide (x4_1 < (l0.length : Int)) = true := decide_eq_true c4
        clear c4
        by_cases c5 : 0 ≤ x4_1
        · rw [if_pos c5] at H
          have c5b0 : decide (0 ≤ x4_1) = true := decide_eq_true c5
          clear c5
          obtain ⟨bq6, hbq6⟩ : ∃ b_ : Bool, b_ = (rdOf false l0 x4_1) := ⟨_, rfl⟩
          replace H : (if bq6 = true then (if x4_1 < (x3_1.length : Int) then (spec_shrink.l0 k1 l0 (x3_1.set (x4_1 : Int).toNat (!(rdOf false x3_1 x4_1))) (wrap64 (x4_1 + 1))) else (none)) else (if x4_1 < (x3_1.length : Int) then (spec_shrink.l0 k1 l0 (x3_1.set (x4_1 : Int).toNat false) (wrap64 (x4_1 + 1))) else (none))) = some r := by rw [← hbq6] at H; exact H
          have Nbq6 := Aside0.mk hbq6
          clear hbq6
          by_cases c7 : bq6 = true
          · subst c7
            have H1 : (if x4_1 < (x3_1.length : Int) then (spec_shrink.l0 k1 l0 (x3_1.set (x4_1 : Int).toNat (!(rdOf false x3_1 x4_1))) (wrap64 (x4_1 + 1))) else (none)) = some r := by rw [if_pos rfl] at H; exact H
            clear H
            have H := H1
            clear H1
            by_cases c8 : x4_1 < (x3_1.length : Int)
            · rw [if_pos c8] at H
              have c8b0 : decide (x4_1 < (x3_1.length : Int)) = true := decide_eq_true c8
              clear c8
              obtain ⟨y87006, hy87006⟩ : ∃ y_ : List Bool, y_ = (x3_1.set (x4_1 : Int).toNat (!(rdOf false x3_1 x4_1))) := ⟨_, rfl⟩
              replace H : (spec_shrink.l0 k1 l0 y87006 (wrap64 (x4_1 + 1))) = some r := by first | (rw [hy87006]; with_reducible exact H) | (have H2_ := (Option.bind_some _ _).symm.trans H; rw [hy87006]; with_reducible exact H2_) | (have H2_ := (Option.bind_some _ _).symm.trans H; with_reducible exact H2_) | with_reducible exact H | (rw [hy87006]; exact H) | exact H
              have Ny87006 := Aside0.mk hy87006
              clear hy87006
              have H' := Aside0.mk H
              clear H
              have p87004 : 0 ≤ (x4_1 : Int) := of_decide_eq_true (by first | (with_reducible assumption) | assumption)
              have q87004 : x4_1 < (l0.length : Int) := of_decide_eq_true (by first | (with_reducible assumption) | assumption)
              obtain ⟨ad87004, e87004, hx87004_0⟩ := Kd.at_bool HR0.out x4_1 p87004 q87004
              (try rw [← Nbq6.out] at hx87004_0)
              cases e87004
              replace hx87004_0 := (HB.out.cell (World.block_lt_of_cell? w _ hx87004_0)).trans hx87004_0
              replace p87004 := eq_true p87004
              replace q87004 := eq_true q87004
              obtain ⟨Ao10, co10, eo10⟩ := Kd.R_slice HO_3.out
              subst eo10
              have p87005 : 0 ≤ (x4_1 : Int) := of_decide_eq_true (by first | (with_reducible assumption) | assumption)
              have q87005 : x4_1 < (x3_1.length : Int) := of_decide_eq_true (by first | (with_reducible assumption) | assumption)
              obtain ⟨ad87005, e87005, hx87005_0⟩ := Kd.at_bool (Kd.R_reads' HO_3.out).2.2 x4_1 p87005 q87005
              (try rw [← Nbq6.out] at hx87005_0)
              cases e87005
              replace p87005 := eq_true p87005
              replace q87005 := eq_true q87005
              have p9 : 0 ≤ (x4_1 : Int) := of_decide_eq_true (by first | (with_reducible assumption) | assumption)
              have q9 : (x4_1 : Int) < ((x3_1.length : Int) : Int) := of_decide_eq_true (by first | (with_reducible assumption) | assumption)
              obtain ⟨go9, co9, eo9, gb9, gl9, cl9, HG9⟩ := Kd.R_form HO_3.out (by omega)
              (first | cases eo9 | (injection eo9 with ea_ en_ ec_; (first | subst ea_ | (injection ea_ with ea_; subst ea_)); subst ec_; clear en_))
              have GB9 := Aside0.mk gb9
              have GG9 := Aside0.mk HG9
              clear gb9 gl9 HG9
              (first | simp only [add_plain] at hx87005_0 | skip)
              obtain ⟨hx9_0, hf9_0⟩ := Kd.R_celln false HO_3.out (x4_1 : Int) p9 q9
              replace p9 := eq_true p9
              replace q9 := eq_true q9
              have HP11 := Kd.R_putg HO_3.out (x4_1 : Int) (!(rdOf false x3_1 x4_1))
              go_wp2_with (first | ((with_reducible refine gate_store (t := 4) (p := 26) rfl ?_); refine store_event (t := 4) (p := 26) (v := ?vo_w12) (w1 := (wr.setCell ⟨go9, (x4_1 : Int).toNat, none⟩ (.bool (!(rdOf false x3_1 x4_1))))) ?hg ?ho ?hn ?hr ?_; (case ho => rfl); (case hg => rfl); (case hn => rfl); (case hr => first | (go_simp; done) | (go_simp; rfl)); intro w12 hw; have hg : wr.grownBy w12 (some go9) := (by rw [hw]; exact HP11.2); have hp_ : Kd.R Kd.bool 4 w12 w.heap.size (fun _ => True) (.slice (some ⟨go9, 0, none⟩) x3_1.length co10) y87006 := (by rw [hw, Ny87006.out]; exact HP11.1); clear HP11; have n0_ := Aside0.mk (hp_); have n1_ := Aside0.mk ((by rw [hw]; exact below_set (HB.out) GB9.out : Below w.heap.size w w12)); clear HO_3; clear HB; have HO_3 := n0_; have HB := n1_; clear n0_ n1_; clear hg hw hp_))
              go_roundg k1
              case measure => have := HK1.out; omega
              case rel => exact ⟨(y87006), (wrap64 (x4_1 + 1)), (by first | rfl | (simp; done) | (simp [*]; done)), H', ⟨by have := HK1.out; omega⟩, ⟨by (with_reducible repeat (first | apply Kd.R_alloc | apply Kd.R_drewN | apply Kd.R_drew)); exact HO_3.out⟩, ⟨by repeat (first | (with_reducible first | exact HB.out | apply below_alloc | apply pw_below_drewN | apply below_drew1) | exact HB.out)⟩⟩
            · rw [if_neg c8] at H
              exact absurd H (by simp)
          · replace c7 := Bool.eq_false_iff.mpr c7
            subst c7
            have H1 : (if x4_1 < (x3_1.length : Int) then (spec_shrink.l0 k1 l0 (x3_1.set (x4_1 : Int).toNat false) (wrap64 (x4_1 + 1))) else (none)) = some r := by rw [if_neg (show ¬ (false = true) by decide)] at H; exact H
            clear H
            have H := H1
            clear H1
            by_cases c13 : x4_1 < (x3_1.length : Int)
            · rw [if_pos c13] at H
              have c13b0 : decide (x4_1 < (x3_1.length : Int)) = true := decide_eq_true c13
              clear c13
              obtain ⟨y87007, hy87007⟩ : ∃ y_ : List Bool, y_ = (x3_1.set (x4_1 : Int).toNat false) := ⟨_, rfl⟩
              replace H : (spec_shrink.l0 k1 l0 y87007 (wrap64 (x4_1 + 1))) = some r := by first | (rw [hy87007]; with_reducible exact H) | (have H2_ := (Option.bind_some _ _).symm.trans H; rw [hy87007]; with_reducible exact H2_) | (have H2_ := (Option.bind_some _ _).symm.trans H; with_reducible exact H2_) | with_reducible exact H | (rw [hy87007]; exact H) | exact H
              have Ny87007 := Aside0.mk hy87007
              clear hy87007
              have H' := Aside0.mk H
              clear H
              have p87004 : 0 ≤ (x4_1 : Int) := of_decide_eq_true (by first | (with_reducible assumption) | assumption)
              have q87004 : x4_1 < (l0.length : Int) := of_decide_eq_true (by first | (with_reducible assumption) | assumption)
              obtain ⟨ad87004, e87004, hx87004_0⟩ := Kd.at_bool HR0.out x4_1 p87004 q87004
              (try rw [← Nbq6.out] at hx87004_0)
              cases e87004
              replace hx87004_0 := (HB.out.cell (World.block_lt_of_cell? w _ hx87004_0)).trans hx87004_0
              replace p87004 := eq_true p87004
              replace q87004 := eq_true q87004
              have p14 : 0 ≤ (x4_1 : Int) := of_decide_eq_true (by first | (with_reducible assumption) | assumption)
              have q14 : (x4_1 : Int) < ((x3_1.length : Int) : Int) := of_decide_eq_true (by first | (with_reducible assumption) | assumption)
              obtain ⟨go14, co14, eo14, gb14, gl14, cl14, HG14⟩ := Kd.R_form HO_3.out (by omega)
              (first | cases eo14 | (injection eo14 with ea_ en_ ec_; (first | subst ea_ | (injection ea_ with ea_; subst ea_)); subst ec_; clear en_))
              have GB14 := Aside0.mk gb14
              have GG14 := Aside0.mk HG14
              clear gb14 gl14 HG14
              obtain ⟨hx14_0, hf14_0⟩ := Kd.R_celln false HO_3.out (x4_1 : Int) p14 q14
              replace p14 := eq_true p14
              replace q14 := eq_true q14
              have HP15 := Kd.R_putg HO_3.out (x4_1 : Int) false
              go_wp2_with (first | ((with_reducible refine gate_store (t := 4) (p := 26) rfl ?_); refine store_event (t := 4) (p := 26) (v := ?vo_w16) (w1 := (wr.setCell ⟨go14, (x4_1 : Int).toNat, none⟩ (.bool false))) ?hg ?ho ?hn ?hr ?_; (case ho => rfl); (case hg => rfl); (case hn => rfl); (case hr => first | (go_simp; done) | (go_simp; rfl)); intro w16 hw; have hg : wr.grownBy w16 (some go14) := (by rw [hw]; exact HP15.2); have hp_ : Kd.R Kd.bool 4 w16 w.heap.size (fun _ => True) (.slice (some ⟨go14, 0, none⟩) x3_1.length co14) y87007 := (by rw [hw, Ny87007.out]; exact HP15.1); clear HP15; have n0_ := Aside0.mk (hp_); have n1_ := Aside0.mk ((by rw [hw]; exact below_set (HB.out) GB14.out : Below w.heap.size w w16)); clear HO_3; clear HB; have HO_3 := n0_; have HB := n1_; clear n0_ n1_; clear hg hw hp_))
              go_roundg k1
              case measure => have := HK1.out; omega
              case rel => exact ⟨(y87007), (wrap64 (x4_1 + 1)), (by first | rfl | (simp; done) | (simp [*]; done)), H', ⟨by have := HK1.out; omega⟩, ⟨by (with_reducible repeat (first | apply Kd.R_alloc | apply Kd.R_drewN | apply Kd.R_drew)); exact HO_3.out⟩, ⟨by repeat (first | (with_reducible first | exact HB.out | apply below_alloc | apply pw_below_drewN | apply below_drew1) | exact HB.out)⟩⟩
            · rw [if_neg c13] at H
              exact absurd H (by simp)
        · rw [if_neg c5] at H
          exact absurd H (by simp)
      · rw [if_neg c4] at H
        have c4b0 : decide (x4_1 < (l0.length : Int)) = false := decide_eq_false c4
        clear c4
        obtain rfl := Option.some.inj H
        go_wp2
        go_ret
        exact ⟨_, by first | rfl | (simp [errW_none, errW_some] <;> rfl) | (simp [*, errW_none, errW_some] <;> rfl), by (with_reducible repeat (first | apply Kd.R_alloc | apply Kd.R_drewN | apply Kd.R_drew)); exact HO_3.out, by repeat (first | (with_reducible first | exact HB.out | apply below_alloc | apply pw_below_drewN | apply below_drew1) | exact HB.out)⟩

end Go.Proofs.Ytfgeickfheogoaa.Q
