/- A part of the proof that the statement FnChangedRegionSaid holds, under no condition of its own: Changes are where pixels differ: the law FnChangedRegion over lists of numbers alone. -/
import Derived.Test.YtbgohbinonkhfaaCFnChangedRegion1
import Derived.Test.YtbgohbinonkhfaaCFnChangedRegion4
import Derived.Test.YtbgohbinonkhfaaCFnChangedRegion2
import Derived.Test.YtbgohbinonkhfaaCFnChangedRegion3
namespace Go.Proofs.Ytbgohbinonkhfaa.Q
open Go.RowKit Go.Proofs.YtbgohbinonkhfaaW.PrintWords Go.Proofs.YtbgohbinonkhfaaW.PrintLast Go.Proofs.YtbgohbinonkhfaaW.PrintMore
attribute [local go_sem] max2_int min2_int max_two min_two max_three min_three max_four min_four
set_option linter.unusedVariables false
set_option linter.unusedSimpArgs false
/-! ### impl_isRegion: function 56 -/
mutual
def impl_isRegion.l0 : Nat → List (S47) → List (S47) → Int → Int → Option (Bool)
  | 0, _, _, _, _ => none
  | k + 1, x0, x6, x7, x8 => if x8 < x7 then (if 0 ≤ x8 then (if x8 < (x6.length : Int) then (if ((rd_T47 x6 x8).f0) < 0 then (impl_isRegion.j1 k x0 x8 x6 x7 x8 true ((rd_T47 x6 x8).f0) ((rd_T47 x6 x8).f1) ((rd_T47 x6 x8).f2)) else (if ((rd_T47 x6 x8).f0) ≥ 16 then (impl_isRegion.j1 k x0 x8 x6 x7 x8 true ((rd_T47 x6 x8).f0) ((rd_T47 x6 x8).f1) ((rd_T47 x6 x8).f2)) else (if ((rd_T47 x6 x8).f1) < 0 then (impl_isRegion.j1 k x0 x8 x6 x7 x8 true ((rd_T47 x6 x8).f0) ((rd_T47 x6 x8).f1) ((rd_T47 x6 x8).f2)) else (if ((rd_T47 x6 x8).f2) ≤ ((rd_T47 x6 x8).f1) then (impl_isRegion.j1 k x0 x8 x6 x7 x8 true ((rd_T47 x6 x8).f0) ((rd_T47 x6 x8).f1) ((rd_T47 x6 x8).f2)) else (impl_isRegion.j1 k x0 x8 x6 x7 x8 (decide (((rd_T47 x6 x8).f2) > 16)) ((rd_T47 x6 x8).f0) ((rd_T47 x6 x8).f1) ((rd_T47 x6 x8).f2)))))) else (none)) else (none)) else (some true)
def impl_isRegion.j1 : Nat → List (S47) → Int → List (S47) → Int → Int → Bool → Int → Int → Int → Option (Bool)
  | 0, _, _, _, _, _, _, _, _, _ => none
  | k + 1, x0, x3, x6, x7, x8, x37, x57003000, x57003001, x57003002 => if x37 = true then (some false) else (if x3 = 0 then (impl_isRegion.l0 k x0 x6 x7 (wrap64 (x8 + 1))) else (if 0 ≤ (wrap64 (x3 - 1)) then (if (wrap64 (x3 - 1)) < (x0.length : Int) then (if x57003000 < ((rd_T47 x0 (wrap64 (x3 - 1))).f0) then (some false) else (if x57003000 = ((rd_T47 x0 (wrap64 (x3 - 1))).f0) then (if x57003001 ≤ ((rd_T47 x0 (wrap64 (x3 - 1))).f2) then (some false) else (impl_isRegion.l0 k x0 x6 x7 (wrap64 (x8 + 1)))) else (impl_isRegion.l0 k x0 x6 x7 (wrap64 (x8 + 1))))) else (none)) else (none)))
end
def impl_isRegion.f (k : Nat) (l0 : List (S47)) : Option (Bool) := impl_isRegion.l0 k l0 l0 (l0.length : Int) 0
theorem impl_isRegion.mono_l : ∀ k, (∀ y0 y1 y2 y3, LeO (impl_isRegion.l0 k y0 y1 y2 y3) (impl_isRegion.l0 (k + 1) y0 y1 y2 y3)) ∧ (∀ y0 y1 y2 y3 y4 y5 y6 y7 y8, LeO (impl_isRegion.j1 k y0 y1 y2 y3 y4 y5 y6 y7 y8) (impl_isRegion.j1 (k + 1) y0 y1 y2 y3 y4 y5 y6 y7 y8))
  | 0 => ⟨fun _ _ _ _ r h => by simp [impl_isRegion.l0] at h, fun _ _ _ _ _ _ _ _ _ r h => by simp [impl_isRegion.j1] at h⟩
  | k + 1 => by
    obtain ⟨ih0, ih1⟩ := impl_isRegion.mono_l k
    refine ⟨?_, ?_⟩
    · intro y0 y1 y2 y3
      unfold impl_isRegion.l0
      repeat' first
      | (with_reducible exact ih0 _ _ _ _)
      | (with_reducible exact ih1 _ _ _ _ _ _ _ _ _)
      | (with_reducible exact LeO.refl _)
      | (with_reducible exact LeO.none _)
      | (with_reducible refine LeO.ite ?_ ?_)
      | (with_reducible refine LeO.bind ?_ (fun _ => ?_))
      | exact ih0 _ _ _ _
      | exact ih1 _ _ _ _ _ _ _ _ _
      | exact LeO.none _
      | refine LeO.ite ?_ ?_
      | refine LeO.bind ?_ (fun _ => ?_)
    · intro y0 y1 y2 y3 y4 y5 y6 y7 y8
      unfold impl_isRegion.j1
      repeat' first
      | (with_reducible exact ih0 _ _ _ _)
      | (with_reducible exact ih1 _ _ _ _ _ _ _ _ _)
      | (with_reducible exact LeO.refl _)
      | (with_reducible exact LeO.none _)
      | (with_reducible refine LeO.ite ?_ ?_)
      | (with_reducible refine LeO.bind ?_ (fun _ => ?_))
      | exact ih0 _ _ _ _
      | exact ih1 _ _ _ _ _ _ _ _ _
      | exact LeO.none _
      | refine LeO.ite ?_ ?_
      | refine LeO.bind ?_ (fun _ => ?_)
theorem impl_isRegion.mono : ∀ a0 k, LeO (impl_isRegion.f k a0) (impl_isRegion.f (k + 1) a0) := by
  intro a0 k
  obtain ⟨ih0, ih1⟩ := impl_isRegion.mono_l k
  unfold impl_isRegion.f
  repeat' first
      | (with_reducible exact ih0 _ _ _ _)
      | (with_reducible exact ih1 _ _ _ _ _ _ _ _ _)
      | (with_reducible exact LeO.refl _)
      | (with_reducible exact LeO.none _)
      | (with_reducible refine LeO.ite ?_ ?_)
      | (with_reducible refine LeO.bind ?_ (fun _ => ?_))
      | exact ih0 _ _ _ _
      | exact ih1 _ _ _ _ _ _ _ _ _
      | exact LeO.none _
      | refine LeO.ite ?_ ?_
      | refine LeO.bind ?_ (fun _ => ?_)
set_option maxHeartbeats 8000000 in
set_option maxRecDepth 100000 in
theorem impl_isRegion.calls (k : Nat) (A0 : Option Addr) (c0 : Nat) (l0 : List (S47)) (r : Bool) (w : World) (hr0 : Kd.C k47 w A0 l0.length l0) (hc0 : l0.length ≤ c0) (h : impl_isRegion.f k l0 = some r) :
    Calls Try.prog 56 #[.slice A0 l0.length c0] w fun e w' => e = .returned (.bool r) ∧ Below w.heap.size w w' := by
  have hu47 := Try.underlying47
  have HR0 := Aside0.mk hr0
  have HC0 := Aside0.mk hc0
  clear hr0 hc0
  have HB := Aside0.mk (Below.refl w.heap.size w)
  have H : (impl_isRegion.l0 k l0 l0 (l0.length : Int) 0) = some r := h
  clear h
  have H' := Aside0.mk H
  clear H
  go_enter Try.func56, Try.ntmps56
  go_wp2
  go_loopg [8] k (fun kq v8 w' => ∃ (x8_1 : Int), v8 = .int .i64 x8_1 ∧ Aside0 (impl_isRegion.l0 kq l0 l0 (l0.length : Int) x8_1 = some r) ∧ Aside0 (kq ≤ k) ∧ Aside0 (Below w.heap.size w w'))
  case atStart => exact ⟨(0), (by first | rfl | (simp; done) | (simp [*]; done)), H', ⟨Nat.le_refl _⟩, ⟨by repeat (first | (with_reducible first | exact HB.out | apply below_alloc | apply pw_below_drewN | apply below_drew1) | exact HB.out)⟩⟩
  case round =>
    clear H'
    obtain ⟨x8_1, rfl, HA, HK1, HB⟩ := hrel
    cases gk with
    | zero => exact absurd HA.out (by simp [impl_isRegion.l0])
    | succ k1 =>
      have H := HA.out
      clear HA
      simp only [impl_isRegion.l0] at H
      by_cases c2 : x8_1 < (l0.length : Int)
      · rw [if_pos c2] at H
        have c2b0 : decide (x8_1 < (l0.length : Int)) = true := decide_eq_true c2
        clear c2
        by_cases c3 : 0 ≤ x8_1
        · rw [if_pos c3] at H
          have c3b0 : decide (0 ≤ x8_1) = true := decide_eq_true c3
          clear c3
          by_cases c4 : x8_1 < (l0.length : Int)
          · rw [if_pos c4] at H
            have c4b0 : decide (x8_1 < (l0.length : Int)) = true := decide_eq_true c4
            clear c4
            have HC5 := Aside0.mk H
            clear H
            have p57001 : 0 ≤ (x8_1 : Int) := of_decide_eq_true (by first | (with_reducible assumption) | assumption)
            have q57001 : x8_1 < (l0.length : Int) := of_decide_eq_true (by first | (with_reducible assumption) | assumption)
            obtain ⟨ad57001, e57001, hx57001_0, hx57001_1, hx57001_2⟩ := at_T47 HR0.out x8_1 p57001 q57001
            cases e57001
            replace hx57001_0 := (HB.out.cell (World.block_lt_of_cell? w _ hx57001_0)).trans hx57001_0
            replace hx57001_1 := (HB.out.cell (World.block_lt_of_cell? w _ hx57001_1)).trans hx57001_1
            replace hx57001_2 := (HB.out.cell (World.block_lt_of_cell? w _ hx57001_2)).trans hx57001_2
            replace p57001 := eq_true p57001
            replace q57001 := eq_true q57001
            go_upto_region 4 with (first | ((with_reducible refine gate_dst (N := 4) rfl ?_); refine box_event ?hg (N := 4) ?hd (cs := #[.int .i64 0, .int .i64 0, .int .i64 0]) (t := 47) ?hr ?_; (case hd => rfl); (case hg => rfl); (case hr => first | (go_simp; done) | (go_simp; rfl)); intro gb57002 hg w6 hbox hb; have n0_ := Aside0.mk (below_step (by repeat (first | (with_reducible first | exact HB.out | apply below_alloc | apply pw_below_drewN | apply below_drew1) | exact HB.out)) hb); have n1_ := Aside0.mk (hbox); have n2_ := Aside0.mk ((by rw [hg]; exact (below_size (by repeat (first | (with_reducible first | exact HB.out | apply below_alloc | apply pw_below_drewN | apply below_drew1) | exact HB.out))) : w.heap.size ≤ gb57002)); have n3_ := Aside0.mk ((by rw [hg]; exact (below_size (by repeat (first | (with_reducible first | exact HB.out | apply below_alloc | apply pw_below_drewN | apply below_drew1) | exact HB.out))) : w.heap.size ≤ gb57002)); clear HB; have HB := n0_; have BK57002 := n1_; have GW57002 := n2_; have GE57002 := n3_; clear n0_ n1_ n2_ n3_; clear hb hbox hg; have hcz7_0 : w6.cell? ⟨gb57002, 0, none⟩ = some (.int .i64 0) := (blk_cell BK57002.out 0).trans rfl; have hcz7_1 : w6.cell? ⟨gb57002, 1, none⟩ = some (.int .i64 0) := (blk_cell BK57002.out 1).trans rfl; have hcz7_2 : w6.cell? ⟨gb57002, 2, none⟩ = some (.int .i64 0) := (blk_cell BK57002.out 2).trans rfl; have hfz7_0 := blk_frozen BK57002.out 0; have hfz7_1 := blk_frozen BK57002.out 1; have hfz7_2 := blk_frozen BK57002.out 2))
            (try simp only [Act.put, List.setIfInBounds_toArray, List.set_cons_zero, List.set_cons_succ])
            go_cut [37] (fun v37 wc => ∃ (kq : Nat) (x37_4 : Bool), v37 = .bool x37_4 ∧ Aside0 (impl_isRegion.j1 kq l0 x8_1 l0 (l0.length : Int) x8_1 x37_4 ((rd_T47 l0 x8_1).f0) ((rd_T47 l0 x8_1).f1) ((rd_T47 l0 x8_1).f2) = some r) ∧ Aside0 (kq ≤ k1) ∧ Aside0 (wc.heap[gb57002]? = some (.cells #[.int .i64 ((rd_T47 l0 x8_1).f0), .int .i64 ((rd_T47 l0 x8_1).f1), .int .i64 ((rd_T47 l0 x8_1).f2)] 47 (0, 0))) ∧ Aside0 (Below w.heap.size w wc))
            case first =>
              have H := HC5.out
              clear HC5
              by_cases c8 : ((rd_T47 l0 x8_1).f0) < 0
              · rw [if_pos c8] at H
                have c8b0 : decide (((rd_T47 l0 x8_1).f0) < 0) = true := decide_eq_true c8
                clear c8
                (first | rw [c8b0] | (simp only [i64_w, i32_w]; rw [c8b0]) | skip)
                have H' := Aside0.mk H
                clear H
                have hcz9_0 : w6.cell? ⟨gb57002, 0, none⟩ = some (.int .i64 0) := (blk_cell BK57002.out 0).trans rfl
                have hcz9_1 : w6.cell? ⟨gb57002, 1, none⟩ = some (.int .i64 0) := (blk_cell BK57002.out 1).trans rfl
                have hcz9_2 : w6.cell? ⟨gb57002, 2, none⟩ = some (.int .i64 0) := (blk_cell BK57002.out 2).trans rfl
                have hfz9_0 := blk_frozen BK57002.out 0
                have hfz9_1 := blk_frozen BK57002.out 1
                have hfz9_2 := blk_frozen BK57002.out 2
                go_wp2
                go_meet
                case rel => exact ⟨_, (true), (by first | rfl | (simp; done) | (simp [*]; done)), H', ⟨by have := HK1.out; first | omega | exact Nat.le_refl _⟩, ⟨by (with_reducible repeat (first | refine blk_drewN ?_ _ | refine blk_drew ?_ | refine blk_alloc ?_ _)); refine blk_put (cs := #[.int .i64 ((rd_T47 l0 x8_1).f0), .int .i64 ((rd_T47 l0 x8_1).f1), .int .i64 0]) ?_ 2 _ rfl; (with_reducible repeat (first | refine blk_drewN ?_ _ | refine blk_drew ?_ | refine blk_alloc ?_ _)); refine blk_put (cs := #[.int .i64 ((rd_T47 l0 x8_1).f0), .int .i64 0, .int .i64 0]) ?_ 1 _ rfl; (with_reducible repeat (first | refine blk_drewN ?_ _ | refine blk_drew ?_ | refine blk_alloc ?_ _)); refine blk_put (cs := #[.int .i64 0, .int .i64 0, .int .i64 0]) ?_ 0 _ rfl; (with_reducible repeat (first | refine blk_drewN ?_ _ | refine blk_drew ?_ | refine blk_alloc ?_ _)); exact BK57002.out⟩, ⟨by repeat (first | (with_reducible first | exact HB.out | apply below_alloc | apply pw_below_drewN | apply below_drew1 | refine below_set ?_ GE57002.out) | exact HB.out)⟩⟩
              · rw [if_neg c8] at H
                have c8b0 : decide (((rd_T47 l0 x8_1).f0) < 0) = false := decide_eq_false c8
                clear c8
                (first | rw [c8b0] | (simp only [i64_w, i32_w]; rw [c8b0]) | skip)
                by_cases c10 : ((rd_T47 l0 x8_1).f0) ≥ 16
                · rw [if_pos c10] at H
                  have c10b0 : decide (16 ≤ ((rd_T47 l0 x8_1).f0)) = true := decide_eq_true c10
                  clear c10
                  have H' := Aside0.mk H
                  clear H
                  have hcz11_0 : w6.cell? ⟨gb57002, 0, none⟩ = some (.int .i64 0) := (blk_cell BK57002.out 0).trans rfl
                  have hcz11_1 : w6.cell? ⟨gb57002, 1, none⟩ = some (.int .i64 0) := (blk_cell BK57002.out 1).trans rfl
                  have hcz11_2 : w6.cell? ⟨gb57002, 2, none⟩ = some (.int .i64 0) := (blk_cell BK57002.out 2).trans rfl
                  have hfz11_0 := blk_frozen BK57002.out 0
                  have hfz11_1 := blk_frozen BK57002.out 1
                  have hfz11_2 := blk_frozen BK57002.out 2
                  go_wp2
                  go_meet
                  case rel => exact ⟨_, (true), (by first | rfl | (simp; done) | (simp [*]; done)), H', ⟨by have := HK1.out; first | omega | exact Nat.le_refl _⟩, ⟨by (with_reducible repeat (first | refine blk_drewN ?_ _ | refine blk_drew ?_ | refine blk_alloc ?_ _)); refine blk_put (cs := #[.int .i64 ((rd_T47 l0 x8_1).f0), .int .i64 ((rd_T47 l0 x8_1).f1), .int .i64 0]) ?_ 2 _ rfl; (with_reducible repeat (first | refine blk_drewN ?_ _ | refine blk_drew ?_ | refine blk_alloc ?_ _)); refine blk_put (cs := #[.int .i64 ((rd_T47 l0 x8_1).f0), .int .i64 0, .int .i64 0]) ?_ 1 _ rfl; (with_reducible repeat (first | refine blk_drewN ?_ _ | refine blk_drew ?_ | refine blk_alloc ?_ _)); refine blk_put (cs := #[.int .i64 0, .int .i64 0, .int .i64 0]) ?_ 0 _ rfl; (with_reducible repeat (first | refine blk_drewN ?_ _ | refine blk_drew ?_ | refine blk_alloc ?_ _)); exact BK57002.out⟩, ⟨by repeat (first | (with_reducible first | exact HB.out | apply below_alloc | apply pw_below_drewN | apply below_drew1 | refine below_set ?_ GE57002.out) | exact HB.out)⟩⟩
                · rw [if_neg c10] at H
                  have c10b0 : decide (16 ≤ ((rd_T47 l0 x8_1).f0)) = false := decide_eq_false c10
                  clear c10
                  by_cases c12 : ((rd_T47 l0 x8_1).f1) < 0
                  · rw [if_pos c12] at H
                    have c12b0 : decide (((rd_T47 l0 x8_1).f1) < 0) = true := decide_eq_true c12
                    clear c12
                    have H' := Aside0.mk H
                    clear H
                    have hcz13_0 : w6.cell? ⟨gb57002, 0, none⟩ = some (.int .i64 0) := (blk_cell BK57002.out 0).trans rfl
                    have hcz13_1 : w6.cell? ⟨gb57002, 1, none⟩ = some (.int .i64 0) := (blk_cell BK57002.out 1).trans rfl
                    have hcz13_2 : w6.cell? ⟨gb57002, 2, none⟩ = some (.int .i64 0) := (blk_cell BK57002.out 2).trans rfl
                    have hfz13_0 := blk_frozen BK57002.out 0
                    have hfz13_1 := blk_frozen BK57002.out 1
                    have hfz13_2 := blk_frozen BK57002.out 2
                    go_wp2
                    go_meet
                    case rel => exact ⟨_, (true), (by first | rfl | (simp; done) | (simp [*]; done)), H', ⟨by have := HK1.out; first | omega | exact Nat.le_refl _⟩, ⟨by (with_reducible repeat (first | refine blk_drewN ?_ _ | refine blk_drew ?_ | refine blk_alloc ?_ _)); refine blk_put (cs := #[.int .i64 ((rd_T47 l0 x8_1).f0), .int .i64 ((rd_T47 l0 x8_1).f1), .int .i64 0]) ?_ 2 _ rfl; (with_reducible repeat (first | refine blk_drewN ?_ _ | refine blk_drew ?_ | refine blk_alloc ?_ _)); refine blk_put (cs := #[.int .i64 ((rd_T47 l0 x8_1).f0), .int .i64 0, .int .i64 0]) ?_ 1 _ rfl; (with_reducible repeat (first | refine blk_drewN ?_ _ | refine blk_drew ?_ | refine blk_alloc ?_ _)); refine blk_put (cs := #[.int .i64 0, .int .i64 0, .int .i64 0]) ?_ 0 _ rfl; (with_reducible repeat (first | refine blk_drewN ?_ _ | refine blk_drew ?_ | refine blk_alloc ?_ _)); exact BK57002.out⟩, ⟨by repeat (first | (with_reducible first | exact HB.out | apply below_alloc | apply pw_below_drewN | apply below_drew1 | refine below_set ?_ GE57002.out) | exact HB.out)⟩⟩
                  · rw [if_neg c12] at H
                    have c12b0 : decide (((rd_T47 l0 x8_1).f1) < 0) = false := decide_eq_false c12
                    clear c12
                    by_cases c14 : ((rd_T47 l0 x8_1).f2) ≤ ((rd_T47 l0 x8_1).f1)
                    · rw [if_pos c14] at H
                      have c14b0 : decide (((rd_T47 l0 x8_1).f2) ≤ ((rd_T47 l0 x8_1).f1)) = true := decide_eq_true c14
                      clear c14
                      have H' := Aside0.mk H
                      clear H
                      have hcz15_0 : w6.cell? ⟨gb57002, 0, none⟩ = some (.int .i64 0) := (blk_cell BK57002.out 0).trans rfl
                      have hcz15_1 : w6.cell? ⟨gb57002, 1, none⟩ = some (.int .i64 0) := (blk_cell BK57002.out 1).trans rfl
                      have hcz15_2 : w6.cell? ⟨gb57002, 2, none⟩ = some (.int .i64 0) := (blk_cell BK57002.out 2).trans rfl
                      have hfz15_0 := blk_frozen BK57002.out 0
                      have hfz15_1 := blk_frozen BK57002.out 1
                      have hfz15_2 := blk_frozen BK57002.out 2
                      go_wp2
                      go_meet
                      case rel => exact ⟨_, (true), (by first | rfl | (simp; done) | (simp [*]; done)), H', ⟨by have := HK1.out; first | omega | exact Nat.le_refl _⟩, ⟨by (with_reducible repeat (first | refine blk_drewN ?_ _ | refine blk_drew ?_ | refine blk_alloc ?_ _)); refine blk_put (cs := #[.int .i64 ((rd_T47 l0 x8_1).f0), .int .i64 ((rd_T47 l0 x8_1).f1), .int .i64 0]) ?_ 2 _ rfl; (with_reducible repeat (first | refine blk_drewN ?_ _ | refine blk_drew ?_ | refine blk_alloc ?_ _)); refine blk_put (cs := #[.int .i64 ((rd_T47 l0 x8_1).f0), .int .i64 0, .int .i64 0]) ?_ 1 _ rfl; (with_reducible repeat (first | refine blk_drewN ?_ _ | refine blk_drew ?_ | refine blk_alloc ?_ _)); refine blk_put (cs := #[.int .i64 0, .int .i64 0, .int .i64 0]) ?_ 0 _ rfl; (with_reducible repeat (first | refine blk_drewN ?_ _ | refine blk_drew ?_ | refine blk_alloc ?_ _)); exact BK57002.out⟩, ⟨by repeat (first | (with_reducible first | exact HB.out | apply below_alloc | apply pw_below_drewN | apply below_drew1 | refine below_set ?_ GE57002.out) | exact HB.out)⟩⟩
                    · rw [if_neg c14] at H
                      have c14b0 : decide (((rd_T47 l0 x8_1).f2) ≤ ((rd_T47 l0 x8_1).f1)) = false := decide_eq_false c14
                      clear c14
                      have H' := Aside0.mk H
                      clear H
                      have hcz16_0 : w6.cell? ⟨gb57002, 0, none⟩ = some (.int .i64 0) := (blk_cell BK57002.out 0).trans rfl
                      have hcz16_1 : w6.cell? ⟨gb57002, 1, none⟩ = some (.int .i64 0) := (blk_cell BK57002.out 1).trans rfl
                      have hcz16_2 : w6.cell? ⟨gb57002, 2, none⟩ = some (.int .i64 0) := (blk_cell BK57002.out 2).trans rfl
                      have hfz16_0 := blk_frozen BK57002.out 0
                      have hfz16_1 := blk_frozen BK57002.out 1
                      have hfz16_2 := blk_frozen BK57002.out 2
                      go_wp2
                      go_meet
                      case rel => exact ⟨_, (decide (((rd_T47 l0 x8_1).f2) > 16)), (by first | rfl | (simp; done) | (simp [*]; done)), H', ⟨by have := HK1.out; first | omega | exact Nat.le_refl _⟩, ⟨by (with_reducible repeat (first | refine blk_drewN ?_ _ | refine blk_drew ?_ | refine blk_alloc ?_ _)); refine blk_put (cs := #[.int .i64 ((rd_T47 l0 x8_1).f0), .int .i64 ((rd_T47 l0 x8_1).f1), .int .i64 0]) ?_ 2 _ rfl; (with_reducible repeat (first | refine blk_drewN ?_ _ | refine blk_drew ?_ | refine blk_alloc ?_ _)); refine blk_put (cs := #[.int .i64 ((rd_T47 l0 x8_1).f0), .int .i64 0, .int .i64 0]) ?_ 1 _ rfl; (with_reducible repeat (first | refine blk_drewN ?_ _ | refine blk_drew ?_ | refine blk_alloc ?_ _)); refine blk_put (cs := #[.int .i64 0, .int .i64 0, .int .i64 0]) ?_ 0 _ rfl; (with_reducible repeat (first | refine blk_drewN ?_ _ | refine blk_drew ?_ | refine blk_alloc ?_ _)); exact BK57002.out⟩, ⟨by repeat (first | (with_reducible first | exact HB.out | apply below_alloc | apply pw_below_drewN | apply below_drew1 | refine below_set ?_ GE57002.out) | exact HB.out)⟩⟩
            case rest =>
              clear HC5
              try clear c1
              try clear c2
              try clear c2b0
              try clear p2
              try clear c3
              try clear c3b0
              try clear c4
              try clear c4b0
              try clear c5
              try clear p5
              try clear q5
              try clear hx5
              try clear c8
              try clear c8b0
              try clear c10
              try clear c10b0
              try clear c12
              try clear c12b0
              try clear c14
              try clear c14b0
              try clear hcz11_0
              try clear hcz11_1
              try clear hcz11_2
              try clear hcz13_0
              try clear hcz13_1
              try clear hcz13_2
              try clear hcz15_0
              try clear hcz15_1
              try clear hcz15_2
              try clear hcz16_0
              try clear hcz16_1
              try clear hcz16_2
              try clear hcz7_0
              try clear hcz7_1
              try clear hcz7_2
              try clear hcz9_0
              try clear hcz9_1
              try clear hcz9_2
              try clear hfz11_0
              try clear hfz11_1
              try clear hfz11_2
              try clear hfz13_0
              try clear hfz13_1
              try clear hfz13_2
              try clear hfz15_0
              try clear hfz15_1
              try clear hfz15_2
              try clear hfz16_0
              try clear hfz16_1
              try clear hfz16_2
              try clear hfz7_0
              try clear hfz7_1
              try clear hfz7_2
              try clear hfz9_0
              try clear hfz9_1
              try clear hfz9_2
              try clear hx57001_0
              try clear hx57001_1
              try clear hx57001_2
              try clear p57001
              try clear q57001
              obtain ⟨kq, x37_4, rfl, HA, HJ4, BK57002, HB⟩ := hcut
              cases kq with
              | zero => exact absurd HA.out (by simp [impl_isRegion.j1])
              | succ kj4 =>
                have H := HA.out
                clear HA
                simp only [impl_isRegion.j1] at H
                by_cases c17 : x37_4 = true
                · subst c17
                  have H1 : (some false) = some r := by rw [if_pos rfl] at H; exact H
                  clear H
                  have H := H1
                  clear H1
                  obtain rfl := Option.some.inj H
                  go_wp2
                  go_ret
                  exact ⟨by first | rfl | (simp [errW_none, errW_some] <;> rfl) | (simp [*, errW_none, errW_some] <;> rfl), by repeat (first | (with_reducible first | exact HB.out | apply below_alloc | apply pw_below_drewN | apply below_drew1 | refine below_set ?_ GE57002.out) | exact HB.out)⟩
                · replace c17 := Bool.eq_false_iff.mpr c17
                  subst c17
                  have H1 : (if x8_1 = 0 then (impl_isRegion.l0 kj4 l0 l0 (l0.length : Int) (wrap64 (x8_1 + 1))) else (if 0 ≤ (wrap64 (x8_1 - 1)) then (if (wrap64 (x8_1 - 1)) < (l0.length : Int) then (if ((rd_T47 l0 x8_1).f0) < ((rd_T47 l0 (wrap64 (x8_1 - 1))).f0) then (some false) else (if ((rd_T47 l0 x8_1).f0) = ((rd_T47 l0 (wrap64 (x8_1 - 1))).f0) then (if ((rd_T47 l0 x8_1).f1) ≤ ((rd_T47 l0 (wrap64 (x8_1 - 1))).f2) then (some false) else (impl_isRegion.l0 kj4 l0 l0 (l0.length : Int) (wrap64 (x8_1 + 1)))) else (impl_isRegion.l0 kj4 l0 l0 (l0.length : Int) (wrap64 (x8_1 + 1))))) else (none)) else (none))) = some r := by rw [if_neg (show ¬ (false = true) by decide)] at H; exact H
                  clear H
                  have H := H1
                  clear H1
                  by_cases c18 : x8_1 = 0
                  · rw [if_pos c18] at H
                    have c18b0 : (x8_1 == 0) = true := beq_iff_eq.mpr c18
                    have c18b1 : (x8_1 != 0) = false := bne_eq_false_iff_eq.mpr c18
                    clear c18
                    have H' := Aside0.mk H
                    clear H
                    go_wp2
                    go_roundg kj4
                    case measure => have := HK1.out; have := HJ4.out; omega
                    case rel => exact ⟨(wrap64 (x8_1 + 1)), (by first | rfl | (simp; done) | (simp [*]; done)), H', ⟨by have := HK1.out; have := HJ4.out; omega⟩, ⟨by repeat (first | (with_reducible first | exact HB.out | apply below_alloc | apply pw_below_drewN | apply below_drew1 | refine below_set ?_ GE57002.out) | exact HB.out)⟩⟩
                  · rw [if_neg c18] at H
                    have c18b0 : (x8_1 == 0) = false := beq_eq_false_iff_ne.mpr c18
                    have c18b1 : (x8_1 != 0) = true := bne_iff_ne.mpr c18
                    obtain ⟨ji19, hji19⟩ : ∃ j_ : Int, (wrap64 (x8_1 - 1)) = j_ := ⟨_, rfl⟩
                    replace H : (if 0 ≤ (ji19) then (if (ji19) < (l0.length : Int) then (if ((rd_T47 l0 x8_1).f0) < ((rd_T47 l0 (ji19)).f0) then (some false) else (if ((rd_T47 l0 x8_1).f0) = ((rd_T47 l0 (ji19)).f0) then (if ((rd_T47 l0 x8_1).f1) ≤ ((rd_T47 l0 (ji19)).f2) then (some false) else (impl_isRegion.l0 kj4 l0 l0 (l0.length : Int) (wrap64 (x8_1 + 1)))) else (impl_isRegion.l0 kj4 l0 l0 (l0.length : Int) (wrap64 (x8_1 + 1))))) else (none)) else (none)) = some r := by first | (rw [hji19] at H; exact H) | (simp only [hji19] at H ⊢; exact H)
                    have hji19w : (IntKind.i64.wrap (x8_1 - 1)) = ji19 := (i64_w _).trans hji19
                    by_cases c20 : 0 ≤ (ji19)
                    · rw [if_pos c20] at H
                      have c20b0 : decide (0 ≤ (ji19)) = true := decide_eq_true c20
                      clear c20
                      by_cases c21 : (ji19) < (l0.length : Int)
                      · rw [if_pos c21] at H
                        have c21b0 : decide ((ji19) < (l0.length : Int)) = true := decide_eq_true c21
                        clear c21
                        by_cases c22 : ((rd_T47 l0 x8_1).f0) < ((rd_T47 l0 (ji19)).f0)
                        · rw [if_pos c22] at H
                          have c22b0 : decide (((rd_T47 l0 x8_1).f0) < ((rd_T47 l0 (ji19)).f0)) = true := decide_eq_true c22
                          clear c22
                          obtain rfl := Option.some.inj H
                          have p57003 : 0 ≤ ((ji19) : Int) := of_decide_eq_true (by first | (with_reducible assumption) | assumption)
                          have q57003 : (ji19) < (l0.length : Int) := of_decide_eq_true (by first | (with_reducible assumption) | assumption)
                          obtain ⟨ad57003, e57003, hx57003_0, hx57003_1, hx57003_2⟩ := at_T47 HR0.out (ji19) p57003 q57003
                          obtain rfl : ad57001 = ad57003 := (by injection e57003)
                          replace hx57003_0 := (HB.out.cell (World.block_lt_of_cell? w _ hx57003_0)).trans hx57003_0
                          replace hx57003_1 := (HB.out.cell (World.block_lt_of_cell? w _ hx57003_1)).trans hx57003_1
                          replace hx57003_2 := (HB.out.cell (World.block_lt_of_cell? w _ hx57003_2)).trans hx57003_2
                          replace p57003 := eq_true p57003
                          replace q57003 := eq_true q57003
                          go_wp2_with (first | ((with_reducible refine gate_dst (N := 5) rfl ?_); refine box_event ?hg (N := 5) ?hd (cs := #[.int .i64 0, .int .i64 0, .int .i64 0]) (t := 47) ?hr ?_; (case hd => rfl); (case hg => rfl); (case hr => first | (go_simp; done) | (go_simp; rfl)); intro gb57004 hg w23 hbox hb; have n0_ := Aside0.mk (blk_below (g := gb57002) (o := .cells #[.int .i64 ((rd_T47 l0 x8_1).f0), .int .i64 ((rd_T47 l0 x8_1).f1), .int .i64 ((rd_T47 l0 x8_1).f2)] 47 (0, 0)) (by (with_reducible repeat (first | refine blk_drewN ?_ _ | refine blk_drew ?_ | refine blk_alloc ?_ _)); exact BK57002.out) hb); have n1_ := Aside0.mk (below_step (by repeat (first | (with_reducible first | exact HB.out | apply below_alloc | apply pw_below_drewN | apply below_drew1 | refine below_set ?_ GE57002.out) | exact HB.out)) hb); have n2_ := Aside0.mk (hbox); have n3_ := Aside0.mk ((by rw [hg]; exact (below_size (by repeat (first | (with_reducible first | exact HB.out | apply below_alloc | apply pw_below_drewN | apply below_drew1 | refine below_set ?_ GE57002.out) | exact HB.out))) : w.heap.size ≤ gb57004)); have n4_ := Aside0.mk ((by rw [hg]; exact (below_size (by repeat (first | (with_reducible first | exact HB.out | apply below_alloc | apply pw_below_drewN | apply below_drew1 | refine below_set ?_ GE57002.out) | exact HB.out))) : w.heap.size ≤ gb57004)); have n5_ := Aside0.mk ((by rw [hg]; exact Nat.ne_of_lt (blk_lt (g := gb57002) (o := .cells #[.int .i64 ((rd_T47 l0 x8_1).f0), .int .i64 ((rd_T47 l0 x8_1).f1), .int .i64 ((rd_T47 l0 x8_1).f2)] 47 (0, 0)) (by (with_reducible repeat (first | refine blk_drewN ?_ _ | refine blk_drew ?_ | refine blk_alloc ?_ _)); exact BK57002.out)) : gb57002 ≠ gb57004)); have n6_ := Aside0.mk ((by rw [hg]; exact Nat.ne_of_gt (blk_lt (g := gb57002) (o := .cells #[.int .i64 ((rd_T47 l0 x8_1).f0), .int .i64 ((rd_T47 l0 x8_1).f1), .int .i64 ((rd_T47 l0 x8_1).f2)] 47 (0, 0)) (by (with_reducible repeat (first | refine blk_drewN ?_ _ | refine blk_drew ?_ | refine blk_alloc ?_ _)); exact BK57002.out)) : gb57004 ≠ gb57002)); clear BK57002; clear HB; have BK57002 := n0_; have HB := n1_; have BK57004 := n2_; have GW57004 := n3_; have GE57004 := n4_; have NB57002_57004 := n5_; have NB57004_57002 := n6_; clear n0_ n1_ n2_ n3_ n4_ n5_ n6_; clear hb hbox hg; have hnb24 := NB57004_57002.out; have hnc24 := NB57002_57004.out; have hcz25_0 : w23.cell? ⟨gb57004, 0, none⟩ = some (.int .i64 0) := (blk_cell BK57004.out 0).trans rfl; have hcz25_1 : w23.cell? ⟨gb57004, 1, none⟩ = some (.int .i64 0) := (blk_cell BK57004.out 1).trans rfl; have hcz25_2 : w23.cell? ⟨gb57004, 2, none⟩ = some (.int .i64 0) := (blk_cell BK57004.out 2).trans rfl; have hfz25_0 := blk_frozen BK57004.out 0; have hfz25_1 := blk_frozen BK57004.out 1; have hfz25_2 := blk_frozen BK57004.out 2; have hcz26_0 : w23.cell? ⟨gb57002, 0, none⟩ = some (.int .i64 ((rd_T47 l0 x8_1).f0)) := (blk_cell BK57002.out 0).trans rfl; have hcz26_1 : w23.cell? ⟨gb57002, 1, none⟩ = some (.int .i64 ((rd_T47 l0 x8_1).f1)) := (blk_cell BK57002.out 1).trans rfl; have hcz26_2 : w23.cell? ⟨gb57002, 2, none⟩ = some (.int .i64 ((rd_T47 l0 x8_1).f2)) := (blk_cell BK57002.out 2).trans rfl; have hfz26_0 := blk_frozen BK57002.out 0; have hfz26_1 := blk_frozen BK57002.out 1; have hfz26_2 := blk_frozen BK57002.out 2))
                          go_ret
                          exact ⟨by first | rfl | (simp [errW_none, errW_some] <;> rfl) | (simp only [← hji19]; first | rfl | (simp [errW_none, errW_some] <;> rfl)) | (simp [*, errW_none, errW_some] <;> rfl), by repeat (first | (with_reducible first | exact HB.out | apply below_alloc | apply pw_below_drewN | apply below_drew1 | refine below_set ?_ GE57002.out | refine below_set ?_ GE57004.out) | exact HB.out)⟩
                        · rw [if_neg c22] at H
                          have c22b0 : decide (((rd_T47 l0 x8_1).f0) < ((rd_T47 l0 (ji19)).f0)) = false := decide_eq_false c22
                          clear c22
                          by_cases c27 : ((rd_T47 l0 x8_1).f0) = ((rd_T47 l0 (ji19)).f0)
                          · rw [if_pos c27] at H
                            have c27b0 : (((rd_T47 l0 x8_1).f0) == ((rd_T47 l0 (ji19)).f0)) = true := beq_iff_eq.mpr c27
                            have c27b1 : (((rd_T47 l0 x8_1).f0) != ((rd_T47 l0 (ji19)).f0)) = false := bne_eq_false_iff_eq.mpr c27
                            clear c27
                            by_cases c28 : ((rd_T47 l0 x8_1).f1) ≤ ((rd_T47 l0 (ji19)).f2)
                            · rw [if_pos c28] at H
                              have c28b0 : decide (((rd_T47 l0 x8_1).f1) ≤ ((rd_T47 l0 (ji19)).f2)) = true := decide_eq_true c28
                              clear c28
                              obtain rfl := Option.some.inj H
                              have p57003 : 0 ≤ ((ji19) : Int) := of_decide_eq_true (by first | (with_reducible assumption) | assumption)
                              have q57003 : (ji19) < (l0.length : Int) := of_decide_eq_true (by first | (with_reducible assumption) | assumption)
                              obtain ⟨ad57003, e57003, hx57003_0, hx57003_1, hx57003_2⟩ := at_T47 HR0.out (ji19) p57003 q57003
                              obtain rfl : ad57001 = ad57003 := (by injection e57003)
                              replace hx57003_0 := (HB.out.cell (World.block_lt_of_cell? w _ hx57003_0)).trans hx57003_0
                              replace hx57003_1 := (HB.out.cell (World.block_lt_of_cell? w _ hx57003_1)).trans hx57003_1
                              replace hx57003_2 := (HB.out.cell (World.block_lt_of_cell? w _ hx57003_2)).trans hx57003_2
                              replace p57003 := eq_true p57003
                              replace q57003 := eq_true q57003
                              go_wp2_with (first | ((with_reducible refine gate_dst (N := 5) rfl ?_); refine box_event ?hg (N := 5) ?hd (cs := #[.int .i64 0, .int .i64 0, .int .i64 0]) (t := 47) ?hr ?_; (case hd => rfl); (case hg => rfl); (case hr => first | (go_simp; done) | (go_simp; rfl)); intro gb57004 hg w29 hbox hb; have n0_ := Aside0.mk (blk_below (g := gb57002) (o := .cells #[.int .i64 ((rd_T47 l0 x8_1).f0), .int .i64 ((rd_T47 l0 x8_1).f1), .int .i64 ((rd_T47 l0 x8_1).f2)] 47 (0, 0)) (by (with_reducible repeat (first | refine blk_drewN ?_ _ | refine blk_drew ?_ | refine blk_alloc ?_ _)); exact BK57002.out) hb); have n1_ := Aside0.mk (below_step (by repeat (first | (with_reducible first | exact HB.out | apply below_alloc | apply pw_below_drewN | apply below_drew1 | refine below_set ?_ GE57002.out) | exact HB.out)) hb); have n2_ := Aside0.mk (hbox); have n3_ := Aside0.mk ((by rw [hg]; exact (below_size (by repeat (first | (with_reducible first | exact HB.out | apply below_alloc | apply pw_below_drewN | apply below_drew1 | refine below_set ?_ GE57002.out) | exact HB.out))) : w.heap.size ≤ gb57004)); have n4_ := Aside0.mk ((by rw [hg]; exact (below_size (by repeat (first | (with_reducible first | exact HB.out | apply below_alloc | apply pw_below_drewN | apply below_drew1 | refine below_set ?_ GE57002.out) | exact HB.out))) : w.heap.size ≤ gb57004)); have n5_ := Aside0.mk ((by rw [hg]; exact Nat.ne_of_lt (blk_lt (g := gb57002) (o := .cells #[.int .i64 ((rd_T47 l0 x8_1).f0), .int .i64 ((rd_T47 l0 x8_1).f1), .int .i64 ((rd_T47 l0 x8_1).f2)] 47 (0, 0)) (by (with_reducible repeat (first | refine blk_drewN ?_ _ | refine blk_drew ?_ | refine blk_alloc ?_ _)); exact BK57002.out)) : gb57002 ≠ gb57004)); have n6_ := Aside0.mk ((by rw [hg]; exact Nat.ne_of_gt (blk_lt (g := gb57002) (o := .cells #[.int .i64 ((rd_T47 l0 x8_1).f0), .int .i64 ((rd_T47 l0 x8_1).f1), .int .i64 ((rd_T47 l0 x8_1).f2)] 47 (0, 0)) (by (with_reducible repeat (first | refine blk_drewN ?_ _ | refine blk_drew ?_ | refine blk_alloc ?_ _)); exact BK57002.out)) : gb57004 ≠ gb57002)); clear BK57002; clear HB; have BK57002 := n0_; have HB := n1_; have BK57004 := n2_; have GW57004 := n3_; have GE57004 := n4_; have NB57002_57004 := n5_; have NB57004_57002 := n6_; clear n0_ n1_ n2_ n3_ n4_ n5_ n6_; clear hb hbox hg; have hnb30 := NB57004_57002.out; have hnc30 := NB57002_57004.out; have hcz31_0 : w29.cell? ⟨gb57004, 0, none⟩ = some (.int .i64 0) := (blk_cell BK57004.out 0).trans rfl; have hcz31_1 : w29.cell? ⟨gb57004, 1, none⟩ = some (.int .i64 0) := (blk_cell BK57004.out 1).trans rfl; have hcz31_2 : w29.cell? ⟨gb57004, 2, none⟩ = some (.int .i64 0) := (blk_cell BK57004.out 2).trans rfl; have hfz31_0 := blk_frozen BK57004.out 0; have hfz31_1 := blk_frozen BK57004.out 1; have hfz31_2 := blk_frozen BK57004.out 2; have hcz32_0 : w29.cell? ⟨gb57002, 0, none⟩ = some (.int .i64 ((rd_T47 l0 x8_1).f0)) := (blk_cell BK57002.out 0).trans rfl; have hcz32_1 : w29.cell? ⟨gb57002, 1, none⟩ = some (.int .i64 ((rd_T47 l0 x8_1).f1)) := (blk_cell BK57002.out 1).trans rfl; have hcz32_2 : w29.cell? ⟨gb57002, 2, none⟩ = some (.int .i64 ((rd_T47 l0 x8_1).f2)) := (blk_cell BK57002.out 2).trans rfl; have hfz32_0 := blk_frozen BK57002.out 0; have hfz32_1 := blk_frozen BK57002.out 1; have hfz32_2 := blk_frozen BK57002.out 2))
                              go_ret
                              exact ⟨by first | rfl | (simp [errW_none, errW_some] <;> rfl) | (simp only [← hji19]; first | rfl | (simp [errW_none, errW_some] <;> rfl)) | (simp [*, errW_none, errW_some] <;> rfl), by repeat (first | (with_reducible first | exact HB.out | apply below_alloc | apply pw_below_drewN | apply below_drew1 | refine below_set ?_ GE57002.out | refine below_set ?_ GE57004.out) | exact HB.out)⟩
                            · rw [if_neg c28] at H
                              have c28b0 : decide (((rd_T47 l0 x8_1).f1) ≤ ((rd_T47 l0 (ji19)).f2)) = false := decide_eq_false c28
                              clear c28
                              have H' := Aside0.mk H
                              clear H
                              have p57003 : 0 ≤ ((ji19) : Int) := of_decide_eq_true (by first | (with_reducible assumption) | assumption)
                              have q57003 : (ji19) < (l0.length : Int) := of_decide_eq_true (by first | (with_reducible assumption) | assumption)
                              obtain ⟨ad57003, e57003, hx57003_0, hx57003_1, hx57003_2⟩ := at_T47 HR0.out (ji19) p57003 q57003
                              obtain rfl : ad57001 = ad57003 := (by injection e57003)
                              replace hx57003_0 := (HB.out.cell (World.block_lt_of_cell? w _ hx57003_0)).trans hx57003_0
                              replace hx57003_1 := (HB.out.cell (World.block_lt_of_cell? w _ hx57003_1)).trans hx57003_1
                              replace hx57003_2 := (HB.out.cell (World.block_lt_of_cell? w _ hx57003_2)).trans hx57003_2
                              replace p57003 := eq_true p57003
                              replace q57003 := eq_true q57003
                              go_wp2_with (first | ((with_reducible refine gate_dst (N := 5) rfl ?_); refine box_event ?hg (N := 5) ?hd (cs := #[.int .i64 0, .int .i64 0, .int .i64 0]) (t := 47) ?hr ?_; (case hd => rfl); (case hg => rfl); (case hr => first | (go_simp; done) | (go_simp; rfl)); intro gb57004 hg w33 hbox hb; have n0_ := Aside0.mk (blk_below (g := gb57002) (o := .cells #[.int .i64 ((rd_T47 l0 x8_1).f0), .int .i64 ((rd_T47 l0 x8_1).f1), .int .i64 ((rd_T47 l0 x8_1).f2)] 47 (0, 0)) (by (with_reducible repeat (first | refine blk_drewN ?_ _ | refine blk_drew ?_ | refine blk_alloc ?_ _)); exact BK57002.out) hb); have n1_ := Aside0.mk (below_step (by repeat (first | (with_reducible first | exact HB.out | apply below_alloc | apply pw_below_drewN | apply below_drew1 | refine below_set ?_ GE57002.out) | exact HB.out)) hb); have n2_ := Aside0.mk (hbox); have n3_ := Aside0.mk ((by rw [hg]; exact (below_size (by repeat (first | (with_reducible first | exact HB.out | apply below_alloc | apply pw_below_drewN | apply below_drew1 | refine below_set ?_ GE57002.out) | exact HB.out))) : w.heap.size ≤ gb57004)); have n4_ := Aside0.mk ((by rw [hg]; exact (below_size (by repeat (first | (with_reducible first | exact HB.out | apply below_alloc | apply pw_below_drewN | apply below_drew1 | refine below_set ?_ GE57002.out) | exact HB.out))) : w.heap.size ≤ gb57004)); have n5_ := Aside0.mk ((by rw [hg]; exact Nat.ne_of_lt (blk_lt (g := gb57002) (o := .cells #[.int .i64 ((rd_T47 l0 x8_1).f0), .int .i64 ((rd_T47 l0 x8_1).f1), .int .i64 ((rd_T47 l0 x8_1).f2)] 47 (0, 0)) (by (with_reducible repeat (first | refine blk_drewN ?_ _ | refine blk_drew ?_ | refine blk_alloc ?_ _)); exact BK57002.out)) : gb57002 ≠ gb57004)); have n6_ := Aside0.mk ((by rw [hg]; exact Nat.ne_of_gt (blk_lt (g := gb57002) (o := .cells #[.int .i64 ((rd_T47 l0 x8_1).f0), .int .i64 ((rd_T47 l0 x8_1).f1), .int .i64 ((rd_T47 l0 x8_1).f2)] 47 (0, 0)) (by (with_reducible repeat (first | refine blk_drewN ?_ _ | refine blk_drew ?_ | refine blk_alloc ?_ _)); exact BK57002.out)) : gb57004 ≠ gb57002)); clear BK57002; clear HB; have BK57002 := n0_; have HB := n1_; have BK57004 := n2_; have GW57004 := n3_; have GE57004 := n4_; have NB57002_57004 := n5_; have NB57004_57002 := n6_; clear n0_ n1_ n2_ n3_ n4_ n5_ n6_; clear hb hbox hg; have hnb34 := NB57004_57002.out; have hnc34 := NB57002_57004.out; have hcz35_0 : w33.cell? ⟨gb57004, 0, none⟩ = some (.int .i64 0) := (blk_cell BK57004.out 0).trans rfl; have hcz35_1 : w33.cell? ⟨gb57004, 1, none⟩ = some (.int .i64 0) := (blk_cell BK57004.out 1).trans rfl; have hcz35_2 : w33.cell? ⟨gb57004, 2, none⟩ = some (.int .i64 0) := (blk_cell BK57004.out 2).trans rfl; have hfz35_0 := blk_frozen BK57004.out 0; have hfz35_1 := blk_frozen BK57004.out 1; have hfz35_2 := blk_frozen BK57004.out 2; have hcz36_0 : w33.cell? ⟨gb57002, 0, none⟩ = some (.int .i64 ((rd_T47 l0 x8_1).f0)) := (blk_cell BK57002.out 0).trans rfl; have hcz36_1 : w33.cell? ⟨gb57002, 1, none⟩ = some (.int .i64 ((rd_T47 l0 x8_1).f1)) := (blk_cell BK57002.out 1).trans rfl; have hcz36_2 : w33.cell? ⟨gb57002, 2, none⟩ = some (.int .i64 ((rd_T47 l0 x8_1).f2)) := (blk_cell BK57002.out 2).trans rfl; have hfz36_0 := blk_frozen BK57002.out 0; have hfz36_1 := blk_frozen BK57002.out 1; have hfz36_2 := blk_frozen BK57002.out 2))
                              go_roundg kj4
                              case measure => have := HK1.out; have := HJ4.out; omega
                              case rel => exact ⟨(wrap64 (x8_1 + 1)), (by first | rfl | (simp; done) | (simp [*]; done)), H', ⟨by have := HK1.out; have := HJ4.out; omega⟩, ⟨by repeat (first | (with_reducible first | exact HB.out | apply below_alloc | apply pw_below_drewN | apply below_drew1 | refine below_set ?_ GE57002.out | refine below_set ?_ GE57004.out) | exact HB.out)⟩⟩
                          · rw [if_neg c27] at H
                            have c27b0 : (((rd_T47 l0 x8_1).f0) == ((rd_T47 l0 (ji19)).f0)) = false := beq_eq_false_iff_ne.mpr c27
                            have c27b1 : (((rd_T47 l0 x8_1).f0) != ((rd_T47 l0 (ji19)).f0)) = true := bne_iff_ne.mpr c27
                            have H' := Aside0.mk H
                            clear H
                            have p57003 : 0 ≤ ((ji19) : Int) := of_decide_eq_true (by first | (with_reducible assumption) | assumption)
                            have q57003 : (ji19) < (l0.length : Int) := of_decide_eq_true (by first | (with_reducible assumption) | assumption)
                            obtain ⟨ad57003, e57003, hx57003_0, hx57003_1, hx57003_2⟩ := at_T47 HR0.out (ji19) p57003 q57003
                            obtain rfl : ad57001 = ad57003 := (by injection e57003)
                            replace hx57003_0 := (HB.out.cell (World.block_lt_of_cell? w _ hx57003_0)).trans hx57003_0
                            replace hx57003_1 := (HB.out.cell (World.block_lt_of_cell? w _ hx57003_1)).trans hx57003_1
                            replace hx57003_2 := (HB.out.cell (World.block_lt_of_cell? w _ hx57003_2)).trans hx57003_2
                            replace p57003 := eq_true p57003
                            replace q57003 := eq_true q57003
                            go_wp2_with (first | ((with_reducible refine gate_dst (N := 5) rfl ?_); refine box_event ?hg (N := 5) ?hd (cs := #[.int .i64 0, .int .i64 0, .int .i64 0]) (t := 47) ?hr ?_; (case hd => rfl); (case hg => rfl); (case hr => first | (go_simp; done) | (go_simp; rfl)); intro gb57004 hg w37 hbox hb; have n0_ := Aside0.mk (blk_below (g := gb57002) (o := .cells #[.int .i64 ((rd_T47 l0 x8_1).f0), .int .i64 ((rd_T47 l0 x8_1).f1), .int .i64 ((rd_T47 l0 x8_1).f2)] 47 (0, 0)) (by (with_reducible repeat (first | refine blk_drewN ?_ _ | refine blk_drew ?_ | refine blk_alloc ?_ _)); exact BK57002.out) hb); have n1_ := Aside0.mk (below_step (by repeat (first | (with_reducible first | exact HB.out | apply below_alloc | apply pw_below_drewN | apply below_drew1 | refine below_set ?_ GE57002.out) | exact HB.out)) hb); have n2_ := Aside0.mk (hbox); have n3_ := Aside0.mk ((by rw [hg]; exact (below_size (by repeat (first | (with_reducible first | exact HB.out | apply below_alloc | apply pw_below_drewN | apply below_drew1 | refine below_set ?_ GE57002.out) | exact HB.out))) : w.heap.size ≤ gb57004)); have n4_ := Aside0.mk ((by rw [hg]; exact (below_size (by repeat (first | (with_reducible first | exact HB.out | apply below_alloc | apply pw_below_drewN | apply below_drew1 | refine below_set ?_ GE57002.out) | exact HB.out))) : w.heap.size ≤ gb57004)); have n5_ := Aside0.mk ((by rw [hg]; exact Nat.ne_of_lt (blk_lt (g := gb57002) (o := .cells #[.int .i64 ((rd_T47 l0 x8_1).f0), .int .i64 ((rd_T47 l0 x8_1).f1), .int .i64 ((rd_T47 l0 x8_1).f2)] 47 (0, 0)) (by (with_reducible repeat (first | refine blk_drewN ?_ _ | refine blk_drew ?_ | refine blk_alloc ?_ _)); exact BK57002.out)) : gb57002 ≠ gb57004)); have n6_ := Aside0.mk ((by rw [hg]; exact Nat.ne_of_gt (blk_lt (g := gb57002) (o := .cells #[.int .i64 ((rd_T47 l0 x8_1).f0), .int .i64 ((rd_T47 l0 x8_1).f1), .int .i64 ((rd_T47 l0 x8_1).f2)] 47 (0, 0)) (by (with_reducible repeat (first | refine blk_drewN ?_ _ | refine blk_drew ?_ | refine blk_alloc ?_ _)); exact BK57002.out)) : gb57004 ≠ gb57002)); clear BK57002; clear HB; have BK57002 := n0_; have HB := n1_; have BK57004 := n2_; have GW57004 := n3_; have GE57004 := n4_; have NB57002_57004 := n5_; have NB57004_57002 := n6_; clear n0_ n1_ n2_ n3_ n4_ n5_ n6_; clear hb hbox hg; have hnb38 := NB57004_57002.out; have hnc38 := NB57002_57004.out; have hcz39_0 : w37.cell? ⟨gb57004, 0, none⟩ = some (.int .i64 0) := (blk_cell BK57004.out 0).trans rfl; have hcz39_1 : w37.cell? ⟨gb57004, 1, none⟩ = some (.int .i64 0) := (blk_cell BK57004.out 1).trans rfl; have hcz39_2 : w37.cell? ⟨gb57004, 2, none⟩ = some (.int .i64 0) := (blk_cell BK57004.out 2).trans rfl; have hfz39_0 := blk_frozen BK57004.out 0; have hfz39_1 := blk_frozen BK57004.out 1; have hfz39_2 := blk_frozen BK57004.out 2; have hcz40_0 : w37.cell? ⟨gb57002, 0, none⟩ = some (.int .i64 ((rd_T47 l0 x8_1).f0)) := (blk_cell BK57002.out 0).trans rfl; have hcz40_1 : w37.cell? ⟨gb57002, 1, none⟩ = some (.int .i64 ((rd_T47 l0 x8_1).f1)) := (blk_cell BK57002.out 1).trans rfl; have hcz40_2 : w37.cell? ⟨gb57002, 2, none⟩ = some (.int .i64 ((rd_T47 l0 x8_1).f2)) := (blk_cell BK57002.out 2).trans rfl; have hfz40_0 := blk_frozen BK57002.out 0; have hfz40_1 := blk_frozen BK57002.out 1; have hfz40_2 := blk_frozen BK57002.out 2))
                            go_roundg kj4
                            case measure => have := HK1.out; have := HJ4.out; omega
                            case rel => exact ⟨(wrap64 (x8_1 + 1)), (by first | rfl | (simp; done) | (simp [*]; done)), H', ⟨by have := HK1.out; have := HJ4.out; omega⟩, ⟨by repeat (first | (with_reducible first | exact HB.out | apply below_alloc | apply pw_below_drewN | apply below_drew1 | refine below_set ?_ GE57002.out | refine below_set ?_ GE57004.out) | exact HB.out)⟩⟩
                      · rw [if_neg c21] at H
                        exact absurd H (by simp)
                    · rw [if_neg c20] at H
                      exact absurd H (by simp)
          · rw [if_neg c4] at H
            exact absurd H (by simp)
        · rw [if_neg c3] at H
          exact absurd H (by simp)
      · rw [if_neg c2] at H
        have c2b0 : decide (x8_1 < (l0.length : Int)) = false := decide_eq_false c2
        clear c2
        obtain rfl := Option.some.inj H
        go_wp2
        go_ret
        exact ⟨by first | rfl | (simp [errW_none, errW_some] <;> rfl) | (simp [*, errW_none, errW_some] <;> rfl), by repeat (first | (with_reducible first | exact HB.out | apply below_alloc | apply pw_below_drewN | apply below_drew1) | exact HB.out)⟩

end Go.Proofs.Ytbgohbinonkhfaa.Q

/- Runs: what the program and the reference take for a region. -/
namespace Go.Proofs.Ytbgohbinonkhfaa.Pure
open Go.RowKit Go.Proofs.Ytbgohbinonkhfaa.Q Go.Proofs.YtbgohbinonkhfaaW.PrintWords Go.Proofs.YtbgohbinonkhfaaW.PrintLast Go.Proofs.YtbgohbinonkhfaaW.PrintMore
set_option linter.unusedVariables false
set_option linter.unusedSimpArgs false

abbrev Run := S47
theorem rdRun (l : List Run) (i : Nat) (h : i < l.length) : rd_T47 l (i : Int) = l[i] := by simp [rd_T47, h]
def runOK (r : Run) : Bool := decide (0 ≤ r.f0) && decide (r.f0 < 16) && decide (0 ≤ r.f1) && decide (r.f1 < r.f2) && decide (r.f2 ≤ 16)
theorem runOK_iff (r : Run) : runOK r = true ↔ 0 ≤ r.f0 ∧ r.f0 < 16 ∧ 0 ≤ r.f1 ∧ r.f1 < r.f2 ∧ r.f2 ≤ 16 := by
  simp [runOK, and_assoc]
def runAfter (p r : Run) : Bool := decide (p.f0 < r.f0) || (decide (p.f0 = r.f0) && decide (p.f2 < r.f1))
theorem runAfter_iff (p r : Run) : runAfter p r = true ↔ p.f0 < r.f0 ∨ (p.f0 = r.f0 ∧ p.f2 < r.f1) := by
  simp [runAfter]
/-- Runs of a region: each in range, and behind the one before it. -/
def validFrom : Option Run → List Run → Bool
  | _, [] => true
  | none, r :: rs => runOK r && validFrom (some r) rs
  | some p, r :: rs => (runOK r && runAfter p r) && validFrom (some r) rs
def validR (l : List Run) : Bool := validFrom none l
def before (l : List Run) (i : Nat) : Option Run := if i = 0 then none else l[i - 1]?
theorem before_zero (l : List Run) : before l 0 = none := rfl
theorem before_succ (l : List Run) (i : Nat) (h : i < l.length) : before l (i + 1) = some l[i] := by simp [before, h]
theorem validFrom_at (l : List Run) (i : Nat) (h : i < l.length) : validFrom (before l i) (l.drop i) = ((runOK l[i] && (match before l i with | none => true | some p => runAfter p l[i])) && validFrom (before l (i + 1)) (l.drop (i + 1))) := by
  rw [List.drop_eq_getElem_cons h, before_succ l i h]
  cases before l i with
  | none => simp [validFrom]
  | some p => rfl
theorem ival_j1 (l : List Run) (i k : Nat) (hl : l.length ≤ 9223372036854775807) (h : i < l.length) (b : Bool) :
    impl_isRegion.j1 (k + 1) l i l (l.length : Int) i b l[i].f0 l[i].f1 l[i].f2 = if b = true then some false else if (match before l i with | none => true | some p => runAfter p l[i]) = true then impl_isRegion.l0 k l l (l.length : Int) ((i + 1 : Nat) : Int) else some false := by
  simp only [impl_isRegion.j1]
  by_cases hb : b = true
  · rw [if_pos hb, if_pos hb]
  rw [if_neg hb, if_neg hb, w64n i (by omega)]
  cases i with
  | zero => simp [before]
  | succ i =>
    have e : ((i + 1 : Nat) : Int) - 1 = (i : Int) := by omega
    rw [if_neg (by omega), w64 (x := ((i + 1 : Nat) : Int) - 1) (by omega) (by omega), e, if_pos (by omega), if_pos (by omega), rdRun l i (by omega), before_succ l i (by omega)]
    simp only
    by_cases c1 : l[i + 1].f0 < l[i].f0
    · rw [if_pos c1, if_neg (by rw [runAfter_iff]; omega)]
    rw [if_neg c1]
    by_cases c2 : l[i + 1].f0 = l[i].f0
    · rw [if_pos c2]
      by_cases c3 : l[i + 1].f1 ≤ l[i].f2
      · rw [if_pos c3, if_neg (by rw [runAfter_iff]; omega)]
      · rw [if_neg c3, if_pos (by rw [runAfter_iff]; omega)]
    · rw [if_neg c2, if_pos (by rw [runAfter_iff]; omega)]
theorem impl_isRegion_eq (l : List Run) (hl : l.length ≤ 9223372036854775807) (k : Nat) (hk : 2 * l.length + 1 < k) : impl_isRegion.f k l = some (validR l) := by
  have key : ∀ d i k, i + d = l.length → 2 * d < k → impl_isRegion.l0 k l l (l.length : Int) (i : Int) = some (validFrom (before l i) (l.drop i)) := by
    intro d
    induction d with
    | zero =>
      intro i k hi hk
      obtain ⟨k, rfl⟩ : ∃ m, k = m + 1 := ⟨k - 1, by omega⟩
      simp only [impl_isRegion.l0]
      rw [if_neg (by omega), List.drop_of_length_le (by omega)]
      cases before l i <;> rfl
    | succ d ih =>
      intro i k hi hk
      obtain ⟨k, rfl⟩ : ∃ m, k = m + 1 + 1 := ⟨k - 2, by omega⟩
      have hlt : i < l.length := by omega
      have hn := ih (i + 1) k (by omega) (by omega)
      rw [validFrom_at l i hlt]
      simp only [impl_isRegion.l0]
      rw [if_pos (by omega), if_pos (by omega), rdRun l i hlt]
      simp only [if_pos (show (i : Int) < (l.length : Int) by omega), ival_j1 l i k hl hlt, hn]
      by_cases c : runOK l[i] = true
      · rw [c, Bool.true_and]
        rw [runOK_iff] at c
        rw [if_neg (by omega), if_neg (by omega), if_neg (by omega), if_neg (by omega), if_neg (by simp; omega)]
        cases (match before l i with | none => true | some p => runAfter p l[i]) <;> rfl
      · have hc := c
        rw [runOK_iff] at c
        simp only [Bool.not_eq_true] at hc
        rw [hc, Bool.false_and, Bool.false_and]
        try simp only [if_true]
        by_cases c1 : l[i].f0 < 0
        · rw [if_pos c1]
        rw [if_neg c1]
        by_cases c2 : l[i].f0 ≥ 16
        · rw [if_pos c2]
        rw [if_neg c2]
        by_cases c3 : l[i].f1 < 0
        · rw [if_pos c3]
        rw [if_neg c3]
        by_cases c4 : l[i].f2 ≤ l[i].f1
        · rw [if_pos c4]
        rw [if_neg c4, if_pos (by simp; omega)]
  unfold impl_isRegion.f
  have := key l.length 0 k (by omega) (by omega)
  simpa [before_zero, validR] using this
theorem validFrom_ok (l : List Run) : ∀ p, validFrom p l = true → ∀ r ∈ l, runOK r = true := by
  induction l with
  | nil => intro p _ r hr; cases hr
  | cons x xs ih =>
    intro p h r hr
    have h2 : runOK x = true ∧ validFrom (some x) xs = true := by
      cases p with
      | none => simpa [validFrom] using h
      | some p => simp [validFrom] at h; exact ⟨h.1.1, h.2⟩
    rcases List.mem_cons.1 hr with rfl | hr
    · exact h2.1
    · exact ih _ h2.2 r hr
theorem valid_ok {l : List Run} (h : validR l = true) : ∀ r ∈ l, runOK r = true := validFrom_ok l none h
theorem valid_ranges {l : List Run} (h : validR l = true) : ∀ r ∈ l, 0 ≤ r.f0 ∧ r.f0 < 16 ∧ 0 ≤ r.f1 ∧ r.f2 ≤ 16 := by
  intro r hr
  have := (runOK_iff r).1 (valid_ok h r hr)
  omega
end Go.Proofs.Ytbgohbinonkhfaa.Pure

/- impl.RegionHas: false for runs of no region; else whether the pixel is in their grid. -/
namespace Go.Proofs.Ytbgohbinonkhfaa.Q
open Go.RowKit Go.Proofs.YtbgohbinonkhfaaW.PrintWords Go.Proofs.YtbgohbinonkhfaaW.PrintLast Go.Proofs.YtbgohbinonkhfaaW.PrintMore
attribute [local go_sem] max2_int min2_int max_two min_two max_three min_three max_four min_four
set_option linter.unusedVariables false
set_option linter.unusedSimpArgs false
open Go.Proofs.Ytbgohbinonkhfaa.Pure

def impl_RegionHas.f (l0 : List S47) (a1 a2 : Int) : Option Bool := some (validR l0 && hasP (gridF l0) a1 a2)

set_option maxHeartbeats 2000000 in
set_option maxRecDepth 100000 in
theorem impl_RegionHas.calls (A0 : Option Addr) (c0 : Nat) (l0 : List S47) (a1 a2 : Int) (r : Bool) (w : World) (hr0 : Kd.C k47 w A0 l0.length l0) (hc0 : l0.length ≤ c0) (h : impl_RegionHas.f l0 a1 a2 = some r) :
    Calls Try.prog 22 #[.slice A0 l0.length c0, .int .i64 a1, .int .i64 a2] w fun e w' => e = .returned (.bool r) ∧ Below w.heap.size w w' := by
  obtain rfl := Option.some.inj h
  clear h
  have HC := Aside0.mk (impl_isRegion.calls (2 * l0.length + 2) A0 c0 l0 (validR l0) w hr0 hc0 (impl_isRegion_eq l0 hr0.2.1 _ (by omega)))
  have HR := Aside0.mk hr0
  clear hr0
  by_cases hv : validR l0 = true
  · have HV := Aside0.mk (valid_ranges hv)
    rw [hv] at HC ⊢
    clear hv
    go_enter Try.func22, Try.ntmps22
    go_wp2_with (first
      | (go_at_call 56; refine HC.out.mono ?_; rintro e w1 ⟨rfl, hb1⟩; have HB1 := Aside0.mk hb1; clear hb1)
      | (go_at_call 57; refine (gridOf_calls _ _ _ _ (Kd.C_below HR.out HB1.out) HV.out).mono ?_; rintro e w2 ⟨rfl, hb2⟩; have HB2 := Aside0.mk (below_then HB1.out HB1.out.size hb2); clear hb2)
      | (go_at_call 58; refine (has_calls _ _ _ _).mono ?_; rintro e w3 ⟨rfl, hb3⟩; have HB3 := Aside0.mk (below_then HB2.out HB2.out.size hb3); clear hb3))
    go_ret
    exact ⟨by rw [Bool.true_and]; rfl, HB3.out⟩
  · replace hv : validR l0 = false := by simpa using hv
    rw [hv] at HC ⊢
    clear hv
    go_enter Try.func22, Try.ntmps22
    go_wp2_with (first
      | (go_at_call 56; refine HC.out.mono ?_; rintro e w1 ⟨rfl, hb1⟩; have HB1 := Aside0.mk hb1; clear hb1))
    go_ret
    exact ⟨by rw [Bool.false_and]; rfl, HB1.out⟩
end Go.Proofs.Ytbgohbinonkhfaa.Q

namespace Go.Proofs.Ytbgohbinonkhfaa.Q
open Go.RowKit Go.Proofs.YtbgohbinonkhfaaW.PrintWords Go.Proofs.YtbgohbinonkhfaaW.PrintLast Go.Proofs.YtbgohbinonkhfaaW.PrintMore
attribute [local go_sem] max2_int min2_int max_two min_two max_three min_three max_four min_four
set_option linter.unusedVariables false
set_option linter.unusedSimpArgs false
/-! ### laws_equalInts: function 23 -/
def laws_equalInts.l0 : Nat → List Int → List Int → Int → Option (Bool)
  | 0, _, _, _ => none
  | k + 1, x0, x1, x5 => if x5 < (x0.length : Int) then (if 0 ≤ x5 then (if x5 < (x1.length : Int) then (if (rd x0 x5) = (rd x1 x5) then (laws_equalInts.l0 k x0 x1 (wrap64 (x5 + 1))) else (some false)) else (none)) else (none)) else (some true)
def laws_equalInts.f (k : Nat) (l0 : List Int) (l1 : List Int) : Option (Bool) := if (l0.length : Int) = (l1.length : Int) then (laws_equalInts.l0 k l0 l1 0) else (some false)
theorem laws_equalInts.mono_l : ∀ k, (∀ y0 y1 y2, LeO (laws_equalInts.l0 k y0 y1 y2) (laws_equalInts.l0 (k + 1) y0 y1 y2))
  | 0 => fun _ _ _ r h => by simp [laws_equalInts.l0] at h
  | k + 1 => by
    have ih0 := laws_equalInts.mono_l k
    · intro y0 y1 y2
      unfold laws_equalInts.l0
      repeat' first
      | (with_reducible exact ih0 _ _ _)
      | (with_reducible exact LeO.refl _)
      | (with_reducible exact LeO.none _)
      | (with_reducible refine LeO.ite ?_ ?_)
      | (with_reducible refine LeO.bind ?_ (fun _ => ?_))
      | exact ih0 _ _ _
      | exact LeO.none _
      | refine LeO.ite ?_ ?_
      | refine LeO.bind ?_ (fun _ => ?_)
theorem laws_equalInts.mono : ∀ a0 a1 k, LeO (laws_equalInts.f k a0 a1) (laws_equalInts.f (k + 1) a0 a1) := by
  intro a0 a1 k
  have ih0 := laws_equalInts.mono_l k
  unfold laws_equalInts.f
  repeat' first
      | (with_reducible exact ih0 _ _ _)
      | (with_reducible exact LeO.refl _)
      | (with_reducible exact LeO.none _)
      | (with_reducible refine LeO.ite ?_ ?_)
      | (with_reducible refine LeO.bind ?_ (fun _ => ?_))
      | exact ih0 _ _ _
      | exact LeO.none _
      | refine LeO.ite ?_ ?_
      | refine LeO.bind ?_ (fun _ => ?_)
set_option maxHeartbeats 8000000 in
set_option maxRecDepth 100000 in
theorem laws_equalInts.calls (k : Nat) (A0 : Option Addr) (c0 : Nat) (l0 : List Int) (A1 : Option Addr) (c1 : Nat) (l1 : List Int) (r : Bool) (w : World) (hr0 : Kd.C (Kd.int .i64) w A0 l0.length l0) (hc0 : l0.length ≤ c0) (hr1 : Kd.C (Kd.int .i64) w A1 l1.length l1) (hc1 : l1.length ≤ c1) (h : laws_equalInts.f k l0 l1 = some r) :
    Calls Try.prog 23 #[.slice A0 l0.length c0, .slice A1 l1.length c1] w fun e w' => e = .returned (.bool r) ∧ Drawn0 w w' := by
  have HR0 := Aside0.mk hr0
  have HC0 := Aside0.mk hc0
  clear hr0 hc0
  have HR1 := Aside0.mk hr1
  have HC1 := Aside0.mk hc1
  clear hr1 hc1
  have H : (if (l0.length : Int) = (l1.length : Int) then (laws_equalInts.l0 k l0 l1 0) else (some false)) = some r := h
  clear h
  by_cases c3 : (l0.length : Int) = (l1.length : Int)
  · rw [if_pos c3] at H
    have c3b0 : ((l0.length : Int) == (l1.length : Int)) = true := beq_iff_eq.mpr c3
    have c3b1 : ((l0.length : Int) != (l1.length : Int)) = false := bne_eq_false_iff_eq.mpr c3
    have c3b2 : (l0.length == l1.length) = true := by first | simpa using c3 | (simp at c3 ⊢; omega)
    clear c3
    have H' := Aside0.mk H
    clear H
    go_enter Try.func23, Try.ntmps23
    go_wp2
    repeat (go_quiet (fail); try go_wp2)
    go_loopg [5] k (fun kq v5 w' => ∃ (x5_1 : Int), v5 = .int .i64 x5_1 ∧ Aside0 (laws_equalInts.l0 kq l0 l1 x5_1 = some r) ∧ Aside0 (kq ≤ k) ∧ Drawn0 w w')
    case atStart => exact ⟨(0), (by first | rfl | (simp; done) | (simp [*]; done)), H', ⟨Nat.le_refl _⟩, by repeat (first | exact Drawn0.refl _ | apply Drawn0.step)⟩
    case round =>
      clear H'
      try clear c1
      try clear c2
      try clear p2
      try clear c3
      try clear c3b0
      try clear c3b1
      try clear c3b2
      obtain ⟨x5_1, rfl, HA, HK1, ⟨m1, rfl⟩⟩ := hrel
      cases gk with
      | zero => exact absurd HA.out (by simp [laws_equalInts.l0])
      | succ k1 =>
        have H := HA.out
        clear HA
        simp only [laws_equalInts.l0] at H
        by_cases c4 : x5_1 < (l0.length : Int)
        · rw [if_pos c4] at H
          have c4b0 : decide (x5_1 < (l0.length : Int)) = true := decide_eq_true c4
          clear c4
          by_cases c5 : 0 ≤ x5_1
          · rw [if_pos c5] at H
            have c5b0 : decide (0 ≤ x5_1) = true := decide_eq_true c5
            clear c5
            by_cases c6 : x5_1 < (l1.length : Int)
            · rw [if_pos c6] at H
              have c6b0 : decide (x5_1 < (l1.length : Int)) = true := decide_eq_true c6
              clear c6
              by_cases c7 : (rd l0 x5_1) = (rd l1 x5_1)
              · rw [if_pos c7] at H
                have c7b0 : ((rd l0 x5_1) == (rd l1 x5_1)) = true := beq_iff_eq.mpr c7
                have c7b1 : ((rd l0 x5_1) != (rd l1 x5_1)) = false := bne_eq_false_iff_eq.mpr c7
                clear c7
                have H' := Aside0.mk H
                clear H
                have p24001 : 0 ≤ (x5_1 : Int) := of_decide_eq_true (by first | (with_reducible assumption) | assumption)
                have q24001 : x5_1 < (l0.length : Int) := of_decide_eq_true (by first | (with_reducible assumption) | assumption)
                obtain ⟨ad24001, e24001, hx24001_0⟩ := Kd.at_int HR0.out x5_1 p24001 q24001
                cases e24001
                replace p24001 := eq_true p24001
                replace q24001 := eq_true q24001
                have p24002 : 0 ≤ (x5_1 : Int) := of_decide_eq_true (by first | (with_reducible assumption) | assumption)
                have q24002 : x5_1 < (l1.length : Int) := of_decide_eq_true (by first | (with_reducible assumption) | assumption)
                obtain ⟨ad24002, e24002, hx24002_0⟩ := Kd.at_int HR1.out x5_1 p24002 q24002
                cases e24002
                replace p24002 := eq_true p24002
                replace q24002 := eq_true q24002
                go_wp2
                repeat (go_quiet (fail); try go_wp2)
                go_roundg k1
                case measure => have := HK1.out; omega
                case rel => exact ⟨(wrap64 (x5_1 + 1)), (by first | rfl | (simp; done) | (simp [*]; done)), H', ⟨by have := HK1.out; omega⟩, by repeat (first | exact Drawn0.refl _ | apply Drawn0.step)⟩
              · rw [if_neg c7] at H
                have c7b0 : ((rd l0 x5_1) == (rd l1 x5_1)) = false := beq_eq_false_iff_ne.mpr c7
                have c7b1 : ((rd l0 x5_1) != (rd l1 x5_1)) = true := bne_iff_ne.mpr c7
                obtain rfl := Option.some.inj H
                have p24001 : 0 ≤ (x5_1 : Int) := of_decide_eq_true (by first | (with_reducible assumption) | assumption)
                have q24001 : x5_1 < (l0.length : Int) := of_decide_eq_true (by first | (with_reducible assumption) | assumption)
                obtain ⟨ad24001, e24001, hx24001_0⟩ := Kd.at_int HR0.out x5_1 p24001 q24001
                cases e24001
                replace p24001 := eq_true p24001
                replace q24001 := eq_true q24001
                have p24002 : 0 ≤ (x5_1 : Int) := of_decide_eq_true (by first | (with_reducible assumption) | assumption)
                have q24002 : x5_1 < (l1.length : Int) := of_decide_eq_true (by first | (with_reducible assumption) | assumption)
                obtain ⟨ad24002, e24002, hx24002_0⟩ := Kd.at_int HR1.out x5_1 p24002 q24002
                cases e24002
                replace p24002 := eq_true p24002
                replace q24002 := eq_true q24002
                go_wp2
                repeat (go_quiet (fail); try go_wp2)
                go_ret
                exact ⟨by first | rfl | (simp; done) | (simp [*]; done), by repeat (first | exact Drawn0.refl _ | apply Drawn0.step)⟩
            · rw [if_neg c6] at H
              exact absurd H (by simp)
          · rw [if_neg c5] at H
            exact absurd H (by simp)
        · rw [if_neg c4] at H
          have c4b0 : decide (x5_1 < (l0.length : Int)) = false := decide_eq_false c4
          clear c4
          obtain rfl := Option.some.inj H
          go_wp2
          repeat (go_quiet (fail); try go_wp2)
          go_ret
          exact ⟨by first | rfl | (simp; done) | (simp [*]; done), by repeat (first | exact Drawn0.refl _ | apply Drawn0.step)⟩
  · rw [if_neg c3] at H
    have c3b0 : ((l0.length : Int) == (l1.length : Int)) = false := beq_eq_false_iff_ne.mpr c3
    have c3b1 : ((l0.length : Int) != (l1.length : Int)) = true := bne_iff_ne.mpr c3
    have c3b2 : (l0.length == l1.length) = false := by first | simpa using c3 | (simp at c3 ⊢; omega)
    obtain rfl := Option.some.inj H
    go_enter Try.func23, Try.ntmps23
    go_wp2
    repeat (go_quiet (fail); try go_wp2)
    go_ret
    exact ⟨by first | rfl | (simp; done) | (simp [*]; done), by repeat (first | exact Drawn0.refl _ | apply Drawn0.step)⟩

end Go.Proofs.Ytbgohbinonkhfaa.Q

/- impl.PixelAt: the numbers of a pixel. -/
namespace Go.Proofs.Ytbgohbinonkhfaa.Q
open Go.RowKit Go.Proofs.YtbgohbinonkhfaaW.PrintWords Go.Proofs.YtbgohbinonkhfaaW.PrintLast Go.Proofs.YtbgohbinonkhfaaW.PrintMore
attribute [local go_sem] max2_int min2_int max_two min_two max_three min_three max_four min_four
set_option linter.unusedVariables false
set_option linter.unusedSimpArgs false
open Go.Proofs.Ytbgohbinonkhfaa.Pure

def impl_PixelAt.f (a b p : Int) (d : List Int) (x y : Int) : Option (List Int) := some (if validI a b p d = true ∧ 0 ≤ x ∧ x < a ∧ 0 ≤ y ∧ y < b then pixT d (pixJ a p x.toNat y.toNat) p else [])

set_option maxHeartbeats 2000000 in
set_option maxRecDepth 100000 in
theorem impl_PixelAt.calls (a b p : Int) (A : Option Addr) (c : Nat) (d : List Int) (x y : Int) (r : List Int) (w : World) (hr0_3 : Kd.C (Kd.int .i64) w A d.length d) (hc0_3 : d.length ≤ c) (h : impl_PixelAt.f a b p d x y = some r) :
    Calls Try.prog 24 #[.agg #[.int .i64 a, .int .i64 b, .int .i64 p, .slice A d.length c], .int .i64 x, .int .i64 y] w fun e w' => ∃ v0_ : Value, e = .returned (v0_) ∧ Kd.R (Kd.int .i64) 3 w' w.heap.size (fun _ => True) v0_ r ∧ Below w.heap.size w w' := by
  obtain rfl := Option.some.inj h
  clear h
  have HC := Aside0.mk hc0_3
  have HR := Aside0.mk hr0_3
  have HB0 := Aside0.mk (Below.refl w.heap.size w)
  have E1 := Aside0.mk (impl_isImage_eq a b p d)
  clear hr0_3 hc0_3
  have hu := Try.underlying28
  cases hv : validI a b p d with
  | false =>
    rw [hv] at E1
    rw [if_neg (by rintro ⟨e, _⟩; cases e)]
    go_enter Try.func24, Try.ntmps24
    go_wp2_with (first
      | ((with_reducible refine gate_dst (N := 3) rfl ?_); refine box_event ?hg (N := 3) ?hd (cs := #[.int .i64 a, .int .i64 b, .int .i64 p, .slice A d.length c]) (t := 28) ?hr ?_; (case hd => rfl); (case hg => rfl); (case hr => first | (go_simp; done) | (go_simp; rfl)); intro g1 hg_ w1 hbox hb; have HB1 := Aside0.mk (below_then HB0.out HB0.out.size hb); have K1 := Aside0.mk hbox; have f0 : w1.cell? ⟨g1, 0, none⟩ = some (.int .i64 a) := (blk_cell K1.out 0).trans rfl; have f1 : w1.cell? ⟨g1, 1, none⟩ = some (.int .i64 b) := (blk_cell K1.out 1).trans rfl; have f2 : w1.cell? ⟨g1, 2, none⟩ = some (.int .i64 p) := (blk_cell K1.out 2).trans rfl; have f3 : w1.cell? ⟨g1, 3, none⟩ = some (.slice A d.length c) := (blk_cell K1.out 3).trans rfl; clear hbox hb hg_)
      | (go_at_call 48; (with_reducible refine (impl_isImage.calls a b p A c d _ w1 (Kd.C_below HR.out HB1.out) HC.out E1.out).mono ?_); rintro e w2 ⟨rfl, hb_⟩; have HB2 := Aside0.mk (below_then HB1.out HB1.out.size hb_); have K2 := Aside0.mk (blk_below K1.out hb_); have e0 : w2.cell? ⟨g1, 0, none⟩ = some (.int .i64 a) := (blk_cell K2.out 0).trans rfl; have e1 : w2.cell? ⟨g1, 1, none⟩ = some (.int .i64 b) := (blk_cell K2.out 1).trans rfl; have e2 : w2.cell? ⟨g1, 2, none⟩ = some (.int .i64 p) := (blk_cell K2.out 2).trans rfl; have e3 : w2.cell? ⟨g1, 3, none⟩ = some (.slice A d.length c) := (blk_cell K2.out 3).trans rfl; clear hb_))
    go_ret
    exact ⟨_, rfl, Kd.R_nil _ _ _ _ _, HB2.out⟩
  | true =>
    rw [hv] at E1
    by_cases c1 : x < 0
    · have q1 : decide (x < 0) = true := decide_eq_true c1
      rw [if_neg (by omega)]
      go_enter Try.func24, Try.ntmps24
      go_wp2_with (first
        | ((with_reducible refine gate_dst (N := 3) rfl ?_); refine box_event ?hg (N := 3) ?hd (cs := #[.int .i64 a, .int .i64 b, .int .i64 p, .slice A d.length c]) (t := 28) ?hr ?_; (case hd => rfl); (case hg => rfl); (case hr => first | (go_simp; done) | (go_simp; rfl)); intro g1 hg_ w1 hbox hb; have HB1 := Aside0.mk (below_then HB0.out HB0.out.size hb); have K1 := Aside0.mk hbox; have f0 : w1.cell? ⟨g1, 0, none⟩ = some (.int .i64 a) := (blk_cell K1.out 0).trans rfl; have f1 : w1.cell? ⟨g1, 1, none⟩ = some (.int .i64 b) := (blk_cell K1.out 1).trans rfl; have f2 : w1.cell? ⟨g1, 2, none⟩ = some (.int .i64 p) := (blk_cell K1.out 2).trans rfl; have f3 : w1.cell? ⟨g1, 3, none⟩ = some (.slice A d.length c) := (blk_cell K1.out 3).trans rfl; clear hbox hb hg_)
        | (go_at_call 48; (with_reducible refine (impl_isImage.calls a b p A c d _ w1 (Kd.C_below HR.out HB1.out) HC.out E1.out).mono ?_); rintro e w2 ⟨rfl, hb_⟩; have HB2 := Aside0.mk (below_then HB1.out HB1.out.size hb_); have K2 := Aside0.mk (blk_below K1.out hb_); have e0 : w2.cell? ⟨g1, 0, none⟩ = some (.int .i64 a) := (blk_cell K2.out 0).trans rfl; have e1 : w2.cell? ⟨g1, 1, none⟩ = some (.int .i64 b) := (blk_cell K2.out 1).trans rfl; have e2 : w2.cell? ⟨g1, 2, none⟩ = some (.int .i64 p) := (blk_cell K2.out 2).trans rfl; have e3 : w2.cell? ⟨g1, 3, none⟩ = some (.slice A d.length c) := (blk_cell K2.out 3).trans rfl; clear hb_))
      go_ret
      exact ⟨_, rfl, Kd.R_nil _ _ _ _ _, HB2.out⟩
    have q1 : decide (x < 0) = false := decide_eq_false c1
    by_cases c2 : a ≤ x
    · have q2 : decide (a ≤ x) = true := decide_eq_true c2
      rw [if_neg (by omega)]
      go_enter Try.func24, Try.ntmps24
      go_wp2_with (first
        | ((with_reducible refine gate_dst (N := 3) rfl ?_); refine box_event ?hg (N := 3) ?hd (cs := #[.int .i64 a, .int .i64 b, .int .i64 p, .slice A d.length c]) (t := 28) ?hr ?_; (case hd => rfl); (case hg => rfl); (case hr => first | (go_simp; done) | (go_simp; rfl)); intro g1 hg_ w1 hbox hb; have HB1 := Aside0.mk (below_then HB0.out HB0.out.size hb); have K1 := Aside0.mk hbox; have f0 : w1.cell? ⟨g1, 0, none⟩ = some (.int .i64 a) := (blk_cell K1.out 0).trans rfl; have f1 : w1.cell? ⟨g1, 1, none⟩ = some (.int .i64 b) := (blk_cell K1.out 1).trans rfl; have f2 : w1.cell? ⟨g1, 2, none⟩ = some (.int .i64 p) := (blk_cell K1.out 2).trans rfl; have f3 : w1.cell? ⟨g1, 3, none⟩ = some (.slice A d.length c) := (blk_cell K1.out 3).trans rfl; clear hbox hb hg_)
        | (go_at_call 48; (with_reducible refine (impl_isImage.calls a b p A c d _ w1 (Kd.C_below HR.out HB1.out) HC.out E1.out).mono ?_); rintro e w2 ⟨rfl, hb_⟩; have HB2 := Aside0.mk (below_then HB1.out HB1.out.size hb_); have K2 := Aside0.mk (blk_below K1.out hb_); have e0 : w2.cell? ⟨g1, 0, none⟩ = some (.int .i64 a) := (blk_cell K2.out 0).trans rfl; have e1 : w2.cell? ⟨g1, 1, none⟩ = some (.int .i64 b) := (blk_cell K2.out 1).trans rfl; have e2 : w2.cell? ⟨g1, 2, none⟩ = some (.int .i64 p) := (blk_cell K2.out 2).trans rfl; have e3 : w2.cell? ⟨g1, 3, none⟩ = some (.slice A d.length c) := (blk_cell K2.out 3).trans rfl; clear hb_))
      go_ret
      exact ⟨_, rfl, Kd.R_nil _ _ _ _ _, HB2.out⟩
    have q2 : decide (a ≤ x) = false := decide_eq_false c2
    by_cases c3 : y < 0
    · have q3 : decide (y < 0) = true := decide_eq_true c3
      rw [if_neg (by omega)]
      go_enter Try.func24, Try.ntmps24
      go_wp2_with (first
        | ((with_reducible refine gate_dst (N := 3) rfl ?_); refine box_event ?hg (N := 3) ?hd (cs := #[.int .i64 a, .int .i64 b, .int .i64 p, .slice A d.length c]) (t := 28) ?hr ?_; (case hd => rfl); (case hg => rfl); (case hr => first | (go_simp; done) | (go_simp; rfl)); intro g1 hg_ w1 hbox hb; have HB1 := Aside0.mk (below_then HB0.out HB0.out.size hb); have K1 := Aside0.mk hbox; have f0 : w1.cell? ⟨g1, 0, none⟩ = some (.int .i64 a) := (blk_cell K1.out 0).trans rfl; have f1 : w1.cell? ⟨g1, 1, none⟩ = some (.int .i64 b) := (blk_cell K1.out 1).trans rfl; have f2 : w1.cell? ⟨g1, 2, none⟩ = some (.int .i64 p) := (blk_cell K1.out 2).trans rfl; have f3 : w1.cell? ⟨g1, 3, none⟩ = some (.slice A d.length c) := (blk_cell K1.out 3).trans rfl; clear hbox hb hg_)
        | (go_at_call 48; (with_reducible refine (impl_isImage.calls a b p A c d _ w1 (Kd.C_below HR.out HB1.out) HC.out E1.out).mono ?_); rintro e w2 ⟨rfl, hb_⟩; have HB2 := Aside0.mk (below_then HB1.out HB1.out.size hb_); have K2 := Aside0.mk (blk_below K1.out hb_); have e0 : w2.cell? ⟨g1, 0, none⟩ = some (.int .i64 a) := (blk_cell K2.out 0).trans rfl; have e1 : w2.cell? ⟨g1, 1, none⟩ = some (.int .i64 b) := (blk_cell K2.out 1).trans rfl; have e2 : w2.cell? ⟨g1, 2, none⟩ = some (.int .i64 p) := (blk_cell K2.out 2).trans rfl; have e3 : w2.cell? ⟨g1, 3, none⟩ = some (.slice A d.length c) := (blk_cell K2.out 3).trans rfl; clear hb_))
      go_ret
      exact ⟨_, rfl, Kd.R_nil _ _ _ _ _, HB2.out⟩
    have q3 : decide (y < 0) = false := decide_eq_false c3
    by_cases c4 : b ≤ y
    · have q4 : decide (b ≤ y) = true := decide_eq_true c4
      rw [if_neg (by omega)]
      go_enter Try.func24, Try.ntmps24
      go_wp2_with (first
        | ((with_reducible refine gate_dst (N := 3) rfl ?_); refine box_event ?hg (N := 3) ?hd (cs := #[.int .i64 a, .int .i64 b, .int .i64 p, .slice A d.length c]) (t := 28) ?hr ?_; (case hd => rfl); (case hg => rfl); (case hr => first | (go_simp; done) | (go_simp; rfl)); intro g1 hg_ w1 hbox hb; have HB1 := Aside0.mk (below_then HB0.out HB0.out.size hb); have K1 := Aside0.mk hbox; have f0 : w1.cell? ⟨g1, 0, none⟩ = some (.int .i64 a) := (blk_cell K1.out 0).trans rfl; have f1 : w1.cell? ⟨g1, 1, none⟩ = some (.int .i64 b) := (blk_cell K1.out 1).trans rfl; have f2 : w1.cell? ⟨g1, 2, none⟩ = some (.int .i64 p) := (blk_cell K1.out 2).trans rfl; have f3 : w1.cell? ⟨g1, 3, none⟩ = some (.slice A d.length c) := (blk_cell K1.out 3).trans rfl; clear hbox hb hg_)
        | (go_at_call 48; (with_reducible refine (impl_isImage.calls a b p A c d _ w1 (Kd.C_below HR.out HB1.out) HC.out E1.out).mono ?_); rintro e w2 ⟨rfl, hb_⟩; have HB2 := Aside0.mk (below_then HB1.out HB1.out.size hb_); have K2 := Aside0.mk (blk_below K1.out hb_); have e0 : w2.cell? ⟨g1, 0, none⟩ = some (.int .i64 a) := (blk_cell K2.out 0).trans rfl; have e1 : w2.cell? ⟨g1, 1, none⟩ = some (.int .i64 b) := (blk_cell K2.out 1).trans rfl; have e2 : w2.cell? ⟨g1, 2, none⟩ = some (.int .i64 p) := (blk_cell K2.out 2).trans rfl; have e3 : w2.cell? ⟨g1, 3, none⟩ = some (.slice A d.length c) := (blk_cell K2.out 3).trans rfl; clear hb_))
      go_ret
      exact ⟨_, rfl, Kd.R_nil _ _ _ _ _, HB2.out⟩
    have q4 : decide (b ≤ y) = false := decide_eq_false c4
    rw [if_pos ⟨rfl, by omega, by omega, by omega, by omega⟩]
    obtain ⟨X, rfl⟩ := Int.eq_ofNat_of_zero_le (show 0 ≤ x by omega)
    obtain ⟨Y, rfl⟩ := Int.eq_ofNat_of_zero_le (show 0 ≤ y by omega)
    rw [Int.toNat_natCast, Int.toNat_natCast]
    have hb := pixJ_is hv (x := X) (y := Y) (by omega) (by omega)
    have hh := (validI_iff a b p d).1 hv
    have hpr := shape_prod hh.1
    have hw : wrap64 (pixJ a p X Y + p) = pixJ a p X Y + p := w64 (by omega) (by omega)
    obtain ⟨A', c', hc', HA⟩ := at_calls a b p A c d (X : Int) (Y : Int) (pixJ a p X Y) HC.out rfl (by omega) (by omega) (by omega)
    replace HA := Aside0.mk HA
    have HL := Aside0.mk (show (pixT d (pixJ a p X Y) p).length ≤ 1024 from by have := pixT_len d (pixJ a p X Y) p; omega)
    clear hb hh hpr hw hc' c1 c2 c3 c4 hv
    go_enter Try.func24, Try.ntmps24
    go_wp2_with (first
      | ((with_reducible refine gate_dst (N := 3) rfl ?_); refine box_event ?hg (N := 3) ?hd (cs := #[.int .i64 a, .int .i64 b, .int .i64 p, .slice A d.length c]) (t := 28) ?hr ?_; (case hd => rfl); (case hg => rfl); (case hr => first | (go_simp; done) | (go_simp; rfl)); intro g1 hg_ w1 hbox hb; have HB1 := Aside0.mk (below_then HB0.out HB0.out.size hb); have K1 := Aside0.mk hbox; have f0 : w1.cell? ⟨g1, 0, none⟩ = some (.int .i64 a) := (blk_cell K1.out 0).trans rfl; have f1 : w1.cell? ⟨g1, 1, none⟩ = some (.int .i64 b) := (blk_cell K1.out 1).trans rfl; have f2 : w1.cell? ⟨g1, 2, none⟩ = some (.int .i64 p) := (blk_cell K1.out 2).trans rfl; have f3 : w1.cell? ⟨g1, 3, none⟩ = some (.slice A d.length c) := (blk_cell K1.out 3).trans rfl; clear hbox hb hg_)
      | (go_at_call 48; (with_reducible refine (impl_isImage.calls a b p A c d _ w1 (Kd.C_below HR.out HB1.out) HC.out E1.out).mono ?_); rintro e w2 ⟨rfl, hb_⟩; have HB2 := Aside0.mk (below_then HB1.out HB1.out.size hb_); have K2 := Aside0.mk (blk_below K1.out hb_); have e0 : w2.cell? ⟨g1, 0, none⟩ = some (.int .i64 a) := (blk_cell K2.out 0).trans rfl; have e1 : w2.cell? ⟨g1, 1, none⟩ = some (.int .i64 b) := (blk_cell K2.out 1).trans rfl; have e2 : w2.cell? ⟨g1, 2, none⟩ = some (.int .i64 p) := (blk_cell K2.out 2).trans rfl; have e3 : w2.cell? ⟨g1, 3, none⟩ = some (.slice A d.length c) := (blk_cell K2.out 3).trans rfl; clear hb_)
      | ((with_reducible refine gate_dst (N := 30) rfl ?_); refine Kd.R_lit (Kd.int .i64) w.heap.size 3 ?hg (N := 30) ?hd (xs := ([] : List Int)) (inner := []) (ok := fun _ => True) (okp := fun _ => True) ?hr ?hp (fun _ hk => hk) trivial HB2.out HB2.out.size (by simp) ?_; (case hd => rfl); (case hg => rfl); (case hr => first | (go_simp; done) | (go_simp; rfl)); (case hp => exact (Reps.none _ _)); intro v3 w3 ho hb hg_ hnew_; have HV3 := Aside0.mk ho; have HB3 := Aside0.mk hb; have K3 := Aside0.mk (blk_grown K2.out hg_ (by simp)); have d0 : w3.cell? ⟨g1, 0, none⟩ = some (.int .i64 a) := (blk_cell K3.out 0).trans rfl; have d1 : w3.cell? ⟨g1, 1, none⟩ = some (.int .i64 b) := (blk_cell K3.out 1).trans rfl; have d2 : w3.cell? ⟨g1, 2, none⟩ = some (.int .i64 p) := (blk_cell K3.out 2).trans rfl; have d3 : w3.cell? ⟨g1, 3, none⟩ = some (.slice A d.length c) := (blk_cell K3.out 3).trans rfl; clear ho hb hg_ hnew_)
      | (go_at_call 59; (with_reducible refine ((HA.out w3 (Kd.C_below HR.out HB3.out)).2).mono ?_); rintro e w4 ⟨rfl, hb_⟩; have HB4 := Aside0.mk (below_then HB3.out HB3.out.size hb_); have HV4 := Aside0.mk (Kd.R_below HV3.out hb_); have HP4 := Aside0.mk (HA.out w4 (Kd.C_below HR.out HB4.out)).1; clear hb_)
      | ((with_reducible refine gate_builtin (b := .append) (xs := #[.tmp 30, .tmp 34]) rfl ?_); at_builtin; refine Kd.R_append_rows (Kd.int .i64) (w0 := w) w.heap.size rfl (.tmp 30) (.tmp 34) 22 3 (.int .i64 0) 8 rfl Try.underlying22 info3 rfl (by decide) (by omega) v3 ([] : List Int) (pixT d (pixJ a p X Y) p) _ _ _ (fun _ => True) (fun _ => False) rfl rfl HV4.out ?aR (fun _ _ h => h) (fun _ h => h.elim) (fun _ _ => trivial) HB4.out HB4.out.size ?aL ?_; (case aR => exact HP4.out); (case aL => (have hl_ := HL.out; simp only [List.length_nil]; omega)); intro v5 w5 ho hb hg hat; have HV5 := Aside0.mk ho; have HB5 := Aside0.mk hb; clear ho hb hg hat))
    go_ret
    exact ⟨v5, rfl, HV5.out, HB5.out⟩
end Go.Proofs.Ytbgohbinonkhfaa.Q

namespace Go.Proofs.Ytbgohbinonkhfaa.Q
open Go.RowKit Go.Proofs.YtbgohbinonkhfaaW.PrintWords Go.Proofs.YtbgohbinonkhfaaW.PrintLast Go.Proofs.YtbgohbinonkhfaaW.PrintMore
attribute [local go_sem] max2_int min2_int max_two min_two max_three min_three max_four min_four
set_option linter.unusedVariables false
set_option linter.unusedSimpArgs false
/-! ### laws_FnChangedRegion: function 4 -/
mutual
def laws_FnChangedRegion.j0 : Nat → List (S47) → Bool → Int → Int → Int → List Int → Int → Int → Int → List Int → Option (Bool)
  | 0, _, _, _, _, _, _, _, _, _, _ => none
  | k + 1, x5, x37, x5014000, x5014001, x5014002, x5014003, x5015000, x5015001, x5015002, x5015003 => if x37 = true then ((spec_ChangedRegion.f k x5014000 x5014001 x5014002 x5014003 x5015000 x5015001 x5015002 x5015003).bind fun t5026 => ((laws_equalRuns.f k x5 t5026).bind fun t5029 => (if t5029 = true then ((impl_ChangedRegion.f x5015000 x5015001 x5015002 x5015003 x5014000 x5014001 x5014002 x5014003).bind fun t5030 => ((laws_equalRuns.f k t5030 x5).bind fun t5033 => (some t5033))) else (some false)))) else (laws_FnChangedRegion.l0 k x5 0 x5014000 x5014001 x5014002 x5014003 x5015000 x5015001 x5015002 x5015003)
def laws_FnChangedRegion.l0 : Nat → List (S47) → Int → Int → Int → Int → List Int → Int → Int → Int → List Int → Option (Bool)
  | 0, _, _, _, _, _, _, _, _, _, _ => none
  | k + 1, x5, x6, x5014000, x5014001, x5014002, x5014003, x5015000, x5015001, x5015002, x5015003 => if x6 < x5014001 then (laws_FnChangedRegion.l1 k x5 x6 0 x5014000 x5014001 x5014002 x5014003 x5015000 x5015001 x5015002 x5015003) else (some true)
def laws_FnChangedRegion.l1 : Nat → List (S47) → Int → Int → Int → Int → Int → List Int → Int → Int → Int → List Int → Option (Bool)
  | 0, _, _, _, _, _, _, _, _, _, _, _ => none
  | k + 1, x5, x6, x7, x5014000, x5014001, x5014002, x5014003, x5015000, x5015001, x5015002, x5015003 => if x7 < x5014000 then ((impl_RegionHas.f x5 x7 x6).bind fun t5034 => ((impl_PixelAt.f x5014000 x5014001 x5014002 x5014003 x7 x6).bind fun t5035 => ((impl_PixelAt.f x5015000 x5015001 x5015002 x5015003 x7 x6).bind fun t5038 => ((laws_equalInts.f k t5035 t5038).bind fun t5041 => (if (t5034 == t5041) = true then (some false) else (laws_FnChangedRegion.l1 k x5 x6 (wrap64 (x7 + 1)) x5014000 x5014001 x5014002 x5014003 x5015000 x5015001 x5015002 x5015003)))))) else (laws_FnChangedRegion.l0 k x5 (wrap64 (x6 + 1)) x5014000 x5014001 x5014002 x5014003 x5015000 x5015001 x5015002 x5015003)
end
def laws_FnChangedRegion.f (k : Nat) (l0 : List Int) : Option (Bool) := if (l0.length : Int) > 1048576 then (some true) else ((spec_DrawChangedRegion.f k l0).bind fun bt5001 => ((impl_ChangedRegion.f bt5001.1 bt5001.2.1 bt5001.2.2.1 bt5001.2.2.2.1 bt5001.2.2.2.2.1 bt5001.2.2.2.2.2.1 bt5001.2.2.2.2.2.2.1 bt5001.2.2.2.2.2.2.2).bind fun t5015 => ((spec_ChangedRegion.f k bt5001.1 bt5001.2.1 bt5001.2.2.1 bt5001.2.2.2.1 bt5001.2.2.2.2.1 bt5001.2.2.2.2.2.1 bt5001.2.2.2.2.2.2.1 bt5001.2.2.2.2.2.2.2).bind fun t5018 => ((laws_equalRuns.f k t5015 t5018).bind fun t5021 => (if t5021 = true then ((impl_ChangedRegion.f bt5001.2.2.2.2.1 bt5001.2.2.2.2.2.1 bt5001.2.2.2.2.2.2.1 bt5001.2.2.2.2.2.2.2 bt5001.1 bt5001.2.1 bt5001.2.2.1 bt5001.2.2.2.1).bind fun t5022 => ((laws_equalRuns.f k t5022 t5015).bind fun t5025 => (if t5025 = true then (laws_FnChangedRegion.j0 k t5015 ((t5015.length : Int) == 0) bt5001.1 bt5001.2.1 bt5001.2.2.1 bt5001.2.2.2.1 bt5001.2.2.2.2.1 bt5001.2.2.2.2.2.1 bt5001.2.2.2.2.2.2.1 bt5001.2.2.2.2.2.2.2) else (laws_FnChangedRegion.j0 k t5015 true bt5001.1 bt5001.2.1 bt5001.2.2.1 bt5001.2.2.2.1 bt5001.2.2.2.2.1 bt5001.2.2.2.2.2.1 bt5001.2.2.2.2.2.2.1 bt5001.2.2.2.2.2.2.2)))) else (laws_FnChangedRegion.j0 k t5015 true bt5001.1 bt5001.2.1 bt5001.2.2.1 bt5001.2.2.2.1 bt5001.2.2.2.2.1 bt5001.2.2.2.2.2.1 bt5001.2.2.2.2.2.2.1 bt5001.2.2.2.2.2.2.2))))))
theorem laws_FnChangedRegion.mono_l : ∀ k, (∀ y0 y1 y2 y3 y4 y5 y6 y7 y8 y9, LeO (laws_FnChangedRegion.j0 k y0 y1 y2 y3 y4 y5 y6 y7 y8 y9) (laws_FnChangedRegion.j0 (k + 1) y0 y1 y2 y3 y4 y5 y6 y7 y8 y9)) ∧ (∀ y0 y1 y2 y3 y4 y5 y6 y7 y8 y9, LeO (laws_FnChangedRegion.l0 k y0 y1 y2 y3 y4 y5 y6 y7 y8 y9) (laws_FnChangedRegion.l0 (k + 1) y0 y1 y2 y3 y4 y5 y6 y7 y8 y9)) ∧ (∀ y0 y1 y2 y3 y4 y5 y6 y7 y8 y9 y10, LeO (laws_FnChangedRegion.l1 k y0 y1 y2 y3 y4 y5 y6 y7 y8 y9 y10) (laws_FnChangedRegion.l1 (k + 1) y0 y1 y2 y3 y4 y5 y6 y7 y8 y9 y10))
  | 0 => ⟨fun _ _ _ _ _ _ _ _ _ _ r h => by simp [laws_FnChangedRegion.j0] at h, fun _ _ _ _ _ _ _ _ _ _ r h => by simp [laws_FnChangedRegion.l0] at h, fun _ _ _ _ _ _ _ _ _ _ _ r h => by simp [laws_FnChangedRegion.l1] at h⟩
  | k + 1 => by
    obtain ⟨ih0, ih1, ih2⟩ := laws_FnChangedRegion.mono_l k
    refine ⟨?_, ?_, ?_⟩
    · intro y0 y1 y2 y3 y4 y5 y6 y7 y8 y9
      unfold laws_FnChangedRegion.j0
      repeat' first
      | (with_reducible exact ih0 _ _ _ _ _ _ _ _ _ _)
      | (with_reducible exact ih1 _ _ _ _ _ _ _ _ _ _)
      | (with_reducible exact ih2 _ _ _ _ _ _ _ _ _ _ _)
      | (with_reducible exact laws_equalInts.mono _ _ _)
      | (with_reducible exact laws_equalRuns.mono _ _ _)
      | (with_reducible exact spec_ChangedRegion.mono _ _ _ _ _ _ _ _ _)
      | (with_reducible exact spec_DrawChangedRegion.mono _ _)
      | (with_reducible exact LeO.refl _)
      | (with_reducible exact LeO.none _)
      | (with_reducible refine LeO.ite ?_ ?_)
      | (with_reducible refine LeO.bind ?_ (fun _ => ?_))
      | exact ih0 _ _ _ _ _ _ _ _ _ _
      | exact ih1 _ _ _ _ _ _ _ _ _ _
      | exact ih2 _ _ _ _ _ _ _ _ _ _ _
      | exact laws_equalInts.mono _ _ _
      | exact laws_equalRuns.mono _ _ _
      | exact spec_ChangedRegion.mono _ _ _ _ _ _ _ _ _
      | exact spec_DrawChangedRegion.mono _ _
      | exact LeO.none _
      | refine LeO.ite ?_ ?_
      | refine LeO.bind ?_ (fun _ => ?_)
    · intro y0 y1 y2 y3 y4 y5 y6 y7 y8 y9
      unfold laws_FnChangedRegion.l0
      repeat' first
      | (with_reducible exact ih0 _ _ _ _ _ _ _ _ _ _)
      | (with_reducible exact ih1 _ _ _ _ _ _ _ _ _ _)
      | (with_reducible exact ih2 _ _ _ _ _ _ _ _ _ _ _)
      | (with_reducible exact laws_equalInts.mono _ _ _)
      | (with_reducible exact laws_equalRuns.mono _ _ _)
      | (with_reducible exact spec_ChangedRegion.mono _ _ _ _ _ _ _ _ _)
      | (with_reducible exact spec_DrawChangedRegion.mono _ _)
      | (with_reducible exact LeO.refl _)
      | (with_reducible exact LeO.none _)
      | (with_reducible refine LeO.ite ?_ ?_)
      | (with_reducible refine LeO.bind ?_ (fun _ => ?_))
      | exact ih0 _ _ _ _ _ _ _ _ _ _
      | exact ih1 _ _ _ _ _ _ _ _ _ _
      | exact ih2 _ _ _ _ _ _ _ _ _ _ _
      | exact laws_equalInts.mono _ _ _
      | exact laws_equalRuns.mono _ _ _
      | exact spec_ChangedRegion.mono _ _ _ _ _ _ _ _ _
      | exact spec_DrawChangedRegion.mono _ _
      | exact LeO.none _
      | refine LeO.ite ?_ ?_
      | refine LeO.bind ?_ (fun _ => ?_)
    · intro y0 y1 y2 y3 y4 y5 y6 y7 y8 y9 y10
      unfold laws_FnChangedRegion.l1
      repeat' first
      | (with_reducible exact ih0 _ _ _ _ _ _ _ _ _ _)
      | (with_reducible exact ih1 _ _ _ _ _ _ _ _ _ _)
      | (with_reducible exact ih2 _ _ _ _ _ _ _ _ _ _ _)
      | (with_reducible exact laws_equalInts.mono _ _ _)
      | (with_reducible exact laws_equalRuns.mono _ _ _)
      | (with_reducible exact spec_ChangedRegion.mono _ _ _ _ _ _ _ _ _)
      | (with_reducible exact spec_DrawChangedRegion.mono _ _)
      | (with_reducible exact LeO.refl _)
      | (with_reducible exact LeO.none _)
      | (with_reducible refine LeO.ite ?_ ?_)
      | (with_reducible refine LeO.bind ?_ (fun _ => ?_))
      | exact ih0 _ _ _ _ _ _ _ _ _ _
      | exact ih1 _ _ _ _ _ _ _ _ _ _
      | exact ih2 _ _ _ _ _ _ _ _ _ _ _
      | exact laws_equalInts.mono _ _ _
      | exact laws_equalRuns.mono _ _ _
      | exact spec_ChangedRegion.mono _ _ _ _ _ _ _ _ _
      | exact spec_DrawChangedRegion.mono _ _
      | exact LeO.none _
      | refine LeO.ite ?_ ?_
      | refine LeO.bind ?_ (fun _ => ?_)
theorem laws_FnChangedRegion.mono : ∀ a0 k, LeO (laws_FnChangedRegion.f k a0) (laws_FnChangedRegion.f (k + 1) a0) := by
  intro a0 k
  obtain ⟨ih0, ih1, ih2⟩ := laws_FnChangedRegion.mono_l k
  unfold laws_FnChangedRegion.f
  repeat' first
      | (with_reducible exact ih0 _ _ _ _ _ _ _ _ _ _)
      | (with_reducible exact ih1 _ _ _ _ _ _ _ _ _ _)
      | (with_reducible exact ih2 _ _ _ _ _ _ _ _ _ _ _)
      | (with_reducible exact laws_equalInts.mono _ _ _)
      | (with_reducible exact laws_equalRuns.mono _ _ _)
      | (with_reducible exact spec_ChangedRegion.mono _ _ _ _ _ _ _ _ _)
      | (with_reducible exact spec_DrawChangedRegion.mono _ _)
      | (with_reducible exact LeO.refl _)
      | (with_reducible exact LeO.none _)
      | (with_reducible refine LeO.ite ?_ ?_)
      | (with_reducible refine LeO.bind ?_ (fun _ => ?_))
      | exact ih0 _ _ _ _ _ _ _ _ _ _
      | exact ih1 _ _ _ _ _ _ _ _ _ _
      | exact ih2 _ _ _ _ _ _ _ _ _ _ _
      | exact laws_equalInts.mono _ _ _
      | exact laws_equalRuns.mono _ _ _
      | exact spec_ChangedRegion.mono _ _ _ _ _ _ _ _ _
      | exact spec_DrawChangedRegion.mono _ _
      | exact LeO.none _
      | refine LeO.ite ?_ ?_
      | refine LeO.bind ?_ (fun _ => ?_)
def laws_FnChangedRegion.T13 : Bool × List (List Nat × List Nat) := (true, [([], []), ([], []), ([], []), ([0, 1, 2], [0, 1, 2]), ([], []), ([], []), ([], []), ([4, 5, 6, 3], [4, 5, 6]), ([], []), ([], []), ([], []), ([8, 9, 10, 7], [8, 9, 10]), ([7, 11, 11], [7, 11]), ([3, 12], [3, 12])])
def laws_FnChangedRegion.B13 : List Nat := [0, 0, 0, 7, 0, 0, 0, 127, 0, 0, 0, 2047, 4095, 8191]
theorem laws_FnChangedRegion.tab13 : rtab .any (opsOf Try.f4 13) = laws_FnChangedRegion.T13 := by kernel_rfl
theorem laws_FnChangedRegion.bits13 : waitsOk laws_FnChangedRegion.T13.2 laws_FnChangedRegion.B13 = true := by kernel_rfl
set_option maxHeartbeats 8000000 in
set_option maxRecDepth 100000 in
theorem laws_FnChangedRegion.calls (k : Nat) (A0 : Option Addr) (c0 : Nat) (l0 : List Int) (r : Bool) (w : World) (hr0 : Kd.C (Kd.int .u8) w A0 l0.length l0) (hc0 : l0.length ≤ c0) (h : laws_FnChangedRegion.f k l0 = some r) (hrt : r = true) :
    Calls Try.prog 4 #[.slice A0 l0.length c0] w fun e w' => e = .returned (.bool r) ∧ Below w.heap.size w w' := by
  have HRT := Aside0.mk hrt
  clear hrt
  have hu28 := Try.underlying28
  have HR0 := Aside0.mk hr0
  have HC0 := Aside0.mk hc0
  clear hr0 hc0
  have HB := Aside0.mk (Below.refl w.heap.size w)
  have H : (if (l0.length : Int) > 1048576 then (some true) else ((spec_DrawChangedRegion.f k l0).bind fun bt5001 => ((impl_ChangedRegion.f bt5001.1 bt5001.2.1 bt5001.2.2.1 bt5001.2.2.2.1 bt5001.2.2.2.2.1 bt5001.2.2.2.2.2.1 bt5001.2.2.2.2.2.2.1 bt5001.2.2.2.2.2.2.2).bind fun t5015 => ((spec_ChangedRegion.f k bt5001.1 bt5001.2.1 bt5001.2.2.1 bt5001.2.2.2.1 bt5001.2.2.2.2.1 bt5001.2.2.2.2.2.1 bt5001.2.2.2.2.2.2.1 bt5001.2.2.2.2.2.2.2).bind fun t5018 => ((laws_equalRuns.f k t5015 t5018).bind fun t5021 => (if t5021 = true then ((impl_ChangedRegion.f bt5001.2.2.2.2.1 bt5001.2.2.2.2.2.1 bt5001.2.2.2.2.2.2.1 bt5001.2.2.2.2.2.2.2 bt5001.1 bt5001.2.1 bt5001.2.2.1 bt5001.2.2.2.1).bind fun t5022 => ((laws_equalRuns.f k t5022 t5015).bind fun t5025 => (if t5025 = true then (laws_FnChangedRegion.j0 k t5015 ((t5015.length : Int) == 0) bt5001.1 bt5001.2.1 bt5001.2.2.1 bt5001.2.2.2.1 bt5001.2.2.2.2.1 bt5001.2.2.2.2.2.1 bt5001.2.2.2.2.2.2.1 bt5001.2.2.2.2.2.2.2) else (laws_FnChangedRegion.j0 k t5015 true bt5001.1 bt5001.2.1 bt5001.2.2.1 bt5001.2.2.2.1 bt5001.2.2.2.2.1 bt5001.2.2.2.2.2.1 bt5001.2.2.2.2.2.2.1 bt5001.2.2.2.2.2.2.2)))) else (laws_FnChangedRegion.j0 k t5015 true bt5001.1 bt5001.2.1 bt5001.2.2.1 bt5001.2.2.2.1 bt5001.2.2.2.2.1 bt5001.2.2.2.2.2.1 bt5001.2.2.2.2.2.2.1 bt5001.2.2.2.2.2.2.2))))))) = some r := h
  clear h
  by_cases c2 : (l0.length : Int) > 1048576
  · rw [if_pos c2] at H
    have c2b0 : decide (1048576 < (l0.length : Int)) = true := decide_eq_true c2
    have c2b1 : decide (1048576 < l0.length) = true := decide_eq_true (by omega)
    clear c2
    obtain rfl := Option.some.inj H
    go_enter Try.func4, Try.ntmps4
    go_wp2
    go_ret
    exact ⟨by first | rfl | (simp [errW_none, errW_some] <;> rfl) | (simp [*, errW_none, errW_some] <;> rfl), by repeat (first | (with_reducible first | exact HB.out | apply below_alloc | apply pw_below_drewN | apply below_drew1) | exact HB.out)⟩
  · rw [if_neg c2] at H
    have c2b0 : decide (1048576 < (l0.length : Int)) = false := decide_eq_false c2
    have c2b1 : decide (1048576 < l0.length) = false := decide_eq_false (by omega)
    clear c2
    replace H := Option.bind_eq_some_iff.mp H
    obtain ⟨⟨t5001, t5002, t5003, t5004, t5007, t5008, t5009, t5010⟩, A30, H⟩ := H
    replace H : ((impl_ChangedRegion.f t5001 t5002 t5003 t5004 t5007 t5008 t5009 t5010).bind fun t5015 => ((spec_ChangedRegion.f k t5001 t5002 t5003 t5004 t5007 t5008 t5009 t5010).bind fun t5018 => ((laws_equalRuns.f k t5015 t5018).bind fun t5021 => (if t5021 = true then ((impl_ChangedRegion.f t5007 t5008 t5009 t5010 t5001 t5002 t5003 t5004).bind fun t5022 => ((laws_equalRuns.f k t5022 t5015).bind fun t5025 => (if t5025 = true then (laws_FnChangedRegion.j0 k t5015 ((t5015.length : Int) == 0) t5001 t5002 t5003 t5004 t5007 t5008 t5009 t5010) else (laws_FnChangedRegion.j0 k t5015 true t5001 t5002 t5003 t5004 t5007 t5008 t5009 t5010)))) else (laws_FnChangedRegion.j0 k t5015 true t5001 t5002 t5003 t5004 t5007 t5008 t5009 t5010))))) = some r := H
    have A3 := Aside0.mk A30
    clear A30
    replace H := Option.bind_eq_some_iff.mp H
    obtain ⟨t5015, A40, H⟩ := H
    replace H : ((spec_ChangedRegion.f k t5001 t5002 t5003 t5004 t5007 t5008 t5009 t5010).bind fun t5018 => ((laws_equalRuns.f k t5015 t5018).bind fun t5021 => (if t5021 = true then ((impl_ChangedRegion.f t5007 t5008 t5009 t5010 t5001 t5002 t5003 t5004).bind fun t5022 => ((laws_equalRuns.f k t5022 t5015).bind fun t5025 => (if t5025 = true then (laws_FnChangedRegion.j0 k t5015 ((t5015.length : Int) == 0) t5001 t5002 t5003 t5004 t5007 t5008 t5009 t5010) else (laws_FnChangedRegion.j0 k t5015 true t5001 t5002 t5003 t5004 t5007 t5008 t5009 t5010)))) else (laws_FnChangedRegion.j0 k t5015 true t5001 t5002 t5003 t5004 t5007 t5008 t5009 t5010)))) = some r := H
    have A4 := Aside0.mk A40
    clear A40
    have HC5 := Aside0.mk H
    clear H
    go_enter Try.func4, Try.ntmps4
    go_upto_region 5 with (first | ((with_reducible refine gate_callee (f := 20) rfl ?_); refine goesL_ (some 13) rfl rfl Try.func20 (by kernel_rfl) rfl #[.slice A0 l0.length c0] rfl (by (try simp only [List.map_toArray, List.map_cons, List.map_nil]); first | done | rfl | (simp only [List.length_drop, List.length_take]; rfl)) ?_; (with_reducible refine (spec_DrawChangedRegion.calls k _ _ l0 t5001 t5002 t5003 t5004 t5007 t5008 t5009 t5010 _ ?side1 ?side2 A3.out).mono ?_); (case side1 => repeat (first | exact HR0.out | (with_reducible refine Kd.C_alloc ?_ _) | (with_reducible refine Kd.C_drewN ?_ _) | (with_reducible refine Kd.C_drew ?_))); (case side2 => exact HC0.out); rintro e w6 ⟨v5005, v5011, rfl, ho0, ho1, hb⟩; refine ⟨_, rfl, ?_⟩; have n0_ := Aside0.mk (Kd.Q_lower ho0 (below_size (by repeat (first | (with_reducible first | exact HB.out | apply below_alloc | apply pw_below_drewN | apply below_drew1) | exact HB.out)))); have n1_ := Aside0.mk (Kd.Q_lower ho1 (below_size (by repeat (first | (with_reducible first | exact HB.out | apply below_alloc | apply pw_below_drewN | apply below_drew1) | exact HB.out)))); have n2_ := Aside0.mk (below_step (by repeat (first | (with_reducible first | exact HB.out | apply below_alloc | apply pw_below_drewN | apply below_drew1) | exact HB.out)) hb); clear HB; have HO5006 := n0_; have HO5012 := n1_; have HB := n2_; clear n0_ n1_ n2_; (try clear hb); (try clear hb2); (try clear hk); (try clear hi); (try clear ho0); (try clear ho1)) | ((with_reducible refine gate_dst (N := 3) rfl ?_); (try (refine gate_guard (by rfl) ?_; dsimp only)); refine box_event ?hg (N := 3) ?hd (cs := #[.int .i64 0, .int .i64 0, .int .i64 0, .slice none 0 0]) (t := 28) ?hr ?_; (case hd => rfl); (case hg => rfl); (case hr => first | (go_simp; done) | (go_simp; rfl)); intro gb5013 hg w7 hbox hb; have n0_ := Aside0.mk (Kd.Q_below (by (with_reducible repeat (first | apply Kd.Q_alloc | apply Kd.Q_drewN | apply Kd.Q_drew)); exact HO5006.out) hb); have n1_ := Aside0.mk (Kd.Q_below (by (with_reducible repeat (first | apply Kd.Q_alloc | apply Kd.Q_drewN | apply Kd.Q_drew)); exact HO5012.out) hb); have n2_ := Aside0.mk (below_step (by repeat (first | (with_reducible first | exact HB.out | apply below_alloc | apply pw_below_drewN | apply below_drew1) | exact HB.out)) hb); have n3_ := Aside0.mk (hbox); have n4_ := Aside0.mk ((by rw [hg]; exact (below_size (by repeat (first | (with_reducible first | exact HB.out | apply below_alloc | apply pw_below_drewN | apply below_drew1) | exact HB.out))) : w.heap.size ≤ gb5013)); have n5_ := Aside0.mk ((by rw [hg]; exact (below_size (by repeat (first | (with_reducible first | exact HB.out | apply below_alloc | apply pw_below_drewN | apply below_drew1) | exact HB.out))) : w.heap.size ≤ gb5013)); clear HO5006; clear HO5012; clear HB; have HO5006 := n0_; have HO5012 := n1_; have HB := n2_; have BK5013 := n3_; have GW5013 := n4_; have GE5013 := n5_; clear n0_ n1_ n2_ n3_ n4_ n5_; clear hb hbox hg) | ((with_reducible refine gate_dst (N := 4) rfl ?_); (try (refine gate_guard (by rfl) ?_; dsimp only)); refine box_event ?hg (N := 4) ?hd (cs := #[.int .i64 0, .int .i64 0, .int .i64 0, .slice none 0 0]) (t := 28) ?hr ?_; (case hd => rfl); (case hg => rfl); (case hr => first | (go_simp; done) | (go_simp; rfl)); intro gb5014 hg w8 hbox hb; have n0_ := Aside0.mk (Kd.Q_below (by (with_reducible repeat (first | apply Kd.Q_alloc | apply Kd.Q_drewN | apply Kd.Q_drew)); exact HO5006.out) hb); have n1_ := Aside0.mk (Kd.Q_below (by (with_reducible repeat (first | apply Kd.Q_alloc | apply Kd.Q_drewN | apply Kd.Q_drew)); exact HO5012.out) hb); have n2_ := Aside0.mk (blk_below (g := gb5013) (o := .cells #[.int .i64 0, .int .i64 0, .int .i64 0, .slice none 0 0] 28 (0, 0)) (by (with_reducible repeat (first | refine blk_drewN ?_ _ | refine blk_drew ?_ | refine blk_alloc ?_ _)); exact BK5013.out) hb); have n3_ := Aside0.mk (below_step (by repeat (first | (with_reducible first | exact HB.out | apply below_alloc | apply pw_below_drewN | apply below_drew1 | refine below_set ?_ GE5013.out) | exact HB.out)) hb); have n4_ := Aside0.mk (hbox); have n5_ := Aside0.mk ((by rw [hg]; exact (below_size (by repeat (first | (with_reducible first | exact HB.out | apply below_alloc | apply pw_below_drewN | apply below_drew1 | refine below_set ?_ GE5013.out) | exact HB.out))) : w.heap.size ≤ gb5014)); have n6_ := Aside0.mk ((by rw [hg]; exact (below_size (by repeat (first | (with_reducible first | exact HB.out | apply below_alloc | apply pw_below_drewN | apply below_drew1 | refine below_set ?_ GE5013.out) | exact HB.out))) : w.heap.size ≤ gb5014)); have n7_ := Aside0.mk ((by rw [hg]; exact Nat.ne_of_lt (blk_lt (g := gb5013) (o := .cells #[.int .i64 0, .int .i64 0, .int .i64 0, .slice none 0 0] 28 (0, 0)) (by (with_reducible repeat (first | refine blk_drewN ?_ _ | refine blk_drew ?_ | refine blk_alloc ?_ _)); exact BK5013.out)) : gb5013 ≠ gb5014)); have n8_ := Aside0.mk ((by rw [hg]; exact Nat.ne_of_gt (blk_lt (g := gb5013) (o := .cells #[.int .i64 0, .int .i64 0, .int .i64 0, .slice none 0 0] 28 (0, 0)) (by (with_reducible repeat (first | refine blk_drewN ?_ _ | refine blk_drew ?_ | refine blk_alloc ?_ _)); exact BK5013.out)) : gb5014 ≠ gb5013)); clear HO5006; clear HO5012; clear BK5013; clear HB; have HO5006 := n0_; have HO5012 := n1_; have BK5013 := n2_; have HB := n3_; have BK5014 := n4_; have GW5014 := n5_; have GE5014 := n6_; have NB5013_5014 := n7_; have NB5014_5013 := n8_; clear n0_ n1_ n2_ n3_ n4_ n5_ n6_ n7_ n8_; clear hb hbox hg; have hnb9 := NB5013_5014.out; have hnc9 := NB5014_5013.out; have hcz10_0 : w8.cell? ⟨gb5013, 0, none⟩ = some (.int .i64 0) := (blk_cell BK5013.out 0).trans rfl; have hcz10_1 : w8.cell? ⟨gb5013, 1, none⟩ = some (.int .i64 0) := (blk_cell BK5013.out 1).trans rfl; have hcz10_2 : w8.cell? ⟨gb5013, 2, none⟩ = some (.int .i64 0) := (blk_cell BK5013.out 2).trans rfl; have hcz10_3 : w8.cell? ⟨gb5013, 3, none⟩ = some (.slice none 0 0) := (blk_cell BK5013.out 3).trans rfl; have hfz10_0 := blk_frozen BK5013.out 0; have hfz10_1 := blk_frozen BK5013.out 1; have hfz10_2 := blk_frozen BK5013.out 2; have hfz10_3 := blk_frozen BK5013.out 3; obtain ⟨Ao11, co11, eo11, _⟩ := Kd.Q_slice HO5006.out; subst eo11; have hcz12_0 : w8.cell? ⟨gb5014, 0, none⟩ = some (.int .i64 0) := (blk_cell BK5014.out 0).trans rfl; have hcz12_1 : w8.cell? ⟨gb5014, 1, none⟩ = some (.int .i64 0) := (blk_cell BK5014.out 1).trans rfl; have hcz12_2 : w8.cell? ⟨gb5014, 2, none⟩ = some (.int .i64 0) := (blk_cell BK5014.out 2).trans rfl; have hcz12_3 : w8.cell? ⟨gb5014, 3, none⟩ = some (.slice none 0 0) := (blk_cell BK5014.out 3).trans rfl; have hfz12_0 := blk_frozen BK5014.out 0; have hfz12_1 := blk_frozen BK5014.out 1; have hfz12_2 := blk_frozen BK5014.out 2; have hfz12_3 := blk_frozen BK5014.out 3; obtain ⟨Ao13, co13, eo13, _⟩ := Kd.Q_slice HO5012.out; subst eo13) | ((with_reducible refine gate_callee (f := 14) rfl ?_); refine goesL_ (some 18) rfl rfl Try.func14 (by kernel_rfl) rfl #[.agg #[.int .i64 t5001, .int .i64 t5002, .int .i64 t5003, .slice Ao11 t5004.length co11], .agg #[.int .i64 t5007, .int .i64 t5008, .int .i64 t5009, .slice Ao13 t5010.length co13]] rfl (by (try simp only [List.map_toArray, List.map_cons, List.map_nil]); first | done | rfl | (simp only [List.length_drop, List.length_take]; rfl)) ?_; (with_reducible refine (impl_ChangedRegion.calls t5001 t5002 t5003 _ _ t5004 t5007 t5008 t5009 _ _ t5010 t5015 _ ?side1 ?side2 ?side3 ?side4 A4.out).mono ?_); (case side1 => refine (Kd.Q_reads' (e := 3) (base := w.heap.size) (ok := fun k_ => some k_ ≠ (.slice Ao13 t5010.length co13 : Value).ownBlock) (n := t5004.length) (c := co11) ?_).2.2; exact (by (with_reducible repeat (first | apply Kd.Q_alloc | apply Kd.Q_drewN | apply Kd.Q_drew)); exact (Kd.Q_mono (Kd.Q_mono (Kd.Q_far (p := ⟨gb5014, 3, none⟩) (Kd.Q_far (p := ⟨gb5014, 2, none⟩) (Kd.Q_far (p := ⟨gb5014, 1, none⟩) (Kd.Q_far (p := ⟨gb5014, 0, none⟩) (Kd.Q_far (p := ⟨gb5013, 3, none⟩) (Kd.Q_far (p := ⟨gb5013, 2, none⟩) (Kd.Q_far (p := ⟨gb5013, 1, none⟩) (Kd.Q_far (p := ⟨gb5013, 0, none⟩) (Kd.Q_types (Kd.Q_types HO5006.out BK5013.out (by decide)) BK5014.out (by decide)) (fun _ hk => hk.1.2) (.int .i64 t5001)) (fun _ hk => hk.1.2) (.int .i64 t5002)) (fun _ hk => hk.1.2) (.int .i64 t5003)) (fun _ hk => hk.1.2) (.slice Ao11 t5004.length co11)) (fun _ hk => hk.2) (.int .i64 t5007)) (fun _ hk => hk.2) (.int .i64 t5008)) (fun _ hk => hk.2) (.int .i64 t5009)) (fun _ hk => hk.2) (.slice Ao13 t5010.length co13)) (fun _ h_ => h_.1)) (fun _ h_ => h_.1)))); (case side2 => exact (Kd.Q_reads' HO5006.out).2.1); (case side3 => refine (Kd.Q_reads' (e := 3) (base := w.heap.size) (ok := fun k_ => some k_ ≠ (.slice Ao11 t5004.length co11 : Value).ownBlock) (n := t5010.length) (c := co13) ?_).2.2; exact (by (with_reducible repeat (first | apply Kd.Q_alloc | apply Kd.Q_drewN | apply Kd.Q_drew)); exact (Kd.Q_mono (Kd.Q_mono (Kd.Q_far (p := ⟨gb5014, 3, none⟩) (Kd.Q_far (p := ⟨gb5014, 2, none⟩) (Kd.Q_far (p := ⟨gb5014, 1, none⟩) (Kd.Q_far (p := ⟨gb5014, 0, none⟩) (Kd.Q_far (p := ⟨gb5013, 3, none⟩) (Kd.Q_far (p := ⟨gb5013, 2, none⟩) (Kd.Q_far (p := ⟨gb5013, 1, none⟩) (Kd.Q_far (p := ⟨gb5013, 0, none⟩) (Kd.Q_types (Kd.Q_types HO5012.out BK5013.out (by decide)) BK5014.out (by decide)) (fun _ hk => hk.1.2) (.int .i64 t5001)) (fun _ hk => hk.1.2) (.int .i64 t5002)) (fun _ hk => hk.1.2) (.int .i64 t5003)) (fun _ hk => hk.1.2) (.slice Ao11 t5004.length co11)) (fun _ hk => hk.2) (.int .i64 t5007)) (fun _ hk => hk.2) (.int .i64 t5008)) (fun _ hk => hk.2) (.int .i64 t5009)) (fun _ hk => hk.2) (.slice Ao13 t5010.length co13)) (fun _ h_ => h_.1)) (fun _ h_ => h_.1)))); (case side4 => exact (Kd.Q_reads' HO5012.out).2.1); rintro e w14 ⟨v5016, rfl, ho0, hb⟩; refine ⟨_, rfl, ?_⟩; have n0_ := Aside0.mk (Kd.Q_below (by (with_reducible repeat (first | apply Kd.Q_alloc | apply Kd.Q_drewN | apply Kd.Q_drew)); exact (Kd.Q_mono (Kd.Q_mono (Kd.Q_far (p := ⟨gb5014, 3, none⟩) (Kd.Q_far (p := ⟨gb5014, 2, none⟩) (Kd.Q_far (p := ⟨gb5014, 1, none⟩) (Kd.Q_far (p := ⟨gb5014, 0, none⟩) (Kd.Q_far (p := ⟨gb5013, 3, none⟩) (Kd.Q_far (p := ⟨gb5013, 2, none⟩) (Kd.Q_far (p := ⟨gb5013, 1, none⟩) (Kd.Q_far (p := ⟨gb5013, 0, none⟩) (Kd.Q_types (Kd.Q_types HO5006.out BK5013.out (by decide)) BK5014.out (by decide)) (fun _ hk => hk.1.2) (.int .i64 t5001)) (fun _ hk => hk.1.2) (.int .i64 t5002)) (fun _ hk => hk.1.2) (.int .i64 t5003)) (fun _ hk => hk.1.2) (.slice Ao11 t5004.length co11)) (fun _ hk => hk.2) (.int .i64 t5007)) (fun _ hk => hk.2) (.int .i64 t5008)) (fun _ hk => hk.2) (.int .i64 t5009)) (fun _ hk => hk.2) (.slice Ao13 t5010.length co13)) (fun _ h_ => h_.1)) (fun _ h_ => h_.1))) hb); have n1_ := Aside0.mk (Kd.Q_below (by (with_reducible repeat (first | apply Kd.Q_alloc | apply Kd.Q_drewN | apply Kd.Q_drew)); exact (Kd.Q_mono (Kd.Q_mono (Kd.Q_far (p := ⟨gb5014, 3, none⟩) (Kd.Q_far (p := ⟨gb5014, 2, none⟩) (Kd.Q_far (p := ⟨gb5014, 1, none⟩) (Kd.Q_far (p := ⟨gb5014, 0, none⟩) (Kd.Q_far (p := ⟨gb5013, 3, none⟩) (Kd.Q_far (p := ⟨gb5013, 2, none⟩) (Kd.Q_far (p := ⟨gb5013, 1, none⟩) (Kd.Q_far (p := ⟨gb5013, 0, none⟩) (Kd.Q_types (Kd.Q_types HO5012.out BK5013.out (by decide)) BK5014.out (by decide)) (fun _ hk => hk.1.2) (.int .i64 t5001)) (fun _ hk => hk.1.2) (.int .i64 t5002)) (fun _ hk => hk.1.2) (.int .i64 t5003)) (fun _ hk => hk.1.2) (.slice Ao11 t5004.length co11)) (fun _ hk => hk.2) (.int .i64 t5007)) (fun _ hk => hk.2) (.int .i64 t5008)) (fun _ hk => hk.2) (.int .i64 t5009)) (fun _ hk => hk.2) (.slice Ao13 t5010.length co13)) (fun _ h_ => h_.1)) (fun _ h_ => h_.1))) hb); have n2_ := Aside0.mk (Kd.R_lower ho0 (below_size (by repeat (first | (with_reducible first | exact HB.out | apply below_alloc | apply pw_below_drewN | apply below_drew1 | refine below_set ?_ GE5013.out | refine below_set ?_ GE5014.out) | exact HB.out)))); have n3_ := Aside0.mk (blk_below (g := gb5013) (o := .cells #[.int .i64 t5001, .int .i64 t5002, .int .i64 t5003, .slice Ao11 t5004.length co11] 28 (0, 0)) (by (with_reducible repeat (first | refine blk_drewN ?_ _ | refine blk_drew ?_ | refine blk_alloc ?_ _)); refine blk_far ?_ NB5013_5014.out _; (with_reducible repeat (first | refine blk_drewN ?_ _ | refine blk_drew ?_ | refine blk_alloc ?_ _)); refine blk_far ?_ NB5013_5014.out _; (with_reducible repeat (first | refine blk_drewN ?_ _ | refine blk_drew ?_ | refine blk_alloc ?_ _)); refine blk_far ?_ NB5013_5014.out _; (with_reducible repeat (first | refine blk_drewN ?_ _ | refine blk_drew ?_ | refine blk_alloc ?_ _)); refine blk_far ?_ NB5013_5014.out _; (with_reducible repeat (first | refine blk_drewN ?_ _ | refine blk_drew ?_ | refine blk_alloc ?_ _)); refine blk_put (cs := #[.int .i64 t5001, .int .i64 t5002, .int .i64 t5003, .slice none 0 0]) ?_ 3 _ rfl; (with_reducible repeat (first | refine blk_drewN ?_ _ | refine blk_drew ?_ | refine blk_alloc ?_ _)); refine blk_put (cs := #[.int .i64 t5001, .int .i64 t5002, .int .i64 0, .slice none 0 0]) ?_ 2 _ rfl; (with_reducible repeat (first | refine blk_drewN ?_ _ | refine blk_drew ?_ | refine blk_alloc ?_ _)); refine blk_put (cs := #[.int .i64 t5001, .int .i64 0, .int .i64 0, .slice none 0 0]) ?_ 1 _ rfl; (with_reducible repeat (first | refine blk_drewN ?_ _ | refine blk_drew ?_ | refine blk_alloc ?_ _)); refine blk_put (cs := #[.int .i64 0, .int .i64 0, .int .i64 0, .slice none 0 0]) ?_ 0 _ rfl; (with_reducible repeat (first | refine blk_drewN ?_ _ | refine blk_drew ?_ | refine blk_alloc ?_ _)); exact BK5013.out) hb); have n4_ := Aside0.mk (blk_below (g := gb5014) (o := .cells #[.int .i64 t5007, .int .i64 t5008, .int .i64 t5009, .slice Ao13 t5010.length co13] 28 (0, 0)) (by (with_reducible repeat (first | refine blk_drewN ?_ _ | refine blk_drew ?_ | refine blk_alloc ?_ _)); refine blk_put (cs := #[.int .i64 t5007, .int .i64 t5008, .int .i64 t5009, .slice none 0 0]) ?_ 3 _ rfl; (with_reducible repeat (first | refine blk_drewN ?_ _ | refine blk_drew ?_ | refine blk_alloc ?_ _)); refine blk_put (cs := #[.int .i64 t5007, .int .i64 t5008, .int .i64 0, .slice none 0 0]) ?_ 2 _ rfl; (with_reducible repeat (first | refine blk_drewN ?_ _ | refine blk_drew ?_ | refine blk_alloc ?_ _)); refine blk_put (cs := #[.int .i64 t5007, .int .i64 0, .int .i64 0, .slice none 0 0]) ?_ 1 _ rfl; (with_reducible repeat (first | refine blk_drewN ?_ _ | refine blk_drew ?_ | refine blk_alloc ?_ _)); refine blk_put (cs := #[.int .i64 0, .int .i64 0, .int .i64 0, .slice none 0 0]) ?_ 0 _ rfl; (with_reducible repeat (first | refine blk_drewN ?_ _ | refine blk_drew ?_ | refine blk_alloc ?_ _)); refine blk_far ?_ NB5014_5013.out _; (with_reducible repeat (first | refine blk_drewN ?_ _ | refine blk_drew ?_ | refine blk_alloc ?_ _)); refine blk_far ?_ NB5014_5013.out _; (with_reducible repeat (first | refine blk_drewN ?_ _ | refine blk_drew ?_ | refine blk_alloc ?_ _)); refine blk_far ?_ NB5014_5013.out _; (with_reducible repeat (first | refine blk_drewN ?_ _ | refine blk_drew ?_ | refine blk_alloc ?_ _)); refine blk_far ?_ NB5014_5013.out _; (with_reducible repeat (first | refine blk_drewN ?_ _ | refine blk_drew ?_ | refine blk_alloc ?_ _)); exact BK5014.out) hb); have n5_ := Aside0.mk (below_step (by repeat (first | (with_reducible first | exact HB.out | apply below_alloc | apply pw_below_drewN | apply below_drew1 | refine below_set ?_ GE5013.out | refine below_set ?_ GE5014.out) | exact HB.out)) hb); clear HO5006; clear HO5012; clear BK5013; clear BK5014; clear HB; have HO5006 := n0_; have HO5012 := n1_; have HO5017 := n2_; have BK5013 := n3_; have BK5014 := n4_; have HB := n5_; clear n0_ n1_ n2_ n3_ n4_ n5_; (try clear hb); (try clear hb2); (try clear hk); (try clear hi); (try clear ho0)))
    (try simp only [Act.put, List.setIfInBounds_toArray, List.set_cons_zero, List.set_cons_succ])
    go_cut [37] (fun v37 wc => ∃ (kq : Nat) (x37_4 : Bool), v37 = .bool x37_4 ∧ Aside0 (laws_FnChangedRegion.j0 kq t5015 x37_4 t5001 t5002 t5003 t5004 t5007 t5008 t5009 t5010 = some r) ∧ Aside0 (kq ≤ k) ∧ Aside0 (Kd.R k47 47 wc w.heap.size (fun _ => True) v5016 t5015) ∧ Aside0 (Kd.Q (Kd.int .i64) 3 wc w.heap.size (fun k_ => some k_ ≠ ((.slice Ao13 t5010.length co13) : Value).ownBlock) (.slice Ao11 t5004.length co11) t5004) ∧ Aside0 (Kd.Q (Kd.int .i64) 3 wc w.heap.size (fun k_ => some k_ ≠ ((.slice Ao11 t5004.length co11) : Value).ownBlock) (.slice Ao13 t5010.length co13) t5010) ∧ Aside0 (wc.heap[gb5013]? = some (.cells #[.int .i64 t5001, .int .i64 t5002, .int .i64 t5003, (.slice Ao11 t5004.length co11)] 28 (0, 0))) ∧ Aside0 (wc.heap[gb5014]? = some (.cells #[.int .i64 t5007, .int .i64 t5008, .int .i64 t5009, (.slice Ao13 t5010.length co13)] 28 (0, 0))) ∧ Aside0 (Below w.heap.size w wc))
    case first =>
      have H := HC5.out
      clear HC5
      replace H := Option.bind_eq_some_iff.mp H
      obtain ⟨t5018, A150, H⟩ := H
      replace H : ((laws_equalRuns.f k t5015 t5018).bind fun t5021 => (if t5021 = true then ((impl_ChangedRegion.f t5007 t5008 t5009 t5010 t5001 t5002 t5003 t5004).bind fun t5022 => ((laws_equalRuns.f k t5022 t5015).bind fun t5025 => (if t5025 = true then (laws_FnChangedRegion.j0 k t5015 ((t5015.length : Int) == 0) t5001 t5002 t5003 t5004 t5007 t5008 t5009 t5010) else (laws_FnChangedRegion.j0 k t5015 true t5001 t5002 t5003 t5004 t5007 t5008 t5009 t5010)))) else (laws_FnChangedRegion.j0 k t5015 true t5001 t5002 t5003 t5004 t5007 t5008 t5009 t5010))) = some r := H
      have A15 := Aside0.mk A150
      clear A150
      replace H := Option.bind_eq_some_iff.mp H
      obtain ⟨t5021, A160, H⟩ := H
      replace H : (if t5021 = true then ((impl_ChangedRegion.f t5007 t5008 t5009 t5010 t5001 t5002 t5003 t5004).bind fun t5022 => ((laws_equalRuns.f k t5022 t5015).bind fun t5025 => (if t5025 = true then (laws_FnChangedRegion.j0 k t5015 ((t5015.length : Int) == 0) t5001 t5002 t5003 t5004 t5007 t5008 t5009 t5010) else (laws_FnChangedRegion.j0 k t5015 true t5001 t5002 t5003 t5004 t5007 t5008 t5009 t5010)))) else (laws_FnChangedRegion.j0 k t5015 true t5001 t5002 t5003 t5004 t5007 t5008 t5009 t5010)) = some r := H
      have A16 := Aside0.mk A160
      clear A160
      by_cases c17 : t5021 = true
      · subst c17
        have H1 : ((impl_ChangedRegion.f t5007 t5008 t5009 t5010 t5001 t5002 t5003 t5004).bind fun t5022 => ((laws_equalRuns.f k t5022 t5015).bind fun t5025 => (if t5025 = true then (laws_FnChangedRegion.j0 k t5015 ((t5015.length : Int) == 0) t5001 t5002 t5003 t5004 t5007 t5008 t5009 t5010) else (laws_FnChangedRegion.j0 k t5015 true t5001 t5002 t5003 t5004 t5007 t5008 t5009 t5010)))) = some r := by rw [if_pos rfl] at H; exact H
        clear H
        have H := H1
        clear H1
        replace H := Option.bind_eq_some_iff.mp H
        obtain ⟨t5022, A180, H⟩ := H
        replace H : ((laws_equalRuns.f k t5022 t5015).bind fun t5025 => (if t5025 = true then (laws_FnChangedRegion.j0 k t5015 ((t5015.length : Int) == 0) t5001 t5002 t5003 t5004 t5007 t5008 t5009 t5010) else (laws_FnChangedRegion.j0 k t5015 true t5001 t5002 t5003 t5004 t5007 t5008 t5009 t5010))) = some r := H
        have A18 := Aside0.mk A180
        clear A180
        replace H := Option.bind_eq_some_iff.mp H
        obtain ⟨t5025, A190, H⟩ := H
        replace H : (if t5025 = true then (laws_FnChangedRegion.j0 k t5015 ((t5015.length : Int) == 0) t5001 t5002 t5003 t5004 t5007 t5008 t5009 t5010) else (laws_FnChangedRegion.j0 k t5015 true t5001 t5002 t5003 t5004 t5007 t5008 t5009 t5010)) = some r := H
        have A19 := Aside0.mk A190
        clear A190
        by_cases c20 : t5025 = true
        · subst c20
          have H1 : (laws_FnChangedRegion.j0 k t5015 ((t5015.length : Int) == 0) t5001 t5002 t5003 t5004 t5007 t5008 t5009 t5010) = some r := by rw [if_pos rfl] at H; exact H
          clear H
          have H := H1
          clear H1
          have H' := Aside0.mk H
          clear H
          have hnb21 := NB5013_5014.out
          have hnc21 := NB5014_5013.out
          have hcz22_0 : w14.cell? ⟨gb5013, 0, none⟩ = some (.int .i64 t5001) := (blk_cell BK5013.out 0).trans rfl
          have hcz22_1 : w14.cell? ⟨gb5013, 1, none⟩ = some (.int .i64 t5002) := (blk_cell BK5013.out 1).trans rfl
          have hcz22_2 : w14.cell? ⟨gb5013, 2, none⟩ = some (.int .i64 t5003) := (blk_cell BK5013.out 2).trans rfl
          have hcz22_3 : w14.cell? ⟨gb5013, 3, none⟩ = some (.slice Ao11 t5004.length co11) := (blk_cell BK5013.out 3).trans rfl
          have hfz22_0 := blk_frozen BK5013.out 0
          have hfz22_1 := blk_frozen BK5013.out 1
          have hfz22_2 := blk_frozen BK5013.out 2
          have hfz22_3 := blk_frozen BK5013.out 3
          have hcz23_0 : w14.cell? ⟨gb5014, 0, none⟩ = some (.int .i64 t5007) := (blk_cell BK5014.out 0).trans rfl
          have hcz23_1 : w14.cell? ⟨gb5014, 1, none⟩ = some (.int .i64 t5008) := (blk_cell BK5014.out 1).trans rfl
          have hcz23_2 : w14.cell? ⟨gb5014, 2, none⟩ = some (.int .i64 t5009) := (blk_cell BK5014.out 2).trans rfl
          have hcz23_3 : w14.cell? ⟨gb5014, 3, none⟩ = some (.slice Ao13 t5010.length co13) := (blk_cell BK5014.out 3).trans rfl
          have hfz23_0 := blk_frozen BK5014.out 0
          have hfz23_1 := blk_frozen BK5014.out 1
          have hfz23_2 := blk_frozen BK5014.out 2
          have hfz23_3 := blk_frozen BK5014.out 3
          go_wp2_with (first | ((with_reducible refine gate_callee (f := 12) rfl ?_); refine goesL_ (some 22) rfl rfl Try.func12 (by kernel_rfl) rfl #[.agg #[.int .i64 t5001, .int .i64 t5002, .int .i64 t5003, .slice Ao11 t5004.length co11], .agg #[.int .i64 t5007, .int .i64 t5008, .int .i64 t5009, .slice Ao13 t5010.length co13]] rfl (by (try simp only [List.map_toArray, List.map_cons, List.map_nil]); first | done | rfl | (simp only [List.length_drop, List.length_take]; rfl)) ?_; (with_reducible refine (spec_ChangedRegion.calls k t5001 t5002 t5003 _ _ t5004 t5007 t5008 t5009 _ _ t5010 t5018 _ ?side1 ?side2 ?side3 ?side4 A15.out).mono ?_); (case side1 => repeat (first | exact (Kd.Q_reads' HO5006.out).2.2 | (with_reducible refine Kd.C_alloc ?_ _) | (with_reducible refine Kd.C_drewN ?_ _) | (with_reducible refine Kd.C_drew ?_))); (case side2 => exact (Kd.Q_reads' HO5006.out).2.1); (case side3 => repeat (first | exact (Kd.Q_reads' HO5012.out).2.2 | (with_reducible refine Kd.C_alloc ?_ _) | (with_reducible refine Kd.C_drewN ?_ _) | (with_reducible refine Kd.C_drew ?_))); (case side4 => exact (Kd.Q_reads' HO5012.out).2.1); rintro e w24 ⟨v5019, rfl, ho0, hb⟩; refine ⟨_, rfl, ?_⟩; have n0_ := Aside0.mk (Kd.Q_below (by (with_reducible repeat (first | apply Kd.Q_alloc | apply Kd.Q_drewN | apply Kd.Q_drew)); exact HO5006.out) hb); have n1_ := Aside0.mk (Kd.Q_below (by (with_reducible repeat (first | apply Kd.Q_alloc | apply Kd.Q_drewN | apply Kd.Q_drew)); exact HO5012.out) hb); have n2_ := Aside0.mk (Kd.R_elder' (by (with_reducible repeat (first | apply Kd.R_alloc | apply Kd.R_drewN | apply Kd.R_drew)); exact HO5017.out) (Kd.R_base ho0) hb); have n3_ := Aside0.mk (Kd.R_lower (Kd.R_new' ho0 (Kd.R_lt (by (with_reducible repeat (first | apply Kd.R_alloc | apply Kd.R_drewN | apply Kd.R_drew)); exact HO5017.out))) (below_size (by repeat (first | (with_reducible first | exact HB.out | apply below_alloc | apply pw_below_drewN | apply below_drew1 | refine below_set ?_ GE5013.out | refine below_set ?_ GE5014.out) | exact HB.out)))); have n4_ := Aside0.mk (blk_below (g := gb5013) (o := .cells #[.int .i64 t5001, .int .i64 t5002, .int .i64 t5003, .slice Ao11 t5004.length co11] 28 (0, 0)) (by (with_reducible repeat (first | refine blk_drewN ?_ _ | refine blk_drew ?_ | refine blk_alloc ?_ _)); exact BK5013.out) hb); have n5_ := Aside0.mk (blk_below (g := gb5014) (o := .cells #[.int .i64 t5007, .int .i64 t5008, .int .i64 t5009, .slice Ao13 t5010.length co13] 28 (0, 0)) (by (with_reducible repeat (first | refine blk_drewN ?_ _ | refine blk_drew ?_ | refine blk_alloc ?_ _)); exact BK5014.out) hb); have n6_ := Aside0.mk (below_step (by repeat (first | (with_reducible first | exact HB.out | apply below_alloc | apply pw_below_drewN | apply below_drew1 | refine below_set ?_ GE5013.out | refine below_set ?_ GE5014.out) | exact HB.out)) hb); clear HO5006; clear HO5012; clear HO5017; clear BK5013; clear BK5014; clear HB; have HO5006 := n0_; have HO5012 := n1_; have HO5017 := n2_; have HO5020 := n3_; have BK5013 := n4_; have BK5014 := n5_; have HB := n6_; clear n0_ n1_ n2_ n3_ n4_ n5_ n6_; (try clear hb); (try clear hb2); (try clear hk); (try clear hi); (try clear ho0); obtain ⟨Ao25, co25, eo25⟩ := Kd.R_slice HO5017.out; subst eo25; obtain ⟨Ao26, co26, eo26⟩ := Kd.R_slice HO5020.out; subst eo26) | ((with_reducible refine gate_callee (f := 21) rfl ?_); refine goesL_ (some 23) rfl rfl Try.func21 (by kernel_rfl) rfl #[.slice Ao25 t5015.length co25, .slice Ao26 t5018.length co26] rfl (by (try simp only [List.map_toArray, List.map_cons, List.map_nil]); first | done | rfl | (simp only [List.length_drop, List.length_take]; rfl)) ?_; (with_reducible refine (laws_equalRuns.calls k _ _ t5015 _ _ t5018 true _ ?side1 ?side2 ?side3 ?side4 A16.out).mono ?_); (case side1 => repeat (first | exact (Kd.R_reads' HO5017.out).2.2 | (with_reducible refine Kd.C_alloc ?_ _) | (with_reducible refine Kd.C_drewN ?_ _) | (with_reducible refine Kd.C_drew ?_))); (case side2 => exact (Kd.R_reads' HO5017.out).2.1); (case side3 => repeat (first | exact (Kd.R_reads' HO5020.out).2.2 | (with_reducible refine Kd.C_alloc ?_ _) | (with_reducible refine Kd.C_drewN ?_ _) | (with_reducible refine Kd.C_drew ?_))); (case side4 => exact (Kd.R_reads' HO5020.out).2.1); rintro e w' ⟨rfl, ⟨nd, rfl⟩⟩; refine ⟨_, rfl, ?_⟩; have hcz27_0 : w24.cell? ⟨gb5014, 0, none⟩ = some (.int .i64 t5007) := (blk_cell BK5014.out 0).trans rfl; have hcz27_1 : w24.cell? ⟨gb5014, 1, none⟩ = some (.int .i64 t5008) := (blk_cell BK5014.out 1).trans rfl; have hcz27_2 : w24.cell? ⟨gb5014, 2, none⟩ = some (.int .i64 t5009) := (blk_cell BK5014.out 2).trans rfl; have hcz27_3 : w24.cell? ⟨gb5014, 3, none⟩ = some (.slice Ao13 t5010.length co13) := (blk_cell BK5014.out 3).trans rfl; have hfz27_0 := blk_frozen BK5014.out 0; have hfz27_1 := blk_frozen BK5014.out 1; have hfz27_2 := blk_frozen BK5014.out 2; have hfz27_3 := blk_frozen BK5014.out 3; have hcz28_0 : w24.cell? ⟨gb5013, 0, none⟩ = some (.int .i64 t5001) := (blk_cell BK5013.out 0).trans rfl; have hcz28_1 : w24.cell? ⟨gb5013, 1, none⟩ = some (.int .i64 t5002) := (blk_cell BK5013.out 1).trans rfl; have hcz28_2 : w24.cell? ⟨gb5013, 2, none⟩ = some (.int .i64 t5003) := (blk_cell BK5013.out 2).trans rfl; have hcz28_3 : w24.cell? ⟨gb5013, 3, none⟩ = some (.slice Ao11 t5004.length co11) := (blk_cell BK5013.out 3).trans rfl; have hfz28_0 := blk_frozen BK5013.out 0; have hfz28_1 := blk_frozen BK5013.out 1; have hfz28_2 := blk_frozen BK5013.out 2; have hfz28_3 := blk_frozen BK5013.out 3) | (go_at_call 14; (with_reducible refine (impl_ChangedRegion.calls t5007 t5008 t5009 _ _ t5010 t5001 t5002 t5003 _ _ t5004 t5022 _ ?side1 ?side2 ?side3 ?side4 A18.out).mono ?_); (case side1 => repeat (first | exact (Kd.Q_reads' HO5012.out).2.2 | (with_reducible refine Kd.C_alloc ?_ _) | (with_reducible refine Kd.C_drewN ?_ _) | (with_reducible refine Kd.C_drew ?_))); (case side2 => exact (Kd.Q_reads' HO5012.out).2.1); (case side3 => repeat (first | exact (Kd.Q_reads' HO5006.out).2.2 | (with_reducible refine Kd.C_alloc ?_ _) | (with_reducible refine Kd.C_drewN ?_ _) | (with_reducible refine Kd.C_drew ?_))); (case side4 => exact (Kd.Q_reads' HO5006.out).2.1); rintro e w29 ⟨v5023, rfl, ho0, hb⟩; have n0_ := Aside0.mk (Kd.Q_below (by (with_reducible repeat (first | apply Kd.Q_alloc | apply Kd.Q_drewN | apply Kd.Q_drew)); exact HO5006.out) hb); have n1_ := Aside0.mk (Kd.Q_below (by (with_reducible repeat (first | apply Kd.Q_alloc | apply Kd.Q_drewN | apply Kd.Q_drew)); exact HO5012.out) hb); have n2_ := Aside0.mk (Kd.R_elder' (by (with_reducible repeat (first | apply Kd.R_alloc | apply Kd.R_drewN | apply Kd.R_drew)); exact HO5017.out) (Kd.R_base ho0) hb); have n3_ := Aside0.mk (Kd.R_elder' (by (with_reducible repeat (first | apply Kd.R_alloc | apply Kd.R_drewN | apply Kd.R_drew)); exact HO5020.out) (Kd.R_base ho0) hb); have n4_ := Aside0.mk (Kd.R_lower (Kd.R_new' (Kd.R_new' ho0 (Kd.R_lt (by (with_reducible repeat (first | apply Kd.R_alloc | apply Kd.R_drewN | apply Kd.R_drew)); exact HO5017.out))) (Kd.R_lt (by (with_reducible repeat (first | apply Kd.R_alloc | apply Kd.R_drewN | apply Kd.R_drew)); exact HO5020.out))) (below_size (by repeat (first | (with_reducible first | exact HB.out | apply below_alloc | apply pw_below_drewN | apply below_drew1 | refine below_set ?_ GE5013.out | refine below_set ?_ GE5014.out) | exact HB.out)))); have n5_ := Aside0.mk (blk_below (g := gb5013) (o := .cells #[.int .i64 t5001, .int .i64 t5002, .int .i64 t5003, .slice Ao11 t5004.length co11] 28 (0, 0)) (by (with_reducible repeat (first | refine blk_drewN ?_ _ | refine blk_drew ?_ | refine blk_alloc ?_ _)); exact BK5013.out) hb); have n6_ := Aside0.mk (blk_below (g := gb5014) (o := .cells #[.int .i64 t5007, .int .i64 t5008, .int .i64 t5009, .slice Ao13 t5010.length co13] 28 (0, 0)) (by (with_reducible repeat (first | refine blk_drewN ?_ _ | refine blk_drew ?_ | refine blk_alloc ?_ _)); exact BK5014.out) hb); have n7_ := Aside0.mk (below_step (by repeat (first | (with_reducible first | exact HB.out | apply below_alloc | apply pw_below_drewN | apply below_drew1 | refine below_set ?_ GE5013.out | refine below_set ?_ GE5014.out) | exact HB.out)) hb); clear HO5006; clear HO5012; clear HO5017; clear HO5020; clear BK5013; clear BK5014; clear HB; have HO5006 := n0_; have HO5012 := n1_; have HO5017 := n2_; have HO5020 := n3_; have HO5024 := n4_; have BK5013 := n5_; have BK5014 := n6_; have HB := n7_; clear n0_ n1_ n2_ n3_ n4_ n5_ n6_ n7_; (try clear hb); (try clear hb2); (try clear hk); (try clear hi); (try clear ho0); obtain ⟨Ao30, co30, eo30⟩ := Kd.R_slice HO5024.out; subst eo30) | (go_at_call 21; (with_reducible refine (laws_equalRuns.calls k _ _ t5022 _ _ t5015 true _ ?side1 ?side2 ?side3 ?side4 A19.out).mono ?_); (case side1 => repeat (first | exact (Kd.R_reads' HO5024.out).2.2 | (with_reducible refine Kd.C_alloc ?_ _) | (with_reducible refine Kd.C_drewN ?_ _) | (with_reducible refine Kd.C_drew ?_))); (case side2 => exact (Kd.R_reads' HO5024.out).2.1); (case side3 => repeat (first | exact (Kd.R_reads' HO5017.out).2.2 | (with_reducible refine Kd.C_alloc ?_ _) | (with_reducible refine Kd.C_drewN ?_ _) | (with_reducible refine Kd.C_drew ?_))); (case side4 => exact (Kd.R_reads' HO5017.out).2.1); rintro e w' ⟨rfl, ⟨nd, rfl⟩⟩))
          go_meet
          case rel => exact ⟨_, (((t5015.length : Int) == 0)), (by first | rfl | (simp; done) | (simp [*]; done)), H', ⟨by first | omega | exact Nat.le_refl _⟩, ⟨by (with_reducible repeat (first | apply Kd.R_alloc | apply Kd.R_drewN | apply Kd.R_drew)); exact Kd.R_mono HO5017.out (fun _ hk => trivial)⟩, ⟨by (with_reducible repeat (first | apply Kd.Q_alloc | apply Kd.Q_drewN | apply Kd.Q_drew)); exact HO5006.out⟩, ⟨by (with_reducible repeat (first | apply Kd.Q_alloc | apply Kd.Q_drewN | apply Kd.Q_drew)); exact HO5012.out⟩, ⟨by (with_reducible repeat (first | refine blk_drewN ?_ _ | refine blk_drew ?_ | refine blk_alloc ?_ _)); exact BK5013.out⟩, ⟨by (with_reducible repeat (first | refine blk_drewN ?_ _ | refine blk_drew ?_ | refine blk_alloc ?_ _)); exact BK5014.out⟩, ⟨by repeat (first | (with_reducible first | exact HB.out | apply below_alloc | apply pw_below_drewN | apply below_drew1 | refine below_set ?_ GE5013.out | refine below_set ?_ GE5014.out) | exact HB.out)⟩⟩
        · replace c20 := Bool.eq_false_iff.mpr c20
          subst c20
          have H1 : (laws_FnChangedRegion.j0 k t5015 true t5001 t5002 t5003 t5004 t5007 t5008 t5009 t5010) = some r := by rw [if_neg (show ¬ (false = true) by decide)] at H; exact H
          clear H
          have H := H1
          clear H1
          have H' := Aside0.mk H
          clear H
          have hnb31 := NB5013_5014.out
          have hnc31 := NB5014_5013.out
          have hcz32_0 : w14.cell? ⟨gb5013, 0, none⟩ = some (.int .i64 t5001) := (blk_cell BK5013.out 0).trans rfl
          have hcz32_1 : w14.cell? ⟨gb5013, 1, none⟩ = some (.int .i64 t5002) := (blk_cell BK5013.out 1).trans rfl
          have hcz32_2 : w14.cell? ⟨gb5013, 2, none⟩ = some (.int .i64 t5003) := (blk_cell BK5013.out 2).trans rfl
          have hcz32_3 : w14.cell? ⟨gb5013, 3, none⟩ = some (.slice Ao11 t5004.length co11) := (blk_cell BK5013.out 3).trans rfl
          have hfz32_0 := blk_frozen BK5013.out 0
          have hfz32_1 := blk_frozen BK5013.out 1
          have hfz32_2 := blk_frozen BK5013.out 2
          have hfz32_3 := blk_frozen BK5013.out 3
          have hcz33_0 : w14.cell? ⟨gb5014, 0, none⟩ = some (.int .i64 t5007) := (blk_cell BK5014.out 0).trans rfl
          have hcz33_1 : w14.cell? ⟨gb5014, 1, none⟩ = some (.int .i64 t5008) := (blk_cell BK5014.out 1).trans rfl
          have hcz33_2 : w14.cell? ⟨gb5014, 2, none⟩ = some (.int .i64 t5009) := (blk_cell BK5014.out 2).trans rfl
          have hcz33_3 : w14.cell? ⟨gb5014, 3, none⟩ = some (.slice Ao13 t5010.length co13) := (blk_cell BK5014.out 3).trans rfl
          have hfz33_0 := blk_frozen BK5014.out 0
          have hfz33_1 := blk_frozen BK5014.out 1
          have hfz33_2 := blk_frozen BK5014.out 2
          have hfz33_3 := blk_frozen BK5014.out 3
          go_wp2_with (first | ((with_reducible refine gate_callee (f := 12) rfl ?_); refine goesL_ (some 22) rfl rfl Try.func12 (by kernel_rfl) rfl #[.agg #[.int .i64 t5001, .int .i64 t5002, .int .i64 t5003, .slice Ao11 t5004.length co11], .agg #[.int .i64 t5007, .int .i64 t5008, .int .i64 t5009, .slice Ao13 t5010.length co13]] rfl (by (try simp only [List.map_toArray, List.map_cons, List.map_nil]); first | done | rfl | (simp only [List.length_drop, List.length_take]; rfl)) ?_; (with_reducible refine (spec_ChangedRegion.calls k t5001 t5002 t5003 _ _ t5004 t5007 t5008 t5009 _ _ t5010 t5018 _ ?side1 ?side2 ?side3 ?side4 A15.out).mono ?_); (case side1 => repeat (first | exact (Kd.Q_reads' HO5006.out).2.2 | (with_reducible refine Kd.C_alloc ?_ _) | (with_reducible refine Kd.C_drewN ?_ _) | (with_reducible refine Kd.C_drew ?_))); (case side2 => exact (Kd.Q_reads' HO5006.out).2.1); (case side3 => repeat (first | exact (Kd.Q_reads' HO5012.out).2.2 | (with_reducible refine Kd.C_alloc ?_ _) | (with_reducible refine Kd.C_drewN ?_ _) | (with_reducible refine Kd.C_drew ?_))); (case side4 => exact (Kd.Q_reads' HO5012.out).2.1); rintro e w34 ⟨v5019, rfl, ho0, hb⟩; refine ⟨_, rfl, ?_⟩; have n0_ := Aside0.mk (Kd.Q_below (by (with_reducible repeat (first | apply Kd.Q_alloc | apply Kd.Q_drewN | apply Kd.Q_drew)); exact HO5006.out) hb); have n1_ := Aside0.mk (Kd.Q_below (by (with_reducible repeat (first | apply Kd.Q_alloc | apply Kd.Q_drewN | apply Kd.Q_drew)); exact HO5012.out) hb); have n2_ := Aside0.mk (Kd.R_elder' (by (with_reducible repeat (first | apply Kd.R_alloc | apply Kd.R_drewN | apply Kd.R_drew)); exact HO5017.out) (Kd.R_base ho0) hb); have n3_ := Aside0.mk (Kd.R_lower (Kd.R_new' ho0 (Kd.R_lt (by (with_reducible repeat (first | apply Kd.R_alloc | apply Kd.R_drewN | apply Kd.R_drew)); exact HO5017.out))) (below_size (by repeat (first | (with_reducible first | exact HB.out | apply below_alloc | apply pw_below_drewN | apply below_drew1 | refine below_set ?_ GE5013.out | refine below_set ?_ GE5014.out) | exact HB.out)))); have n4_ := Aside0.mk (blk_below (g := gb5013) (o := .cells #[.int .i64 t5001, .int .i64 t5002, .int .i64 t5003, .slice Ao11 t5004.length co11] 28 (0, 0)) (by (with_reducible repeat (first | refine blk_drewN ?_ _ | refine blk_drew ?_ | refine blk_alloc ?_ _)); exact BK5013.out) hb); have n5_ := Aside0.mk (blk_below (g := gb5014) (o := .cells #[.int .i64 t5007, .int .i64 t5008, .int .i64 t5009, .slice Ao13 t5010.length co13] 28 (0, 0)) (by (with_reducible repeat (first | refine blk_drewN ?_ _ | refine blk_drew ?_ | refine blk_alloc ?_ _)); exact BK5014.out) hb); have n6_ := Aside0.mk (below_step (by repeat (first | (with_reducible first | exact HB.out | apply below_alloc | apply pw_below_drewN | apply below_drew1 | refine below_set ?_ GE5013.out | refine below_set ?_ GE5014.out) | exact HB.out)) hb); clear HO5006; clear HO5012; clear HO5017; clear BK5013; clear BK5014; clear HB; have HO5006 := n0_; have HO5012 := n1_; have HO5017 := n2_; have HO5020 := n3_; have BK5013 := n4_; have BK5014 := n5_; have HB := n6_; clear n0_ n1_ n2_ n3_ n4_ n5_ n6_; (try clear hb); (try clear hb2); (try clear hk); (try clear hi); (try clear ho0); obtain ⟨Ao35, co35, eo35⟩ := Kd.R_slice HO5017.out; subst eo35; obtain ⟨Ao36, co36, eo36⟩ := Kd.R_slice HO5020.out; subst eo36) | ((with_reducible refine gate_callee (f := 21) rfl ?_); refine goesL_ (some 23) rfl rfl Try.func21 (by kernel_rfl) rfl #[.slice Ao35 t5015.length co35, .slice Ao36 t5018.length co36] rfl (by (try simp only [List.map_toArray, List.map_cons, List.map_nil]); first | done | rfl | (simp only [List.length_drop, List.length_take]; rfl)) ?_; (with_reducible refine (laws_equalRuns.calls k _ _ t5015 _ _ t5018 true _ ?side1 ?side2 ?side3 ?side4 A16.out).mono ?_); (case side1 => repeat (first | exact (Kd.R_reads' HO5017.out).2.2 | (with_reducible refine Kd.C_alloc ?_ _) | (with_reducible refine Kd.C_drewN ?_ _) | (with_reducible refine Kd.C_drew ?_))); (case side2 => exact (Kd.R_reads' HO5017.out).2.1); (case side3 => repeat (first | exact (Kd.R_reads' HO5020.out).2.2 | (with_reducible refine Kd.C_alloc ?_ _) | (with_reducible refine Kd.C_drewN ?_ _) | (with_reducible refine Kd.C_drew ?_))); (case side4 => exact (Kd.R_reads' HO5020.out).2.1); rintro e w' ⟨rfl, ⟨nd, rfl⟩⟩; refine ⟨_, rfl, ?_⟩; have hcz37_0 : w34.cell? ⟨gb5014, 0, none⟩ = some (.int .i64 t5007) := (blk_cell BK5014.out 0).trans rfl; have hcz37_1 : w34.cell? ⟨gb5014, 1, none⟩ = some (.int .i64 t5008) := (blk_cell BK5014.out 1).trans rfl; have hcz37_2 : w34.cell? ⟨gb5014, 2, none⟩ = some (.int .i64 t5009) := (blk_cell BK5014.out 2).trans rfl; have hcz37_3 : w34.cell? ⟨gb5014, 3, none⟩ = some (.slice Ao13 t5010.length co13) := (blk_cell BK5014.out 3).trans rfl; have hfz37_0 := blk_frozen BK5014.out 0; have hfz37_1 := blk_frozen BK5014.out 1; have hfz37_2 := blk_frozen BK5014.out 2; have hfz37_3 := blk_frozen BK5014.out 3; have hcz38_0 : w34.cell? ⟨gb5013, 0, none⟩ = some (.int .i64 t5001) := (blk_cell BK5013.out 0).trans rfl; have hcz38_1 : w34.cell? ⟨gb5013, 1, none⟩ = some (.int .i64 t5002) := (blk_cell BK5013.out 1).trans rfl; have hcz38_2 : w34.cell? ⟨gb5013, 2, none⟩ = some (.int .i64 t5003) := (blk_cell BK5013.out 2).trans rfl; have hcz38_3 : w34.cell? ⟨gb5013, 3, none⟩ = some (.slice Ao11 t5004.length co11) := (blk_cell BK5013.out 3).trans rfl; have hfz38_0 := blk_frozen BK5013.out 0; have hfz38_1 := blk_frozen BK5013.out 1; have hfz38_2 := blk_frozen BK5013.out 2; have hfz38_3 := blk_frozen BK5013.out 3) | (go_at_call 14; (with_reducible refine (impl_ChangedRegion.calls t5007 t5008 t5009 _ _ t5010 t5001 t5002 t5003 _ _ t5004 t5022 _ ?side1 ?side2 ?side3 ?side4 A18.out).mono ?_); (case side1 => repeat (first | exact (Kd.Q_reads' HO5012.out).2.2 | (with_reducible refine Kd.C_alloc ?_ _) | (with_reducible refine Kd.C_drewN ?_ _) | (with_reducible refine Kd.C_drew ?_))); (case side2 => exact (Kd.Q_reads' HO5012.out).2.1); (case side3 => repeat (first | exact (Kd.Q_reads' HO5006.out).2.2 | (with_reducible refine Kd.C_alloc ?_ _) | (with_reducible refine Kd.C_drewN ?_ _) | (with_reducible refine Kd.C_drew ?_))); (case side4 => exact (Kd.Q_reads' HO5006.out).2.1); rintro e w39 ⟨v5023, rfl, ho0, hb⟩; have n0_ := Aside0.mk (Kd.Q_below (by (with_reducible repeat (first | apply Kd.Q_alloc | apply Kd.Q_drewN | apply Kd.Q_drew)); exact HO5006.out) hb); have n1_ := Aside0.mk (Kd.Q_below (by (with_reducible repeat (first | apply Kd.Q_alloc | apply Kd.Q_drewN | apply Kd.Q_drew)); exact HO5012.out) hb); have n2_ := Aside0.mk (Kd.R_elder' (by (with_reducible repeat (first | apply Kd.R_alloc | apply Kd.R_drewN | apply Kd.R_drew)); exact HO5017.out) (Kd.R_base ho0) hb); have n3_ := Aside0.mk (Kd.R_elder' (by (with_reducible repeat (first | apply Kd.R_alloc | apply Kd.R_drewN | apply Kd.R_drew)); exact HO5020.out) (Kd.R_base ho0) hb); have n4_ := Aside0.mk (Kd.R_lower (Kd.R_new' (Kd.R_new' ho0 (Kd.R_lt (by (with_reducible repeat (first | apply Kd.R_alloc | apply Kd.R_drewN | apply Kd.R_drew)); exact HO5017.out))) (Kd.R_lt (by (with_reducible repeat (first | apply Kd.R_alloc | apply Kd.R_drewN | apply Kd.R_drew)); exact HO5020.out))) (below_size (by repeat (first | (with_reducible first | exact HB.out | apply below_alloc | apply pw_below_drewN | apply below_drew1 | refine below_set ?_ GE5013.out | refine below_set ?_ GE5014.out) | exact HB.out)))); have n5_ := Aside0.mk (blk_below (g := gb5013) (o := .cells #[.int .i64 t5001, .int .i64 t5002, .int .i64 t5003, .slice Ao11 t5004.length co11] 28 (0, 0)) (by (with_reducible repeat (first | refine blk_drewN ?_ _ | refine blk_drew ?_ | refine blk_alloc ?_ _)); exact BK5013.out) hb); have n6_ := Aside0.mk (blk_below (g := gb5014) (o := .cells #[.int .i64 t5007, .int .i64 t5008, .int .i64 t5009, .slice Ao13 t5010.length co13] 28 (0, 0)) (by (with_reducible repeat (first | refine blk_drewN ?_ _ | refine blk_drew ?_ | refine blk_alloc ?_ _)); exact BK5014.out) hb); have n7_ := Aside0.mk (below_step (by repeat (first | (with_reducible first | exact HB.out | apply below_alloc | apply pw_below_drewN | apply below_drew1 | refine below_set ?_ GE5013.out | refine below_set ?_ GE5014.out) | exact HB.out)) hb); clear HO5006; clear HO5012; clear HO5017; clear HO5020; clear BK5013; clear BK5014; clear HB; have HO5006 := n0_; have HO5012 := n1_; have HO5017 := n2_; have HO5020 := n3_; have HO5024 := n4_; have BK5013 := n5_; have BK5014 := n6_; have HB := n7_; clear n0_ n1_ n2_ n3_ n4_ n5_ n6_ n7_; (try clear hb); (try clear hb2); (try clear hk); (try clear hi); (try clear ho0); obtain ⟨Ao40, co40, eo40⟩ := Kd.R_slice HO5024.out; subst eo40) | (go_at_call 21; (with_reducible refine (laws_equalRuns.calls k _ _ t5022 _ _ t5015 false _ ?side1 ?side2 ?side3 ?side4 A19.out).mono ?_); (case side1 => repeat (first | exact (Kd.R_reads' HO5024.out).2.2 | (with_reducible refine Kd.C_alloc ?_ _) | (with_reducible refine Kd.C_drewN ?_ _) | (with_reducible refine Kd.C_drew ?_))); (case side2 => exact (Kd.R_reads' HO5024.out).2.1); (case side3 => repeat (first | exact (Kd.R_reads' HO5017.out).2.2 | (with_reducible refine Kd.C_alloc ?_ _) | (with_reducible refine Kd.C_drewN ?_ _) | (with_reducible refine Kd.C_drew ?_))); (case side4 => exact (Kd.R_reads' HO5017.out).2.1); rintro e w' ⟨rfl, ⟨nd, rfl⟩⟩))
          go_meet
          case rel => exact ⟨_, (true), (by first | rfl | (simp; done) | (simp [*]; done)), H', ⟨by first | omega | exact Nat.le_refl _⟩, ⟨by (with_reducible repeat (first | apply Kd.R_alloc | apply Kd.R_drewN | apply Kd.R_drew)); exact Kd.R_mono HO5017.out (fun _ hk => trivial)⟩, ⟨by (with_reducible repeat (first | apply Kd.Q_alloc | apply Kd.Q_drewN | apply Kd.Q_drew)); exact HO5006.out⟩, ⟨by (with_reducible repeat (first | apply Kd.Q_alloc | apply Kd.Q_drewN | apply Kd.Q_drew)); exact HO5012.out⟩, ⟨by (with_reducible repeat (first | refine blk_drewN ?_ _ | refine blk_drew ?_ | refine blk_alloc ?_ _)); exact BK5013.out⟩, ⟨by (with_reducible repeat (first | refine blk_drewN ?_ _ | refine blk_drew ?_ | refine blk_alloc ?_ _)); exact BK5014.out⟩, ⟨by repeat (first | (with_reducible first | exact HB.out | apply below_alloc | apply pw_below_drewN | apply below_drew1 | refine below_set ?_ GE5013.out | refine below_set ?_ GE5014.out) | exact HB.out)⟩⟩
      · replace c17 := Bool.eq_false_iff.mpr c17
        subst c17
        have H1 : (laws_FnChangedRegion.j0 k t5015 true t5001 t5002 t5003 t5004 t5007 t5008 t5009 t5010) = some r := by rw [if_neg (show ¬ (false = true) by decide)] at H; exact H
        clear H
        have H := H1
        clear H1
        have H' := Aside0.mk H
        clear H
        have hnb41 := NB5013_5014.out
        have hnc41 := NB5014_5013.out
        have hcz42_0 : w14.cell? ⟨gb5013, 0, none⟩ = some (.int .i64 t5001) := (blk_cell BK5013.out 0).trans rfl
        have hcz42_1 : w14.cell? ⟨gb5013, 1, none⟩ = some (.int .i64 t5002) := (blk_cell BK5013.out 1).trans rfl
        have hcz42_2 : w14.cell? ⟨gb5013, 2, none⟩ = some (.int .i64 t5003) := (blk_cell BK5013.out 2).trans rfl
        have hcz42_3 : w14.cell? ⟨gb5013, 3, none⟩ = some (.slice Ao11 t5004.length co11) := (blk_cell BK5013.out 3).trans rfl
        have hfz42_0 := blk_frozen BK5013.out 0
        have hfz42_1 := blk_frozen BK5013.out 1
        have hfz42_2 := blk_frozen BK5013.out 2
        have hfz42_3 := blk_frozen BK5013.out 3
        have hcz43_0 : w14.cell? ⟨gb5014, 0, none⟩ = some (.int .i64 t5007) := (blk_cell BK5014.out 0).trans rfl
        have hcz43_1 : w14.cell? ⟨gb5014, 1, none⟩ = some (.int .i64 t5008) := (blk_cell BK5014.out 1).trans rfl
        have hcz43_2 : w14.cell? ⟨gb5014, 2, none⟩ = some (.int .i64 t5009) := (blk_cell BK5014.out 2).trans rfl
        have hcz43_3 : w14.cell? ⟨gb5014, 3, none⟩ = some (.slice Ao13 t5010.length co13) := (blk_cell BK5014.out 3).trans rfl
        have hfz43_0 := blk_frozen BK5014.out 0
        have hfz43_1 := blk_frozen BK5014.out 1
        have hfz43_2 := blk_frozen BK5014.out 2
        have hfz43_3 := blk_frozen BK5014.out 3
        go_wp2_with (first | ((with_reducible refine gate_callee (f := 12) rfl ?_); refine goesL_ (some 22) rfl rfl Try.func12 (by kernel_rfl) rfl #[.agg #[.int .i64 t5001, .int .i64 t5002, .int .i64 t5003, .slice Ao11 t5004.length co11], .agg #[.int .i64 t5007, .int .i64 t5008, .int .i64 t5009, .slice Ao13 t5010.length co13]] rfl (by (try simp only [List.map_toArray, List.map_cons, List.map_nil]); first | done | rfl | (simp only [List.length_drop, List.length_take]; rfl)) ?_; (with_reducible refine (spec_ChangedRegion.calls k t5001 t5002 t5003 _ _ t5004 t5007 t5008 t5009 _ _ t5010 t5018 _ ?side1 ?side2 ?side3 ?side4 A15.out).mono ?_); (case side1 => repeat (first | exact (Kd.Q_reads' HO5006.out).2.2 | (with_reducible refine Kd.C_alloc ?_ _) | (with_reducible refine Kd.C_drewN ?_ _) | (with_reducible refine Kd.C_drew ?_))); (case side2 => exact (Kd.Q_reads' HO5006.out).2.1); (case side3 => repeat (first | exact (Kd.Q_reads' HO5012.out).2.2 | (with_reducible refine Kd.C_alloc ?_ _) | (with_reducible refine Kd.C_drewN ?_ _) | (with_reducible refine Kd.C_drew ?_))); (case side4 => exact (Kd.Q_reads' HO5012.out).2.1); rintro e w44 ⟨v5019, rfl, ho0, hb⟩; refine ⟨_, rfl, ?_⟩; have n0_ := Aside0.mk (Kd.Q_below (by (with_reducible repeat (first | apply Kd.Q_alloc | apply Kd.Q_drewN | apply Kd.Q_drew)); exact HO5006.out) hb); have n1_ := Aside0.mk (Kd.Q_below (by (with_reducible repeat (first | apply Kd.Q_alloc | apply Kd.Q_drewN | apply Kd.Q_drew)); exact HO5012.out) hb); have n2_ := Aside0.mk (Kd.R_elder' (by (with_reducible repeat (first | apply Kd.R_alloc | apply Kd.R_drewN | apply Kd.R_drew)); exact HO5017.out) (Kd.R_base ho0) hb); have n3_ := Aside0.mk (Kd.R_lower (Kd.R_new' ho0 (Kd.R_lt (by (with_reducible repeat (first | apply Kd.R_alloc | apply Kd.R_drewN | apply Kd.R_drew)); exact HO5017.out))) (below_size (by repeat (first | (with_reducible first | exact HB.out | apply below_alloc | apply pw_below_drewN | apply below_drew1 | refine below_set ?_ GE5013.out | refine below_set ?_ GE5014.out) | exact HB.out)))); have n4_ := Aside0.mk (blk_below (g := gb5013) (o := .cells #[.int .i64 t5001, .int .i64 t5002, .int .i64 t5003, .slice Ao11 t5004.length co11] 28 (0, 0)) (by (with_reducible repeat (first | refine blk_drewN ?_ _ | refine blk_drew ?_ | refine blk_alloc ?_ _)); exact BK5013.out) hb); have n5_ := Aside0.mk (blk_below (g := gb5014) (o := .cells #[.int .i64 t5007, .int .i64 t5008, .int .i64 t5009, .slice Ao13 t5010.length co13] 28 (0, 0)) (by (with_reducible repeat (first | refine blk_drewN ?_ _ | refine blk_drew ?_ | refine blk_alloc ?_ _)); exact BK5014.out) hb); have n6_ := Aside0.mk (below_step (by repeat (first | (with_reducible first | exact HB.out | apply below_alloc | apply pw_below_drewN | apply below_drew1 | refine below_set ?_ GE5013.out | refine below_set ?_ GE5014.out) | exact HB.out)) hb); clear HO5006; clear HO5012; clear HO5017; clear BK5013; clear BK5014; clear HB; have HO5006 := n0_; have HO5012 := n1_; have HO5017 := n2_; have HO5020 := n3_; have BK5013 := n4_; have BK5014 := n5_; have HB := n6_; clear n0_ n1_ n2_ n3_ n4_ n5_ n6_; (try clear hb); (try clear hb2); (try clear hk); (try clear hi); (try clear ho0); obtain ⟨Ao45, co45, eo45⟩ := Kd.R_slice HO5017.out; subst eo45; obtain ⟨Ao46, co46, eo46⟩ := Kd.R_slice HO5020.out; subst eo46) | ((with_reducible refine gate_callee (f := 21) rfl ?_); refine goesL_ (some 23) rfl rfl Try.func21 (by kernel_rfl) rfl #[.slice Ao45 t5015.length co45, .slice Ao46 t5018.length co46] rfl (by (try simp only [List.map_toArray, List.map_cons, List.map_nil]); first | done | rfl | (simp only [List.length_drop, List.length_take]; rfl)) ?_; (with_reducible refine (laws_equalRuns.calls k _ _ t5015 _ _ t5018 false _ ?side1 ?side2 ?side3 ?side4 A16.out).mono ?_); (case side1 => repeat (first | exact (Kd.R_reads' HO5017.out).2.2 | (with_reducible refine Kd.C_alloc ?_ _) | (with_reducible refine Kd.C_drewN ?_ _) | (with_reducible refine Kd.C_drew ?_))); (case side2 => exact (Kd.R_reads' HO5017.out).2.1); (case side3 => repeat (first | exact (Kd.R_reads' HO5020.out).2.2 | (with_reducible refine Kd.C_alloc ?_ _) | (with_reducible refine Kd.C_drewN ?_ _) | (with_reducible refine Kd.C_drew ?_))); (case side4 => exact (Kd.R_reads' HO5020.out).2.1); rintro e w' ⟨rfl, ⟨nd, rfl⟩⟩; refine ⟨_, rfl, ?_⟩))
        go_meet
        case rel => exact ⟨_, (true), (by first | rfl | (simp; done) | (simp [*]; done)), H', ⟨by first | omega | exact Nat.le_refl _⟩, ⟨by (with_reducible repeat (first | apply Kd.R_alloc | apply Kd.R_drewN | apply Kd.R_drew)); exact Kd.R_mono HO5017.out (fun _ hk => trivial)⟩, ⟨by (with_reducible repeat (first | apply Kd.Q_alloc | apply Kd.Q_drewN | apply Kd.Q_drew)); exact HO5006.out⟩, ⟨by (with_reducible repeat (first | apply Kd.Q_alloc | apply Kd.Q_drewN | apply Kd.Q_drew)); exact HO5012.out⟩, ⟨by (with_reducible repeat (first | refine blk_drewN ?_ _ | refine blk_drew ?_ | refine blk_alloc ?_ _)); exact BK5013.out⟩, ⟨by (with_reducible repeat (first | refine blk_drewN ?_ _ | refine blk_drew ?_ | refine blk_alloc ?_ _)); exact BK5014.out⟩, ⟨by repeat (first | (with_reducible first | exact HB.out | apply below_alloc | apply pw_below_drewN | apply below_drew1 | refine below_set ?_ GE5013.out | refine below_set ?_ GE5014.out) | exact HB.out)⟩⟩
    case rest =>
      clear HC5
      try clear c1
      try clear c2
      try clear c2b0
      try clear c2b1
      try clear p2
      try clear c3
      try clear c4
      try clear c9
      try clear c12
      try clear c14
      try clear c17
      try clear c20
      try clear c21
      try clear c31
      try clear c41
      try clear hcz10_0
      try clear hcz10_1
      try clear hcz10_2
      try clear hcz10_3
      try clear hcz12_0
      try clear hcz12_1
      try clear hcz12_2
      try clear hcz12_3
      try clear hcz22_0
      try clear hcz22_1
      try clear hcz22_2
      try clear hcz22_3
      try clear hcz23_0
      try clear hcz23_1
      try clear hcz23_2
      try clear hcz23_3
      try clear hcz27_0
      try clear hcz27_1
      try clear hcz27_2
      try clear hcz27_3
      try clear hcz28_0
      try clear hcz28_1
      try clear hcz28_2
      try clear hcz28_3
      try clear hcz32_0
      try clear hcz32_1
      try clear hcz32_2
      try clear hcz32_3
      try clear hcz33_0
      try clear hcz33_1
      try clear hcz33_2
      try clear hcz33_3
      try clear hcz37_0
      try clear hcz37_1
      try clear hcz37_2
      try clear hcz37_3
      try clear hcz38_0
      try clear hcz38_1
      try clear hcz38_2
      try clear hcz38_3
      try clear hcz42_0
      try clear hcz42_1
      try clear hcz42_2
      try clear hcz42_3
      try clear hcz43_0
      try clear hcz43_1
      try clear hcz43_2
      try clear hcz43_3
      try clear hfz10_0
      try clear hfz10_1
      try clear hfz10_2
      try clear hfz10_3
      try clear hfz12_0
      try clear hfz12_1
      try clear hfz12_2
      try clear hfz12_3
      try clear hfz22_0
      try clear hfz22_1
      try clear hfz22_2
      try clear hfz22_3
      try clear hfz23_0
      try clear hfz23_1
      try clear hfz23_2
      try clear hfz23_3
      try clear hfz27_0
      try clear hfz27_1
      try clear hfz27_2
      try clear hfz27_3
      try clear hfz28_0
      try clear hfz28_1
      try clear hfz28_2
      try clear hfz28_3
      try clear hfz32_0
      try clear hfz32_1
      try clear hfz32_2
      try clear hfz32_3
      try clear hfz33_0
      try clear hfz33_1
      try clear hfz33_2
      try clear hfz33_3
      try clear hfz37_0
      try clear hfz37_1
      try clear hfz37_2
      try clear hfz37_3
      try clear hfz38_0
      try clear hfz38_1
      try clear hfz38_2
      try clear hfz38_3
      try clear hfz42_0
      try clear hfz42_1
      try clear hfz42_2
      try clear hfz42_3
      try clear hfz43_0
      try clear hfz43_1
      try clear hfz43_2
      try clear hfz43_3
      obtain ⟨kq, x37_4, rfl, HA, HJ4, HO_5, HO_5014003, HO_5015003, BK5013, BK5014, HB⟩ := hcut
      cases kq with
      | zero => exact absurd HA.out (by simp [laws_FnChangedRegion.j0])
      | succ kj4 =>
        have H := HA.out
        clear HA
        simp only [laws_FnChangedRegion.j0] at H
        by_cases c47 : x37_4 = true
        · subst c47
          have H1 : ((spec_ChangedRegion.f kj4 t5001 t5002 t5003 t5004 t5007 t5008 t5009 t5010).bind fun t5026 => ((laws_equalRuns.f kj4 t5015 t5026).bind fun t5029 => (if t5029 = true then ((impl_ChangedRegion.f t5007 t5008 t5009 t5010 t5001 t5002 t5003 t5004).bind fun t5030 => ((laws_equalRuns.f kj4 t5030 t5015).bind fun t5033 => (some t5033))) else (some false)))) = some r := by rw [if_pos rfl] at H; exact H
          clear H
          have H := H1
          clear H1
          replace H := Option.bind_eq_some_iff.mp H
          obtain ⟨t5026, A480, H⟩ := H
          replace H : ((laws_equalRuns.f kj4 t5015 t5026).bind fun t5029 => (if t5029 = true then ((impl_ChangedRegion.f t5007 t5008 t5009 t5010 t5001 t5002 t5003 t5004).bind fun t5030 => ((laws_equalRuns.f kj4 t5030 t5015).bind fun t5033 => (some t5033))) else (some false))) = some r := H
          have A48 := Aside0.mk A480
          clear A480
          replace H := Option.bind_eq_some_iff.mp H
          obtain ⟨t5029, A490, H⟩ := H
          replace H : (if t5029 = true then ((impl_ChangedRegion.f t5007 t5008 t5009 t5010 t5001 t5002 t5003 t5004).bind fun t5030 => ((laws_equalRuns.f kj4 t5030 t5015).bind fun t5033 => (some t5033))) else (some false)) = some r := H
          have A49 := Aside0.mk A490
          clear A490
          by_cases c50 : t5029 = true
          · subst c50
            have H1 : ((impl_ChangedRegion.f t5007 t5008 t5009 t5010 t5001 t5002 t5003 t5004).bind fun t5030 => ((laws_equalRuns.f kj4 t5030 t5015).bind fun t5033 => (some t5033))) = some r := by rw [if_pos rfl] at H; exact H
            clear H
            have H := H1
            clear H1
            replace H := Option.bind_eq_some_iff.mp H
            obtain ⟨t5030, A510, H⟩ := H
            replace H : ((laws_equalRuns.f kj4 t5030 t5015).bind fun t5033 => (some t5033)) = some r := H
            have A51 := Aside0.mk A510
            clear A510
            replace H := Option.bind_eq_some_iff.mp H
            obtain ⟨t5033, A520, H⟩ := H
            replace H : (some t5033) = some r := H
            have A52 := Aside0.mk A520
            clear A520
            obtain rfl := Option.some.inj H
            have hnb53 := NB5013_5014.out
            have hnc53 := NB5014_5013.out
            have hcz54_0 : wc.cell? ⟨gb5013, 0, none⟩ = some (.int .i64 t5001) := (blk_cell BK5013.out 0).trans rfl
            have hcz54_1 : wc.cell? ⟨gb5013, 1, none⟩ = some (.int .i64 t5002) := (blk_cell BK5013.out 1).trans rfl
            have hcz54_2 : wc.cell? ⟨gb5013, 2, none⟩ = some (.int .i64 t5003) := (blk_cell BK5013.out 2).trans rfl
            have hcz54_3 : wc.cell? ⟨gb5013, 3, none⟩ = some (.slice Ao11 t5004.length co11) := (blk_cell BK5013.out 3).trans rfl
            have hfz54_0 := blk_frozen BK5013.out 0
            have hfz54_1 := blk_frozen BK5013.out 1
            have hfz54_2 := blk_frozen BK5013.out 2
            have hfz54_3 := blk_frozen BK5013.out 3
            have hcz55_0 : wc.cell? ⟨gb5014, 0, none⟩ = some (.int .i64 t5007) := (blk_cell BK5014.out 0).trans rfl
            have hcz55_1 : wc.cell? ⟨gb5014, 1, none⟩ = some (.int .i64 t5008) := (blk_cell BK5014.out 1).trans rfl
            have hcz55_2 : wc.cell? ⟨gb5014, 2, none⟩ = some (.int .i64 t5009) := (blk_cell BK5014.out 2).trans rfl
            have hcz55_3 : wc.cell? ⟨gb5014, 3, none⟩ = some (.slice Ao13 t5010.length co13) := (blk_cell BK5014.out 3).trans rfl
            have hfz55_0 := blk_frozen BK5014.out 0
            have hfz55_1 := blk_frozen BK5014.out 1
            have hfz55_2 := blk_frozen BK5014.out 2
            have hfz55_3 := blk_frozen BK5014.out 3
            go_wp2_with (first | ((with_reducible refine gate_callee (f := 12) rfl ?_); refine goesL_ (some 41) rfl rfl Try.func12 (by kernel_rfl) rfl #[.agg #[.int .i64 t5001, .int .i64 t5002, .int .i64 t5003, .slice Ao11 t5004.length co11], .agg #[.int .i64 t5007, .int .i64 t5008, .int .i64 t5009, .slice Ao13 t5010.length co13]] rfl (by (try simp only [List.map_toArray, List.map_cons, List.map_nil]); first | done | rfl | (simp only [List.length_drop, List.length_take]; rfl)) ?_; (with_reducible refine (spec_ChangedRegion.calls kj4 t5001 t5002 t5003 _ _ t5004 t5007 t5008 t5009 _ _ t5010 t5026 _ ?side1 ?side2 ?side3 ?side4 A48.out).mono ?_); (case side1 => repeat (first | exact (Kd.Q_reads' HO_5014003.out).2.2 | (with_reducible refine Kd.C_alloc ?_ _) | (with_reducible refine Kd.C_drewN ?_ _) | (with_reducible refine Kd.C_drew ?_))); (case side2 => exact (Kd.Q_reads' HO_5014003.out).2.1); (case side3 => repeat (first | exact (Kd.Q_reads' HO_5015003.out).2.2 | (with_reducible refine Kd.C_alloc ?_ _) | (with_reducible refine Kd.C_drewN ?_ _) | (with_reducible refine Kd.C_drew ?_))); (case side4 => exact (Kd.Q_reads' HO_5015003.out).2.1); rintro e w56 ⟨v5027, rfl, ho0, hb⟩; refine ⟨_, rfl, ?_⟩; have n0_ := Aside0.mk (Kd.R_elder' (by (with_reducible repeat (first | apply Kd.R_alloc | apply Kd.R_drewN | apply Kd.R_drew)); exact HO_5.out) (Kd.R_base ho0) hb); have n1_ := Aside0.mk (Kd.Q_below (by (with_reducible repeat (first | apply Kd.Q_alloc | apply Kd.Q_drewN | apply Kd.Q_drew)); exact HO_5014003.out) hb); have n2_ := Aside0.mk (Kd.Q_below (by (with_reducible repeat (first | apply Kd.Q_alloc | apply Kd.Q_drewN | apply Kd.Q_drew)); exact HO_5015003.out) hb); have n3_ := Aside0.mk (Kd.R_lower (Kd.R_new' ho0 (Kd.R_lt (by (with_reducible repeat (first | apply Kd.R_alloc | apply Kd.R_drewN | apply Kd.R_drew)); exact HO_5.out))) (below_size (by repeat (first | (with_reducible first | exact HB.out | apply below_alloc | apply pw_below_drewN | apply below_drew1 | refine below_set ?_ GE5013.out | refine below_set ?_ GE5014.out) | exact HB.out)))); have n4_ := Aside0.mk (blk_below (g := gb5013) (o := .cells #[.int .i64 t5001, .int .i64 t5002, .int .i64 t5003, .slice Ao11 t5004.length co11] 28 (0, 0)) (by (with_reducible repeat (first | refine blk_drewN ?_ _ | refine blk_drew ?_ | refine blk_alloc ?_ _)); exact BK5013.out) hb); have n5_ := Aside0.mk (blk_below (g := gb5014) (o := .cells #[.int .i64 t5007, .int .i64 t5008, .int .i64 t5009, .slice Ao13 t5010.length co13] 28 (0, 0)) (by (with_reducible repeat (first | refine blk_drewN ?_ _ | refine blk_drew ?_ | refine blk_alloc ?_ _)); exact BK5014.out) hb); have n6_ := Aside0.mk (below_step (by repeat (first | (with_reducible first | exact HB.out | apply below_alloc | apply pw_below_drewN | apply below_drew1 | refine below_set ?_ GE5013.out | refine below_set ?_ GE5014.out) | exact HB.out)) hb); clear HO_5; clear HO_5014003; clear HO_5015003; clear BK5013; clear BK5014; clear HB; have HO_5 := n0_; have HO_5014003 := n1_; have HO_5015003 := n2_; have HO5028 := n3_; have BK5013 := n4_; have BK5014 := n5_; have HB := n6_; clear n0_ n1_ n2_ n3_ n4_ n5_ n6_; (try clear hb); (try clear hb2); (try clear hk); (try clear hi); (try clear ho0); obtain ⟨Ao57, co57, eo57⟩ := Kd.R_slice HO_5.out; subst eo57; obtain ⟨Ao58, co58, eo58⟩ := Kd.R_slice HO5028.out; subst eo58) | ((with_reducible refine gate_callee (f := 21) rfl ?_); refine goesL_ (some 42) rfl rfl Try.func21 (by kernel_rfl) rfl #[.slice Ao57 t5015.length co57, .slice Ao58 t5026.length co58] rfl (by (try simp only [List.map_toArray, List.map_cons, List.map_nil]); first | done | rfl | (simp only [List.length_drop, List.length_take]; rfl)) ?_; (with_reducible refine (laws_equalRuns.calls kj4 _ _ t5015 _ _ t5026 true _ ?side1 ?side2 ?side3 ?side4 A49.out).mono ?_); (case side1 => repeat (first | exact (Kd.R_reads' HO_5.out).2.2 | (with_reducible refine Kd.C_alloc ?_ _) | (with_reducible refine Kd.C_drewN ?_ _) | (with_reducible refine Kd.C_drew ?_))); (case side2 => exact (Kd.R_reads' HO_5.out).2.1); (case side3 => repeat (first | exact (Kd.R_reads' HO5028.out).2.2 | (with_reducible refine Kd.C_alloc ?_ _) | (with_reducible refine Kd.C_drewN ?_ _) | (with_reducible refine Kd.C_drew ?_))); (case side4 => exact (Kd.R_reads' HO5028.out).2.1); rintro e w' ⟨rfl, ⟨nd, rfl⟩⟩; refine ⟨_, rfl, ?_⟩; have hcz59_0 : w56.cell? ⟨gb5014, 0, none⟩ = some (.int .i64 t5007) := (blk_cell BK5014.out 0).trans rfl; have hcz59_1 : w56.cell? ⟨gb5014, 1, none⟩ = some (.int .i64 t5008) := (blk_cell BK5014.out 1).trans rfl; have hcz59_2 : w56.cell? ⟨gb5014, 2, none⟩ = some (.int .i64 t5009) := (blk_cell BK5014.out 2).trans rfl; have hcz59_3 : w56.cell? ⟨gb5014, 3, none⟩ = some (.slice Ao13 t5010.length co13) := (blk_cell BK5014.out 3).trans rfl; have hfz59_0 := blk_frozen BK5014.out 0; have hfz59_1 := blk_frozen BK5014.out 1; have hfz59_2 := blk_frozen BK5014.out 2; have hfz59_3 := blk_frozen BK5014.out 3; have hcz60_0 : w56.cell? ⟨gb5013, 0, none⟩ = some (.int .i64 t5001) := (blk_cell BK5013.out 0).trans rfl; have hcz60_1 : w56.cell? ⟨gb5013, 1, none⟩ = some (.int .i64 t5002) := (blk_cell BK5013.out 1).trans rfl; have hcz60_2 : w56.cell? ⟨gb5013, 2, none⟩ = some (.int .i64 t5003) := (blk_cell BK5013.out 2).trans rfl; have hcz60_3 : w56.cell? ⟨gb5013, 3, none⟩ = some (.slice Ao11 t5004.length co11) := (blk_cell BK5013.out 3).trans rfl; have hfz60_0 := blk_frozen BK5013.out 0; have hfz60_1 := blk_frozen BK5013.out 1; have hfz60_2 := blk_frozen BK5013.out 2; have hfz60_3 := blk_frozen BK5013.out 3) | (go_at_call 14; (with_reducible refine (impl_ChangedRegion.calls t5007 t5008 t5009 _ _ t5010 t5001 t5002 t5003 _ _ t5004 t5030 _ ?side1 ?side2 ?side3 ?side4 A51.out).mono ?_); (case side1 => repeat (first | exact (Kd.Q_reads' HO_5015003.out).2.2 | (with_reducible refine Kd.C_alloc ?_ _) | (with_reducible refine Kd.C_drewN ?_ _) | (with_reducible refine Kd.C_drew ?_))); (case side2 => exact (Kd.Q_reads' HO_5015003.out).2.1); (case side3 => repeat (first | exact (Kd.Q_reads' HO_5014003.out).2.2 | (with_reducible refine Kd.C_alloc ?_ _) | (with_reducible refine Kd.C_drewN ?_ _) | (with_reducible refine Kd.C_drew ?_))); (case side4 => exact (Kd.Q_reads' HO_5014003.out).2.1); rintro e w61 ⟨v5031, rfl, ho0, hb⟩; have n0_ := Aside0.mk (Kd.R_elder' (by (with_reducible repeat (first | apply Kd.R_alloc | apply Kd.R_drewN | apply Kd.R_drew)); exact HO_5.out) (Kd.R_base ho0) hb); have n1_ := Aside0.mk (Kd.Q_below (by (with_reducible repeat (first | apply Kd.Q_alloc | apply Kd.Q_drewN | apply Kd.Q_drew)); exact HO_5014003.out) hb); have n2_ := Aside0.mk (Kd.Q_below (by (with_reducible repeat (first | apply Kd.Q_alloc | apply Kd.Q_drewN | apply Kd.Q_drew)); exact HO_5015003.out) hb); have n3_ := Aside0.mk (Kd.R_elder' (by (with_reducible repeat (first | apply Kd.R_alloc | apply Kd.R_drewN | apply Kd.R_drew)); exact HO5028.out) (Kd.R_base ho0) hb); have n4_ := Aside0.mk (Kd.R_lower (Kd.R_new' (Kd.R_new' ho0 (Kd.R_lt (by (with_reducible repeat (first | apply Kd.R_alloc | apply Kd.R_drewN | apply Kd.R_drew)); exact HO_5.out))) (Kd.R_lt (by (with_reducible repeat (first | apply Kd.R_alloc | apply Kd.R_drewN | apply Kd.R_drew)); exact HO5028.out))) (below_size (by repeat (first | (with_reducible first | exact HB.out | apply below_alloc | apply pw_below_drewN | apply below_drew1 | refine below_set ?_ GE5013.out | refine below_set ?_ GE5014.out) | exact HB.out)))); have n5_ := Aside0.mk (blk_below (g := gb5013) (o := .cells #[.int .i64 t5001, .int .i64 t5002, .int .i64 t5003, .slice Ao11 t5004.length co11] 28 (0, 0)) (by (with_reducible repeat (first | refine blk_drewN ?_ _ | refine blk_drew ?_ | refine blk_alloc ?_ _)); exact BK5013.out) hb); have n6_ := Aside0.mk (blk_below (g := gb5014) (o := .cells #[.int .i64 t5007, .int .i64 t5008, .int .i64 t5009, .slice Ao13 t5010.length co13] 28 (0, 0)) (by (with_reducible repeat (first | refine blk_drewN ?_ _ | refine blk_drew ?_ | refine blk_alloc ?_ _)); exact BK5014.out) hb); have n7_ := Aside0.mk (below_step (by repeat (first | (with_reducible first | exact HB.out | apply below_alloc | apply pw_below_drewN | apply below_drew1 | refine below_set ?_ GE5013.out | refine below_set ?_ GE5014.out) | exact HB.out)) hb); clear HO_5; clear HO_5014003; clear HO_5015003; clear HO5028; clear BK5013; clear BK5014; clear HB; have HO_5 := n0_; have HO_5014003 := n1_; have HO_5015003 := n2_; have HO5028 := n3_; have HO5032 := n4_; have BK5013 := n5_; have BK5014 := n6_; have HB := n7_; clear n0_ n1_ n2_ n3_ n4_ n5_ n6_ n7_; (try clear hb); (try clear hb2); (try clear hk); (try clear hi); (try clear ho0); obtain ⟨Ao62, co62, eo62⟩ := Kd.R_slice HO5032.out; subst eo62) | (go_at_call 21; (with_reducible refine (laws_equalRuns.calls kj4 _ _ t5030 _ _ t5015 t5033 _ ?side1 ?side2 ?side3 ?side4 A52.out).mono ?_); (case side1 => repeat (first | exact (Kd.R_reads' HO5032.out).2.2 | (with_reducible refine Kd.C_alloc ?_ _) | (with_reducible refine Kd.C_drewN ?_ _) | (with_reducible refine Kd.C_drew ?_))); (case side2 => exact (Kd.R_reads' HO5032.out).2.1); (case side3 => repeat (first | exact (Kd.R_reads' HO_5.out).2.2 | (with_reducible refine Kd.C_alloc ?_ _) | (with_reducible refine Kd.C_drewN ?_ _) | (with_reducible refine Kd.C_drew ?_))); (case side4 => exact (Kd.R_reads' HO_5.out).2.1); rintro e w' ⟨rfl, ⟨nd, rfl⟩⟩))
            go_ret
            exact ⟨by first | rfl | (simp [errW_none, errW_some] <;> rfl) | (simp [*, errW_none, errW_some] <;> rfl), by repeat (first | (with_reducible first | exact HB.out | apply below_alloc | apply pw_below_drewN | apply below_drew1 | refine below_set ?_ GE5013.out | refine below_set ?_ GE5014.out) | exact HB.out)⟩
          · replace c50 := Bool.eq_false_iff.mpr c50
            subst c50
            have H1 : (some false) = some r := by rw [if_neg (show ¬ (false = true) by decide)] at H; exact H
            clear H
            have H := H1
            clear H1
            exact absurd ((Option.some.inj H).trans HRT.out) (by decide)
        · replace c47 := Bool.eq_false_iff.mpr c47
          subst c47
          have H1 : (laws_FnChangedRegion.l0 kj4 t5015 0 t5001 t5002 t5003 t5004 t5007 t5008 t5009 t5010) = some r := by rw [if_neg (show ¬ (false = true) by decide)] at H; exact H
          clear H
          have H := H1
          clear H1
          have H' := Aside0.mk H
          clear H
          go_wp2
          go_loopg [6] kj4 (fun kq v6 w' => ∃ (x6_2 : Int), v6 = .int .i64 x6_2 ∧ Aside0 (laws_FnChangedRegion.l0 kq t5015 x6_2 t5001 t5002 t5003 t5004 t5007 t5008 t5009 t5010 = some r) ∧ Aside0 (kq ≤ kj4) ∧ Aside0 (Kd.R k47 47 w' w.heap.size (fun _ => True) v5016 t5015) ∧ Aside0 (Kd.Q (Kd.int .i64) 3 w' w.heap.size (fun k_ => some k_ ≠ ((.slice Ao13 t5010.length co13) : Value).ownBlock) (.slice Ao11 t5004.length co11) t5004) ∧ Aside0 (Kd.Q (Kd.int .i64) 3 w' w.heap.size (fun k_ => some k_ ≠ ((.slice Ao11 t5004.length co11) : Value).ownBlock) (.slice Ao13 t5010.length co13) t5010) ∧ Aside0 (w'.heap[gb5013]? = some (.cells #[.int .i64 t5001, .int .i64 t5002, .int .i64 t5003, (.slice Ao11 t5004.length co11)] 28 (0, 0))) ∧ Aside0 (w'.heap[gb5014]? = some (.cells #[.int .i64 t5007, .int .i64 t5008, .int .i64 t5009, (.slice Ao13 t5010.length co13)] 28 (0, 0))) ∧ Aside0 (Below w.heap.size w w'))
          case atStart => exact ⟨(0), (by first | rfl | (simp; done) | (simp [*]; done)), H', ⟨Nat.le_refl _⟩, ⟨by (with_reducible repeat (first | apply Kd.R_alloc | apply Kd.R_drewN | apply Kd.R_drew)); exact HO_5.out⟩, ⟨by (with_reducible repeat (first | apply Kd.Q_alloc | apply Kd.Q_drewN | apply Kd.Q_drew)); exact HO_5014003.out⟩, ⟨by (with_reducible repeat (first | apply Kd.Q_alloc | apply Kd.Q_drewN | apply Kd.Q_drew)); exact HO_5015003.out⟩, ⟨by (with_reducible repeat (first | refine blk_drewN ?_ _ | refine blk_drew ?_ | refine blk_alloc ?_ _)); exact BK5013.out⟩, ⟨by (with_reducible repeat (first | refine blk_drewN ?_ _ | refine blk_drew ?_ | refine blk_alloc ?_ _)); exact BK5014.out⟩, ⟨by repeat (first | (with_reducible first | exact HB.out | apply below_alloc | apply pw_below_drewN | apply below_drew1 | refine below_set ?_ GE5013.out | refine below_set ?_ GE5014.out) | exact HB.out)⟩⟩
          case round =>
            clear H'
            try clear c1
            try clear c2
            try clear c2b0
            try clear c2b1
            try clear p2
            try clear c3
            try clear c4
            try clear c5
            try clear c6
            try clear c9
            try clear c12
            try clear c14
            try clear c17
            try clear c20
            try clear c21
            try clear c31
            try clear c41
            try clear c47
            try clear c50
            try clear c53
            try clear c63
            try clear hcz10_0
            try clear hcz10_1
            try clear hcz10_2
            try clear hcz10_3
            try clear hcz12_0
            try clear hcz12_1
            try clear hcz12_2
            try clear hcz12_3
            try clear hcz22_0
            try clear hcz22_1
            try clear hcz22_2
            try clear hcz22_3
            try clear hcz23_0
            try clear hcz23_1
            try clear hcz23_2
            try clear hcz23_3
            try clear hcz27_0
            try clear hcz27_1
            try clear hcz27_2
            try clear hcz27_3
            try clear hcz28_0
            try clear hcz28_1
            try clear hcz28_2
            try clear hcz28_3
            try clear hcz32_0
            try clear hcz32_1
            try clear hcz32_2
            try clear hcz32_3
            try clear hcz33_0
            try clear hcz33_1
            try clear hcz33_2
            try clear hcz33_3
            try clear hcz37_0
            try clear hcz37_1
            try clear hcz37_2
            try clear hcz37_3
            try clear hcz38_0
            try clear hcz38_1
            try clear hcz38_2
            try clear hcz38_3
            try clear hcz42_0
            try clear hcz42_1
            try clear hcz42_2
            try clear hcz42_3
            try clear hcz43_0
            try clear hcz43_1
            try clear hcz43_2
            try clear hcz43_3
            try clear hcz54_0
            try clear hcz54_1
            try clear hcz54_2
            try clear hcz54_3
            try clear hcz55_0
            try clear hcz55_1
            try clear hcz55_2
            try clear hcz55_3
            try clear hcz59_0
            try clear hcz59_1
            try clear hcz59_2
            try clear hcz59_3
            try clear hcz60_0
            try clear hcz60_1
            try clear hcz60_2
            try clear hcz60_3
            try clear hcz64_0
            try clear hcz64_1
            try clear hcz64_2
            try clear hcz64_3
            try clear hcz65_0
            try clear hcz65_1
            try clear hcz65_2
            try clear hcz65_3
            try clear hfz10_0
            try clear hfz10_1
            try clear hfz10_2
            try clear hfz10_3
            try clear hfz12_0
            try clear hfz12_1
            try clear hfz12_2
            try clear hfz12_3
            try clear hfz22_0
            try clear hfz22_1
            try clear hfz22_2
            try clear hfz22_3
            try clear hfz23_0
            try clear hfz23_1
            try clear hfz23_2
            try clear hfz23_3
            try clear hfz27_0
            try clear hfz27_1
            try clear hfz27_2
            try clear hfz27_3
            try clear hfz28_0
            try clear hfz28_1
            try clear hfz28_2
            try clear hfz28_3
            try clear hfz32_0
            try clear hfz32_1
            try clear hfz32_2
            try clear hfz32_3
            try clear hfz33_0
            try clear hfz33_1
            try clear hfz33_2
            try clear hfz33_3
            try clear hfz37_0
            try clear hfz37_1
            try clear hfz37_2
            try clear hfz37_3
            try clear hfz38_0
            try clear hfz38_1
            try clear hfz38_2
            try clear hfz38_3
            try clear hfz42_0
            try clear hfz42_1
            try clear hfz42_2
            try clear hfz42_3
            try clear hfz43_0
            try clear hfz43_1
            try clear hfz43_2
            try clear hfz43_3
            try clear hfz54_0
            try clear hfz54_1
            try clear hfz54_2
            try clear hfz54_3
            try clear hfz55_0
            try clear hfz55_1
            try clear hfz55_2
            try clear hfz55_3
            try clear hfz59_0
            try clear hfz59_1
            try clear hfz59_2
            try clear hfz59_3
            try clear hfz60_0
            try clear hfz60_1
            try clear hfz60_2
            try clear hfz60_3
            try clear hfz64_0
            try clear hfz64_1
            try clear hfz64_2
            try clear hfz64_3
            try clear hfz65_0
            try clear hfz65_1
            try clear hfz65_2
            try clear hfz65_3
            try clear p2
            obtain ⟨x6_2, rfl, HA, HK2, HO_5, HO_5014003, HO_5015003, BK5013, BK5014, HB⟩ := hrel
            cases gk with
            | zero => exact absurd HA.out (by simp [laws_FnChangedRegion.l0])
            | succ k2 =>
              have H := HA.out
              clear HA
              simp only [laws_FnChangedRegion.l0] at H
              by_cases c69 : x6_2 < t5002
              · rw [if_pos c69] at H
                have c69b0 : decide (x6_2 < t5002) = true := decide_eq_true c69
                clear c69
                have H' := Aside0.mk H
                clear H
                have hnb70 := NB5013_5014.out
                have hnc70 := NB5014_5013.out
                have hcz71_0 : wr.cell? ⟨gb5013, 0, none⟩ = some (.int .i64 t5001) := (blk_cell BK5013.out 0).trans rfl
                have hcz71_1 : wr.cell? ⟨gb5013, 1, none⟩ = some (.int .i64 t5002) := (blk_cell BK5013.out 1).trans rfl
                have hcz71_2 : wr.cell? ⟨gb5013, 2, none⟩ = some (.int .i64 t5003) := (blk_cell BK5013.out 2).trans rfl
                have hcz71_3 : wr.cell? ⟨gb5013, 3, none⟩ = some (.slice Ao11 t5004.length co11) := (blk_cell BK5013.out 3).trans rfl
                have hfz71_0 := blk_frozen BK5013.out 0
                have hfz71_1 := blk_frozen BK5013.out 1
                have hfz71_2 := blk_frozen BK5013.out 2
                have hfz71_3 := blk_frozen BK5013.out 3
                go_wp2
                go_loopg [7] k2 (fun kq v7 w' => ∃ (x7_3 : Int), v7 = .int .i64 x7_3 ∧ Aside0 (laws_FnChangedRegion.l1 kq t5015 x6_2 x7_3 t5001 t5002 t5003 t5004 t5007 t5008 t5009 t5010 = some r) ∧ Aside0 (kq ≤ k2) ∧ Aside0 (Kd.R k47 47 w' w.heap.size (fun _ => True) v5016 t5015) ∧ Aside0 (Kd.Q (Kd.int .i64) 3 w' w.heap.size (fun k_ => some k_ ≠ ((.slice Ao13 t5010.length co13) : Value).ownBlock) (.slice Ao11 t5004.length co11) t5004) ∧ Aside0 (Kd.Q (Kd.int .i64) 3 w' w.heap.size (fun k_ => some k_ ≠ ((.slice Ao11 t5004.length co11) : Value).ownBlock) (.slice Ao13 t5010.length co13) t5010) ∧ Aside0 (w'.heap[gb5013]? = some (.cells #[.int .i64 t5001, .int .i64 t5002, .int .i64 t5003, (.slice Ao11 t5004.length co11)] 28 (0, 0))) ∧ Aside0 (w'.heap[gb5014]? = some (.cells #[.int .i64 t5007, .int .i64 t5008, .int .i64 t5009, (.slice Ao13 t5010.length co13)] 28 (0, 0))) ∧ Aside0 (Below w.heap.size w w'))
                case atStart => exact ⟨(0), (by first | rfl | (simp; done) | (simp [*]; done)), H', ⟨Nat.le_refl _⟩, ⟨by (with_reducible repeat (first | apply Kd.R_alloc | apply Kd.R_drewN | apply Kd.R_drew)); exact HO_5.out⟩, ⟨by (with_reducible repeat (first | apply Kd.Q_alloc | apply Kd.Q_drewN | apply Kd.Q_drew)); exact HO_5014003.out⟩, ⟨by (with_reducible repeat (first | apply Kd.Q_alloc | apply Kd.Q_drewN | apply Kd.Q_drew)); exact HO_5015003.out⟩, ⟨by (with_reducible repeat (first | refine blk_drewN ?_ _ | refine blk_drew ?_ | refine blk_alloc ?_ _)); exact BK5013.out⟩, ⟨by (with_reducible repeat (first | refine blk_drewN ?_ _ | refine blk_drew ?_ | refine blk_alloc ?_ _)); exact BK5014.out⟩, ⟨by repeat (first | (with_reducible first | exact HB.out | apply below_alloc | apply pw_below_drewN | apply below_drew1 | refine below_set ?_ GE5013.out | refine below_set ?_ GE5014.out) | exact HB.out)⟩⟩
                case round =>
                  clear H'
                  try clear c1
                  try clear c2
                  try clear c2b0
                  try clear c2b1
                  try clear p2
                  try clear c3
                  try clear c4
                  try clear c5
                  try clear c6
                  try clear c7
                  try clear c9
                  try clear c12
                  try clear c14
                  try clear c17
                  try clear c20
                  try clear c21
                  try clear c31
                  try clear c41
                  try clear c47
                  try clear c50
                  try clear c53
                  try clear c63
                  try clear c69
                  try clear c69b0
                  try clear c70
                  try clear hcz10_0
                  try clear hcz10_1
                  try clear hcz10_2
                  try clear hcz10_3
                  try clear hcz12_0
                  try clear hcz12_1
                  try clear hcz12_2
                  try clear hcz12_3
                  try clear hcz22_0
                  try clear hcz22_1
                  try clear hcz22_2
                  try clear hcz22_3
                  try clear hcz23_0
                  try clear hcz23_1
                  try clear hcz23_2
                  try clear hcz23_3
                  try clear hcz27_0
                  try clear hcz27_1
                  try clear hcz27_2
                  try clear hcz27_3
                  try clear hcz28_0
                  try clear hcz28_1
                  try clear hcz28_2
                  try clear hcz28_3
                  try clear hcz32_0
                  try clear hcz32_1
                  try clear hcz32_2
                  try clear hcz32_3
                  try clear hcz33_0
                  try clear hcz33_1
                  try clear hcz33_2
                  try clear hcz33_3
                  try clear hcz37_0
                  try clear hcz37_1
                  try clear hcz37_2
                  try clear hcz37_3
                  try clear hcz38_0
                  try clear hcz38_1
                  try clear hcz38_2
                  try clear hcz38_3
                  try clear hcz42_0
                  try clear hcz42_1
                  try clear hcz42_2
                  try clear hcz42_3
                  try clear hcz43_0
                  try clear hcz43_1
                  try clear hcz43_2
                  try clear hcz43_3
                  try clear hcz54_0
                  try clear hcz54_1
                  try clear hcz54_2
                  try clear hcz54_3
                  try clear hcz55_0
                  try clear hcz55_1
                  try clear hcz55_2
                  try clear hcz55_3
                  try clear hcz59_0
                  try clear hcz59_1
                  try clear hcz59_2
                  try clear hcz59_3
                  try clear hcz60_0
                  try clear hcz60_1
                  try clear hcz60_2
                  try clear hcz60_3
                  try clear hcz64_0
                  try clear hcz64_1
                  try clear hcz64_2
                  try clear hcz64_3
                  try clear hcz65_0
                  try clear hcz65_1
                  try clear hcz65_2
                  try clear hcz65_3
                  try clear hcz71_0
                  try clear hcz71_1
                  try clear hcz71_2
                  try clear hcz71_3
                  try clear hfz10_0
                  try clear hfz10_1
                  try clear hfz10_2
                  try clear hfz10_3
                  try clear hfz12_0
                  try clear hfz12_1
                  try clear hfz12_2
                  try clear hfz12_3
                  try clear hfz22_0
                  try clear hfz22_1
                  try clear hfz22_2
                  try clear hfz22_3
                  try clear hfz23_0
                  try clear hfz23_1
                  try clear hfz23_2
                  try clear hfz23_3
                  try clear hfz27_0
                  try clear hfz27_1
                  try clear hfz27_2
                  try clear hfz27_3
                  try clear hfz28_0
                  try clear hfz28_1
                  try clear hfz28_2
                  try clear hfz28_3
                  try clear hfz32_0
                  try clear hfz32_1
                  try clear hfz32_2
                  try clear hfz32_3
                  try clear hfz33_0
                  try clear hfz33_1
                  try clear hfz33_2
                  try clear hfz33_3
                  try clear hfz37_0
                  try clear hfz37_1
                  try clear hfz37_2
                  try clear hfz37_3
                  try clear hfz38_0
                  try clear hfz38_1
                  try clear hfz38_2
                  try clear hfz38_3
                  try clear hfz42_0
                  try clear hfz42_1
                  try clear hfz42_2
                  try clear hfz42_3
                  try clear hfz43_0
                  try clear hfz43_1
                  try clear hfz43_2
                  try clear hfz43_3
                  try clear hfz54_0
                  try clear hfz54_1
                  try clear hfz54_2
                  try clear hfz54_3
                  try clear hfz55_0
                  try clear hfz55_1
                  try clear hfz55_2
                  try clear hfz55_3
                  try clear hfz59_0
                  try clear hfz59_1
                  try clear hfz59_2
                  try clear hfz59_3
                  try clear hfz60_0
                  try clear hfz60_1
                  try clear hfz60_2
                  try clear hfz60_3
                  try clear hfz64_0
                  try clear hfz64_1
                  try clear hfz64_2
                  try clear hfz64_3
                  try clear hfz65_0
                  try clear hfz65_1
                  try clear hfz65_2
                  try clear hfz65_3
                  try clear hfz71_0
                  try clear hfz71_1
                  try clear hfz71_2
                  try clear hfz71_3
                  try clear p2
                  obtain ⟨x7_3, rfl, HA, HK3, HO_5, HO_5014003, HO_5015003, BK5013, BK5014, HB⟩ := hrel
                  cases gk with
                  | zero => exact absurd HA.out (by simp [laws_FnChangedRegion.l1])
                  | succ k3 =>
                    have H := HA.out
                    clear HA
                    simp only [laws_FnChangedRegion.l1] at H
                    by_cases c72 : x7_3 < t5001
                    · rw [if_pos c72] at H
                      have c72b0 : decide (x7_3 < t5001) = true := decide_eq_true c72
                      clear c72
                      replace H := Option.bind_eq_some_iff.mp H
                      obtain ⟨t5034, A730, H⟩ := H
                      replace H : ((impl_PixelAt.f t5001 t5002 t5003 t5004 x7_3 x6_2).bind fun t5035 => ((impl_PixelAt.f t5007 t5008 t5009 t5010 x7_3 x6_2).bind fun t5038 => ((laws_equalInts.f k3 t5035 t5038).bind fun t5041 => (if (t5034 == t5041) = true then (some false) else (laws_FnChangedRegion.l1 k3 t5015 x6_2 (wrap64 (x7_3 + 1)) t5001 t5002 t5003 t5004 t5007 t5008 t5009 t5010))))) = some r := H
                      have A73 := Aside0.mk A730
                      clear A730
                      replace H := Option.bind_eq_some_iff.mp H
                      obtain ⟨t5035, A740, H⟩ := H
                      replace H : ((impl_PixelAt.f t5007 t5008 t5009 t5010 x7_3 x6_2).bind fun t5038 => ((laws_equalInts.f k3 t5035 t5038).bind fun t5041 => (if (t5034 == t5041) = true then (some false) else (laws_FnChangedRegion.l1 k3 t5015 x6_2 (wrap64 (x7_3 + 1)) t5001 t5002 t5003 t5004 t5007 t5008 t5009 t5010)))) = some r := H
                      have A74 := Aside0.mk A740
                      clear A740
                      replace H := Option.bind_eq_some_iff.mp H
                      obtain ⟨t5038, A750, H⟩ := H
                      replace H : ((laws_equalInts.f k3 t5035 t5038).bind fun t5041 => (if (t5034 == t5041) = true then (some false) else (laws_FnChangedRegion.l1 k3 t5015 x6_2 (wrap64 (x7_3 + 1)) t5001 t5002 t5003 t5004 t5007 t5008 t5009 t5010))) = some r := H
                      have A75 := Aside0.mk A750
                      clear A750
                      replace H := Option.bind_eq_some_iff.mp H
                      obtain ⟨t5041, A760, H⟩ := H
                      replace H : (if (t5034 == t5041) = true then (some false) else (laws_FnChangedRegion.l1 k3 t5015 x6_2 (wrap64 (x7_3 + 1)) t5001 t5002 t5003 t5004 t5007 t5008 t5009 t5010)) = some r := H
                      have A76 := Aside0.mk A760
                      clear A760
                      by_cases c77 : (t5034 == t5041) = true
                      · rw [if_pos c77] at H
                        have c77b0 : (t5034 == t5041) = true := c77
                        (try (have c77b1 : decide (t5034 = t5041) = true := by simpa using c77))
                        (try (have c77b2 : (t5034 == t5041) = true := by simpa using c77))
                        clear c77
                        exact absurd ((Option.some.inj H).trans HRT.out) (by decide)
                      · rw [if_neg c77] at H
                        have c77b0 : (t5034 == t5041) = false := by simpa using c77
                        (try (have c77b1 : decide (t5034 = t5041) = false := by simpa using c77))
                        (try (have c77b2 : (t5034 == t5041) = false := by simpa using c77))
                        (try (have c77b3 : ¬ (t5034 = t5041) := by simpa using c77))
                        clear c77
                        have H' := Aside0.mk H
                        clear H
                        have hnb87 := NB5013_5014.out
                        have hnc87 := NB5014_5013.out
                        have hcz88_0 : wr.cell? ⟨gb5013, 0, none⟩ = some (.int .i64 t5001) := (blk_cell BK5013.out 0).trans rfl
                        have hcz88_1 : wr.cell? ⟨gb5013, 1, none⟩ = some (.int .i64 t5002) := (blk_cell BK5013.out 1).trans rfl
                        have hcz88_2 : wr.cell? ⟨gb5013, 2, none⟩ = some (.int .i64 t5003) := (blk_cell BK5013.out 2).trans rfl
                        have hcz88_3 : wr.cell? ⟨gb5013, 3, none⟩ = some (.slice Ao11 t5004.length co11) := (blk_cell BK5013.out 3).trans rfl
                        have hfz88_0 := blk_frozen BK5013.out 0
                        have hfz88_1 := blk_frozen BK5013.out 1
                        have hfz88_2 := blk_frozen BK5013.out 2
                        have hfz88_3 := blk_frozen BK5013.out 3
                        try go_wp2
                        have n0_ := Aside0.mk (Kd.R_drew HO_5.out)
                        have n1_ := Aside0.mk (Kd.Q_drew HO_5014003.out)
                        have n2_ := Aside0.mk (Kd.Q_drew HO_5015003.out)
                        have n3_ := Aside0.mk (blk_drew BK5013.out)
                        have n4_ := Aside0.mk (blk_drew BK5014.out)
                        have n5_ := Aside0.mk (below_drew1 HB.out)
                        clear HO_5
                        clear HO_5014003
                        clear HO_5015003
                        clear BK5013
                        clear BK5014
                        clear HB
                        have HO_5 := n0_
                        have HO_5014003 := n1_
                        have HO_5015003 := n2_
                        have BK5013 := n3_
                        have BK5014 := n4_
                        have HB := n5_
                        clear n0_ n1_ n2_ n3_ n4_ n5_
                        obtain ⟨Ao90, co90, eo90⟩ := Kd.R_slice HO_5.out
                        (first | subst eo90 | (injection eo90 with f1_ f2_ f3_; have f4_ := f1_.symm; have f5_ := f3_.symm; clear f1_ f2_ f3_; subst f4_; subst f5_))
                        refine start_ (n := 14) (S := fun w' => w'.cell? ⟨gb5013, 0, none⟩ = some (.int .i64 t5001) ∧ w'.cell? ⟨gb5013, 1, none⟩ = some (.int .i64 t5002) ∧ w'.cell? ⟨gb5013, 2, none⟩ = some (.int .i64 t5003) ∧ w'.cell? ⟨gb5013, 3, none⟩ = some (.slice Ao11 t5004.length co11) ∧ w'.cell? ⟨gb5014, 0, none⟩ = some (.int .i64 t5007) ∧ w'.cell? ⟨gb5014, 1, none⟩ = some (.int .i64 t5008) ∧ w'.cell? ⟨gb5014, 2, none⟩ = some (.int .i64 t5009) ∧ w'.cell? ⟨gb5014, 3, none⟩ = some (.slice Ao13 t5010.length co13)) (ds := []) #[false, false, false, false, false, false, false, false, false, false, false, false, false, false] (by kernel_rfl) rfl rfl ⟨(blk_cell BK5013.out 0).trans rfl, (blk_cell BK5013.out 1).trans rfl, (blk_cell BK5013.out 2).trans rfl, (blk_cell BK5013.out 3).trans rfl, (blk_cell BK5014.out 0).trans rfl, (blk_cell BK5014.out 1).trans rfl, (blk_cell BK5014.out 2).trans rfl, (blk_cell BK5014.out 3).trans rfl⟩ (fun hHeld => ?_); refine with_tabW laws_FnChangedRegion.tab13 laws_FnChangedRegion.bits13 (fun HT_ HW_ => ?_)
                        generalize wr.drew = w89 at HO_5 HO_5014003 HO_5015003 BK5013 BK5014 HB hHeld ⊢
                        refine pure_ (i := 0) (N := some 62) (v := ?_) (a' := ?_) #[true, false, false, false, false, false, false, false, false, false, false, false, false, false] rfl rfl (any_of HT_.out (by kernel_rfl)) (fun _ _ _ h => h) (Or.inl ⟨by rfl, ?_⟩) ?_ ?_
                        rotate_left
                        · intro w'
                          go_simp
                          with_reducible rfl
                        rotate_left
                        · simp only [Act.put, List.setIfInBounds_toArray, List.set_cons_zero, List.set_cons_succ, i64_w, i32_w]
                          rfl
                        refine pure_ (i := 1) (N := some 63) (v := ?_) (a' := ?_) #[true, true, false, false, false, false, false, false, false, false, false, false, false, false] rfl rfl (any_of HT_.out (by kernel_rfl)) (fun _ _ _ h => h) (Or.inl ⟨by rfl, ?_⟩) ?_ ?_
                        rotate_left
                        · intro w'
                          go_simp
                          with_reducible rfl
                        rotate_left
                        · simp only [Act.put, List.setIfInBounds_toArray, List.set_cons_zero, List.set_cons_succ, i64_w, i32_w]
                          rfl
                        refine pure_ (i := 2) (N := some 64) (v := ?_) (a' := ?_) #[true, true, true, false, false, false, false, false, false, false, false, false, false, false] rfl rfl (any_of HT_.out (by kernel_rfl)) (fun _ _ _ h => h) (Or.inl ⟨by rfl, ?_⟩) ?_ ?_
                        rotate_left
                        · intro w'
                          go_simp
                          with_reducible rfl
                        rotate_left
                        · simp only [Act.put, List.setIfInBounds_toArray, List.set_cons_zero, List.set_cons_succ, i64_w, i32_w]
                          rfl
                        refine pure_ (i := 5) (N := some 67) (v := ?_) (a' := ?_) #[true, true, true, false, false, true, false, false, false, false, false, false, false, false] rfl rfl (any_of HT_.out (by kernel_rfl)) (fun _ _ _ h => h) (Or.inl ⟨by rfl, ?_⟩) ?_ ?_
                        rotate_left
                        · intro w'
                          go_simp
                          with_reducible rfl
                        rotate_left
                        · simp only [Act.put, List.setIfInBounds_toArray, List.set_cons_zero, List.set_cons_succ, i64_w, i32_w]
                          rfl
                        refine pure_ (i := 6) (N := some 68) (v := ?_) (a' := ?_) #[true, true, true, false, false, true, true, false, false, false, false, false, false, false] rfl rfl (any_of HT_.out (by kernel_rfl)) (fun _ _ _ h => h) (Or.inl ⟨by rfl, ?_⟩) ?_ ?_
                        rotate_left
                        · intro w'
                          go_simp
                          with_reducible rfl
                        rotate_left
                        · simp only [Act.put, List.setIfInBounds_toArray, List.set_cons_zero, List.set_cons_succ, i64_w, i32_w]
                          rfl
                        refine pure_ (i := 9) (N := some 71) (v := ?_) (a' := ?_) #[true, true, true, false, false, true, true, false, false, true, false, false, false, false] rfl rfl (any_of HT_.out (by kernel_rfl)) (fun _ _ _ h => h) (Or.inl ⟨by rfl, ?_⟩) ?_ ?_
                        rotate_left
                        · intro w'
                          go_simp
                          with_reducible rfl
                        rotate_left
                        · simp only [Act.put, List.setIfInBounds_toArray, List.set_cons_zero, List.set_cons_succ, i64_w, i32_w]
                          rfl
                        refine pure_ (i := 10) (N := some 72) (v := ?_) (a' := ?_) #[true, true, true, false, false, true, true, false, false, true, true, false, false, false] rfl rfl (any_of HT_.out (by kernel_rfl)) (fun _ _ _ h => h) (Or.inl ⟨by rfl, ?_⟩) ?_ ?_
                        rotate_left
                        · intro w'
                          go_simp
                          with_reducible rfl
                        rotate_left
                        · simp only [Act.put, List.setIfInBounds_toArray, List.set_cons_zero, List.set_cons_succ, i64_w, i32_w]
                          rfl
                        refine take_ (i := 4) (N := some 66) (v := ?_) (a' := ?_) #[true, true, true, false, true, true, true, false, false, true, true, false, false, false] rfl rfl (take_ofW HT_.out HW_.out (by kernel_rfl)) (fun _ _ _ h => h) (Or.inl ⟨by rfl, ?_⟩) hHeld ?_ ?_
                        rotate_left
                        · rintro w' ⟨s0, s1, s2, s3, s4, s5, s6, s7⟩
                          go_simp
                          with_reducible rfl
                        rotate_left
                        · simp only [Act.put, List.setIfInBounds_toArray, List.set_cons_zero, List.set_cons_succ, i64_w, i32_w]
                          rfl
                        refine take_ (i := 8) (N := some 70) (v := ?_) (a' := ?_) #[true, true, true, false, true, true, true, false, true, true, true, false, false, false] rfl rfl (take_ofW HT_.out HW_.out (by kernel_rfl)) (fun _ _ _ h => h) (Or.inl ⟨by rfl, ?_⟩) hHeld ?_ ?_
                        rotate_left
                        · rintro w' ⟨s0, s1, s2, s3, s4, s5, s6, s7⟩
                          go_simp
                          with_reducible rfl
                        rotate_left
                        · simp only [Act.put, List.setIfInBounds_toArray, List.set_cons_zero, List.set_cons_succ, i64_w, i32_w]
                          rfl
                        refine one_ (i := 3) (N := some 65) #[true, true, true, true, true, true, true, false, true, true, true, false, false, false] rfl rfl (one_of HT_.out (by kernel_rfl)) (by decide) (fun K hK => ?_)
                        refine goes_ Try.func22 (by kernel_rfl) rfl #[.slice Ao90 t5015.length co90, .int .i64 x7_3, .int .i64 x6_2] (by rfl) rfl rfl (by (try simp only [List.map_toArray, List.map_cons, List.map_nil]); first | done | rfl | (simp only [List.length_drop, List.length_take]; rfl)) ?_
                        with_reducible refine (impl_RegionHas.calls _ _ t5015 x7_3 x6_2 t5034 _ ?side1 ?side2 A73.out).mono ?_
                        (case side1 => repeat (first | exact (Kd.R_reads' HO_5.out).2.2 | (with_reducible refine Kd.C_alloc ?_ _) | (with_reducible refine Kd.C_drewN ?_ _) | (with_reducible refine Kd.C_drew ?_)))
                        (case side2 => exact (Kd.R_reads' HO_5.out).2.1)
                        rintro e w91 ⟨rfl, hb⟩
                        refine ⟨_, rfl, ?_⟩
                        have n0_ := Aside0.mk (Kd.R_below (by (with_reducible repeat (first | apply Kd.R_alloc | apply Kd.R_drewN | apply Kd.R_drew)); exact HO_5.out) hb)
                        have n1_ := Aside0.mk (Kd.Q_below (by (with_reducible repeat (first | apply Kd.Q_alloc | apply Kd.Q_drewN | apply Kd.Q_drew)); exact HO_5014003.out) hb)
                        have n2_ := Aside0.mk (Kd.Q_below (by (with_reducible repeat (first | apply Kd.Q_alloc | apply Kd.Q_drewN | apply Kd.Q_drew)); exact HO_5015003.out) hb)
                        have n3_ := Aside0.mk (blk_below (g := gb5013) (o := .cells #[.int .i64 t5001, .int .i64 t5002, .int .i64 t5003, .slice Ao11 t5004.length co11] 28 (0, 0)) (by (with_reducible repeat (first | refine blk_drewN ?_ _ | refine blk_drew ?_ | refine blk_alloc ?_ _)); exact BK5013.out) hb)
                        have n4_ := Aside0.mk (blk_below (g := gb5014) (o := .cells #[.int .i64 t5007, .int .i64 t5008, .int .i64 t5009, .slice Ao13 t5010.length co13] 28 (0, 0)) (by (with_reducible repeat (first | refine blk_drewN ?_ _ | refine blk_drew ?_ | refine blk_alloc ?_ _)); exact BK5014.out) hb)
                        have n5_ := Aside0.mk (below_step (by repeat (first | (with_reducible first | exact HB.out | apply below_alloc | apply pw_below_drewN | apply below_drew1 | refine below_set ?_ GE5013.out | refine below_set ?_ GE5014.out) | exact HB.out)) hb)
                        clear HO_5
                        clear HO_5014003
                        clear HO_5015003
                        clear BK5013
                        clear BK5014
                        clear HB
                        have HO_5 := n0_
                        have HO_5014003 := n1_
                        have HO_5015003 := n2_
                        have BK5013 := n3_
                        have BK5014 := n4_
                        have HB := n5_
                        clear n0_ n1_ n2_ n3_ n4_ n5_
                        (try clear hb)
                        (try clear hb2)
                        (try clear hk)
                        (try clear hi)
                        refine hK.out _ _ ⟨(blk_cell BK5013.out 0).trans rfl, (blk_cell BK5013.out 1).trans rfl, (blk_cell BK5013.out 2).trans rfl, (blk_cell BK5013.out 3).trans rfl, (blk_cell BK5014.out 0).trans rfl, (blk_cell BK5014.out 1).trans rfl, (blk_cell BK5014.out 2).trans rfl, (blk_cell BK5014.out 3).trans rfl⟩ (fun hHeld => ?_)
                        clear hK K
                        refine norm_ (a' := ?_) ?_ ?_
                        rotate_left
                        · show Act.put _ (some 65) _ = _
                          simp only [Act.put, List.setIfInBounds_toArray, List.set_cons_zero, List.set_cons_succ, i64_w, i32_w]
                          rfl
                        refine one_ (i := 7) (N := some 69) #[true, true, true, true, true, true, true, true, true, true, true, false, false, false] rfl rfl (one_of HT_.out (by kernel_rfl)) (by decide) (fun K hK => ?_)
                        refine goes_ Try.func24 (by kernel_rfl) rfl #[.agg #[.int .i64 t5001, .int .i64 t5002, .int .i64 t5003, .slice Ao11 t5004.length co11], .int .i64 x7_3, .int .i64 x6_2] (by rfl) rfl rfl (by (try simp only [List.map_toArray, List.map_cons, List.map_nil]); first | done | rfl | (simp only [List.length_drop, List.length_take]; rfl)) ?_
                        with_reducible refine (impl_PixelAt.calls t5001 t5002 t5003 _ _ t5004 x7_3 x6_2 t5035 _ ?side1 ?side2 A74.out).mono ?_
                        (case side1 => repeat (first | exact (Kd.Q_reads' HO_5014003.out).2.2 | (with_reducible refine Kd.C_alloc ?_ _) | (with_reducible refine Kd.C_drewN ?_ _) | (with_reducible refine Kd.C_drew ?_)))
                        (case side2 => exact (Kd.Q_reads' HO_5014003.out).2.1)
                        rintro e w92 ⟨v5036, rfl, ho0, hb⟩
                        refine ⟨_, rfl, ?_⟩
                        have n0_ := Aside0.mk (Kd.R_below (by (with_reducible repeat (first | apply Kd.R_alloc | apply Kd.R_drewN | apply Kd.R_drew)); exact HO_5.out) hb)
                        have n1_ := Aside0.mk (Kd.Q_elder' (by (with_reducible repeat (first | apply Kd.Q_alloc | apply Kd.Q_drewN | apply Kd.Q_drew)); exact HO_5014003.out) (Kd.R_base ho0) hb)
                        have n2_ := Aside0.mk (Kd.Q_elder' (by (with_reducible repeat (first | apply Kd.Q_alloc | apply Kd.Q_drewN | apply Kd.Q_drew)); exact HO_5015003.out) (Kd.R_base ho0) hb)
                        have n3_ := Aside0.mk (Kd.R_lower (Kd.R_new' (Kd.R_new' ho0 (Kd.Q_lt (by (with_reducible repeat (first | apply Kd.Q_alloc | apply Kd.Q_drewN | apply Kd.Q_drew)); exact HO_5014003.out))) (Kd.Q_lt (by (with_reducible repeat (first | apply Kd.Q_alloc | apply Kd.Q_drewN | apply Kd.Q_drew)); exact HO_5015003.out))) (below_size (by repeat (first | (with_reducible first | exact HB.out | apply below_alloc | apply pw_below_drewN | apply below_drew1 | refine below_set ?_ GE5013.out | refine below_set ?_ GE5014.out) | exact HB.out))))
                        have n4_ := Aside0.mk (blk_below (g := gb5013) (o := .cells #[.int .i64 t5001, .int .i64 t5002, .int .i64 t5003, .slice Ao11 t5004.length co11] 28 (0, 0)) (by (with_reducible repeat (first | refine blk_drewN ?_ _ | refine blk_drew ?_ | refine blk_alloc ?_ _)); exact BK5013.out) hb)
                        have n5_ := Aside0.mk (blk_below (g := gb5014) (o := .cells #[.int .i64 t5007, .int .i64 t5008, .int .i64 t5009, .slice Ao13 t5010.length co13] 28 (0, 0)) (by (with_reducible repeat (first | refine blk_drewN ?_ _ | refine blk_drew ?_ | refine blk_alloc ?_ _)); exact BK5014.out) hb)
                        have n6_ := Aside0.mk (below_step (by repeat (first | (with_reducible first | exact HB.out | apply below_alloc | apply pw_below_drewN | apply below_drew1 | refine below_set ?_ GE5013.out | refine below_set ?_ GE5014.out) | exact HB.out)) hb)
                        clear HO_5
                        clear HO_5014003
                        clear HO_5015003
                        clear BK5013
                        clear BK5014
                        clear HB
                        have HO_5 := n0_
                        have HO_5014003 := n1_
                        have HO_5015003 := n2_
                        have HO5037 := n3_
                        have BK5013 := n4_
                        have BK5014 := n5_
                        have HB := n6_
                        clear n0_ n1_ n2_ n3_ n4_ n5_ n6_
                        (try clear hb)
                        (try clear hb2)
                        (try clear hk)
                        (try clear hi)
                        (try clear ho0)
                        refine hK.out _ _ ⟨(blk_cell BK5013.out 0).trans rfl, (blk_cell BK5013.out 1).trans rfl, (blk_cell BK5013.out 2).trans rfl, (blk_cell BK5013.out 3).trans rfl, (blk_cell BK5014.out 0).trans rfl, (blk_cell BK5014.out 1).trans rfl, (blk_cell BK5014.out 2).trans rfl, (blk_cell BK5014.out 3).trans rfl⟩ (fun hHeld => ?_)
                        clear hK K
                        refine norm_ (a' := ?_) ?_ ?_
                        rotate_left
                        · show Act.put _ (some 69) _ = _
                          simp only [Act.put, List.setIfInBounds_toArray, List.set_cons_zero, List.set_cons_succ, i64_w, i32_w]
                          rfl
                        refine one_ (i := 11) (N := some 73) #[true, true, true, true, true, true, true, true, true, true, true, true, false, false] rfl rfl (one_of HT_.out (by kernel_rfl)) (by decide) (fun K hK => ?_)
                        refine goes_ Try.func24 (by kernel_rfl) rfl #[.agg #[.int .i64 t5007, .int .i64 t5008, .int .i64 t5009, .slice Ao13 t5010.length co13], .int .i64 x7_3, .int .i64 x6_2] (by rfl) rfl rfl (by (try simp only [List.map_toArray, List.map_cons, List.map_nil]); first | done | rfl | (simp only [List.length_drop, List.length_take]; rfl)) ?_
                        with_reducible refine (impl_PixelAt.calls t5007 t5008 t5009 _ _ t5010 x7_3 x6_2 t5038 _ ?side1 ?side2 A75.out).mono ?_
                        (case side1 => repeat (first | exact (Kd.Q_reads' HO_5015003.out).2.2 | (with_reducible refine Kd.C_alloc ?_ _) | (with_reducible refine Kd.C_drewN ?_ _) | (with_reducible refine Kd.C_drew ?_)))
                        (case side2 => exact (Kd.Q_reads' HO_5015003.out).2.1)
                        rintro e w93 ⟨v5039, rfl, ho0, hb⟩
                        refine ⟨_, rfl, ?_⟩
                        have n0_ := Aside0.mk (Kd.R_below (by (with_reducible repeat (first | apply Kd.R_alloc | apply Kd.R_drewN | apply Kd.R_drew)); exact HO_5.out) hb)
                        have n1_ := Aside0.mk (Kd.Q_elder' (by (with_reducible repeat (first | apply Kd.Q_alloc | apply Kd.Q_drewN | apply Kd.Q_drew)); exact HO_5014003.out) (Kd.R_base ho0) hb)
                        have n2_ := Aside0.mk (Kd.Q_elder' (by (with_reducible repeat (first | apply Kd.Q_alloc | apply Kd.Q_drewN | apply Kd.Q_drew)); exact HO_5015003.out) (Kd.R_base ho0) hb)
                        have n3_ := Aside0.mk (Kd.R_elder' (by (with_reducible repeat (first | apply Kd.R_alloc | apply Kd.R_drewN | apply Kd.R_drew)); exact HO5037.out) (Kd.R_base ho0) hb)
                        have n4_ := Aside0.mk (Kd.R_lower (Kd.R_new' (Kd.R_new' (Kd.R_new' ho0 (Kd.Q_lt (by (with_reducible repeat (first | apply Kd.Q_alloc | apply Kd.Q_drewN | apply Kd.Q_drew)); exact HO_5014003.out))) (Kd.Q_lt (by (with_reducible repeat (first | apply Kd.Q_alloc | apply Kd.Q_drewN | apply Kd.Q_drew)); exact HO_5015003.out))) (Kd.R_lt (by (with_reducible repeat (first | apply Kd.R_alloc | apply Kd.R_drewN | apply Kd.R_drew)); exact HO5037.out))) (below_size (by repeat (first | (with_reducible first | exact HB.out | apply below_alloc | apply pw_below_drewN | apply below_drew1 | refine below_set ?_ GE5013.out | refine below_set ?_ GE5014.out) | exact HB.out))))
                        have n5_ := Aside0.mk (blk_below (g := gb5013) (o := .cells #[.int .i64 t5001, .int .i64 t5002, .int .i64 t5003, .slice Ao11 t5004.length co11] 28 (0, 0)) (by (with_reducible repeat (first | refine blk_drewN ?_ _ | refine blk_drew ?_ | refine blk_alloc ?_ _)); exact BK5013.out) hb)
                        have n6_ := Aside0.mk (blk_below (g := gb5014) (o := .cells #[.int .i64 t5007, .int .i64 t5008, .int .i64 t5009, .slice Ao13 t5010.length co13] 28 (0, 0)) (by (with_reducible repeat (first | refine blk_drewN ?_ _ | refine blk_drew ?_ | refine blk_alloc ?_ _)); exact BK5014.out) hb)
                        have n7_ := Aside0.mk (below_step (by repeat (first | (with_reducible first | exact HB.out | apply below_alloc | apply pw_below_drewN | apply below_drew1 | refine below_set ?_ GE5013.out | refine below_set ?_ GE5014.out) | exact HB.out)) hb)
                        clear HO_5
                        clear HO_5014003
                        clear HO_5015003
                        clear HO5037
                        clear BK5013
                        clear BK5014
                        clear HB
                        have HO_5 := n0_
                        have HO_5014003 := n1_
                        have HO_5015003 := n2_
                        have HO5037 := n3_
                        have HO5040 := n4_
                        have BK5013 := n5_
                        have BK5014 := n6_
                        have HB := n7_
                        clear n0_ n1_ n2_ n3_ n4_ n5_ n6_ n7_
                        (try clear hb)
                        (try clear hb2)
                        (try clear hk)
                        (try clear hi)
                        (try clear ho0)
                        obtain ⟨Ao94, co94, eo94⟩ := Kd.R_slice HO5037.out
                        (first | subst eo94 | (injection eo94 with f1_ f2_ f3_; have f4_ := f1_.symm; have f5_ := f3_.symm; clear f1_ f2_ f3_; subst f4_; subst f5_))
                        obtain ⟨Ao95, co95, eo95⟩ := Kd.R_slice HO5040.out
                        (first | subst eo95 | (injection eo95 with f1_ f2_ f3_; have f4_ := f1_.symm; have f5_ := f3_.symm; clear f1_ f2_ f3_; subst f4_; subst f5_))
                        refine hK.out _ _ ⟨(blk_cell BK5013.out 0).trans rfl, (blk_cell BK5013.out 1).trans rfl, (blk_cell BK5013.out 2).trans rfl, (blk_cell BK5013.out 3).trans rfl, (blk_cell BK5014.out 0).trans rfl, (blk_cell BK5014.out 1).trans rfl, (blk_cell BK5014.out 2).trans rfl, (blk_cell BK5014.out 3).trans rfl⟩ (fun hHeld => ?_)
                        clear hK K
                        refine norm_ (a' := ?_) ?_ ?_
                        rotate_left
                        · show Act.put _ (some 73) _ = _
                          simp only [Act.put, List.setIfInBounds_toArray, List.set_cons_zero, List.set_cons_succ, i64_w, i32_w]
                          rfl
                        refine one_ (i := 12) (N := some 74) #[true, true, true, true, true, true, true, true, true, true, true, true, true, false] rfl rfl (one_of HT_.out (by kernel_rfl)) (by decide) (fun K hK => ?_)
                        refine goes_ Try.func23 (by kernel_rfl) rfl #[.slice Ao94 t5035.length co94, .slice Ao95 t5038.length co95] (by rfl) rfl rfl (by (try simp only [List.map_toArray, List.map_cons, List.map_nil]); first | done | rfl | (simp only [List.length_drop, List.length_take]; rfl)) ?_
                        with_reducible refine (laws_equalInts.calls k3 _ _ t5035 _ _ t5038 t5041 _ ?side1 ?side2 ?side3 ?side4 A76.out).mono ?_
                        (case side1 => repeat (first | exact (Kd.R_reads' HO5037.out).2.2 | (with_reducible refine Kd.C_alloc ?_ _) | (with_reducible refine Kd.C_drewN ?_ _) | (with_reducible refine Kd.C_drew ?_)))
                        (case side2 => exact (Kd.R_reads' HO5037.out).2.1)
                        (case side3 => repeat (first | exact (Kd.R_reads' HO5040.out).2.2 | (with_reducible refine Kd.C_alloc ?_ _) | (with_reducible refine Kd.C_drewN ?_ _) | (with_reducible refine Kd.C_drew ?_)))
                        (case side4 => exact (Kd.R_reads' HO5040.out).2.1)
                        rintro e w' ⟨rfl, ⟨nd, rfl⟩⟩
                        refine ⟨_, rfl, ?_⟩
                        refine hK.out _ _ ⟨(blk_cell BK5013.out 0).trans rfl, (blk_cell BK5013.out 1).trans rfl, (blk_cell BK5013.out 2).trans rfl, (blk_cell BK5013.out 3).trans rfl, (blk_cell BK5014.out 0).trans rfl, (blk_cell BK5014.out 1).trans rfl, (blk_cell BK5014.out 2).trans rfl, (blk_cell BK5014.out 3).trans rfl⟩ (fun hHeld => ?_)
                        clear hK K
                        refine norm_ (a' := ?_) ?_ ?_
                        rotate_left
                        · show Act.put _ (some 74) _ = _
                          simp only [Act.put, List.setIfInBounds_toArray, List.set_cons_zero, List.set_cons_succ, i64_w, i32_w]
                          rfl
                        refine pure_ (i := 13) (N := some 75) (v := ?_) (a' := ?_) #[true, true, true, true, true, true, true, true, true, true, true, true, true, true] rfl rfl (any_of HT_.out (by kernel_rfl)) (fun _ _ _ h => h) (Or.inl ⟨by rfl, ?_⟩) ?_ ?_
                        rotate_left
                        · intro w'
                          go_simp
                          with_reducible rfl
                        rotate_left
                        · simp only [Act.put, List.setIfInBounds_toArray, List.set_cons_zero, List.set_cons_succ, i64_w, i32_w]
                          rfl
                        refine done_ (done_of HT_.out (by kernel_rfl)) ?_
                        try go_wp2
                        go_roundg k3
                        case measure => have := HJ4.out; have := HK2.out; have := HK3.out; omega
                        case rel => exact ⟨(wrap64 (x7_3 + 1)), (by first | rfl | (simp; done) | (simp [*]; done)), H', ⟨by have := HJ4.out; have := HK2.out; have := HK3.out; omega⟩, ⟨by (with_reducible repeat (first | apply Kd.R_alloc | apply Kd.R_drewN | apply Kd.R_drew)); exact HO_5.out⟩, ⟨by (with_reducible repeat (first | apply Kd.Q_alloc | apply Kd.Q_drewN | apply Kd.Q_drew)); exact Kd.Q_mono HO_5014003.out (fun _ hk => hk.1.1)⟩, ⟨by (with_reducible repeat (first | apply Kd.Q_alloc | apply Kd.Q_drewN | apply Kd.Q_drew)); exact Kd.Q_mono HO_5015003.out (fun _ hk => hk.1.1)⟩, ⟨by (with_reducible repeat (first | refine blk_drewN ?_ _ | refine blk_drew ?_ | refine blk_alloc ?_ _)); exact BK5013.out⟩, ⟨by (with_reducible repeat (first | refine blk_drewN ?_ _ | refine blk_drew ?_ | refine blk_alloc ?_ _)); exact BK5014.out⟩, ⟨by repeat (first | (with_reducible first | exact HB.out | apply below_alloc | apply pw_below_drewN | apply below_drew1 | refine below_set ?_ GE5013.out | refine below_set ?_ GE5014.out) | exact HB.out)⟩⟩
                    · rw [if_neg c72] at H
                      have c72b0 : decide (x7_3 < t5001) = false := decide_eq_false c72
                      clear c72
                      have H' := Aside0.mk H
                      clear H
                      have hnb96 := NB5013_5014.out
                      have hnc96 := NB5014_5013.out
                      have hcz97_0 : wr.cell? ⟨gb5013, 0, none⟩ = some (.int .i64 t5001) := (blk_cell BK5013.out 0).trans rfl
                      have hcz97_1 : wr.cell? ⟨gb5013, 1, none⟩ = some (.int .i64 t5002) := (blk_cell BK5013.out 1).trans rfl
                      have hcz97_2 : wr.cell? ⟨gb5013, 2, none⟩ = some (.int .i64 t5003) := (blk_cell BK5013.out 2).trans rfl
                      have hcz97_3 : wr.cell? ⟨gb5013, 3, none⟩ = some (.slice Ao11 t5004.length co11) := (blk_cell BK5013.out 3).trans rfl
                      have hfz97_0 := blk_frozen BK5013.out 0
                      have hfz97_1 := blk_frozen BK5013.out 1
                      have hfz97_2 := blk_frozen BK5013.out 2
                      have hfz97_3 := blk_frozen BK5013.out 3
                      go_wp2
                      go_roundg k3
                      case measure => have := HJ4.out; have := HK2.out; have := HK3.out; omega
                      case rel => exact ⟨(wrap64 (x6_2 + 1)), (by first | rfl | (simp; done) | (simp [*]; done)), H', ⟨by have := HJ4.out; have := HK2.out; have := HK3.out; omega⟩, ⟨by (with_reducible repeat (first | apply Kd.R_alloc | apply Kd.R_drewN | apply Kd.R_drew)); exact HO_5.out⟩, ⟨by (with_reducible repeat (first | apply Kd.Q_alloc | apply Kd.Q_drewN | apply Kd.Q_drew)); exact HO_5014003.out⟩, ⟨by (with_reducible repeat (first | apply Kd.Q_alloc | apply Kd.Q_drewN | apply Kd.Q_drew)); exact HO_5015003.out⟩, ⟨by (with_reducible repeat (first | refine blk_drewN ?_ _ | refine blk_drew ?_ | refine blk_alloc ?_ _)); exact BK5013.out⟩, ⟨by (with_reducible repeat (first | refine blk_drewN ?_ _ | refine blk_drew ?_ | refine blk_alloc ?_ _)); exact BK5014.out⟩, ⟨by repeat (first | (with_reducible first | exact HB.out | apply below_alloc | apply pw_below_drewN | apply below_drew1 | refine below_set ?_ GE5013.out | refine below_set ?_ GE5014.out) | exact HB.out)⟩⟩
              · rw [if_neg c69] at H
                have c69b0 : decide (x6_2 < t5002) = false := decide_eq_false c69
                clear c69
                obtain rfl := Option.some.inj H
                have hnb98 := NB5013_5014.out
                have hnc98 := NB5014_5013.out
                have hcz99_0 : wr.cell? ⟨gb5013, 0, none⟩ = some (.int .i64 t5001) := (blk_cell BK5013.out 0).trans rfl
                have hcz99_1 : wr.cell? ⟨gb5013, 1, none⟩ = some (.int .i64 t5002) := (blk_cell BK5013.out 1).trans rfl
                have hcz99_2 : wr.cell? ⟨gb5013, 2, none⟩ = some (.int .i64 t5003) := (blk_cell BK5013.out 2).trans rfl
                have hcz99_3 : wr.cell? ⟨gb5013, 3, none⟩ = some (.slice Ao11 t5004.length co11) := (blk_cell BK5013.out 3).trans rfl
                have hfz99_0 := blk_frozen BK5013.out 0
                have hfz99_1 := blk_frozen BK5013.out 1
                have hfz99_2 := blk_frozen BK5013.out 2
                have hfz99_3 := blk_frozen BK5013.out 3
                go_wp2
                go_ret
                exact ⟨by first | rfl | (simp [errW_none, errW_some] <;> rfl) | (simp [*, errW_none, errW_some] <;> rfl), by repeat (first | (with_reducible first | exact HB.out | apply below_alloc | apply pw_below_drewN | apply below_drew1 | refine below_set ?_ GE5013.out | refine below_set ?_ GE5014.out) | exact HB.out)⟩

/-- THE ONE PURE STATEMENT of laws_FnChangedRegion: yours. -/
def laws_FnChangedRegion.Pure : Prop := ∀ (l0 : List Int), l0.length ≤ maxLen → l0.length * 1 ≤ 140737488351232 → (∀ x ∈ l0, (Lit.int .u8 x).wf = true) → ∃ k, laws_FnChangedRegion.f k l0 = some true
theorem laws_FnChangedRegion.walk (P : laws_FnChangedRegion.Pure) (a0 : Option Addr) (len0 cap0 : Nat) (z0 : List Int) (w : World) (w0 : (a0 = none ∧ len0 = 0 ∧ cap0 = 0 ∧ z0 = []) ∨ ∃ x, a0 = some x ∧ len0 ≤ cap0 ∧ cap0 ≤ maxLen ∧ z0.length = cap0 ∧ (∀ i, i < z0.length → w.cell? (x.add i) = some (.int .u8 (z0.getD i 0))) ∧ ∀ n ∈ z0, (Lit.int .u8 n).wf = true) (y0 : len0 * 1 ≤ 140737488351232) :
    Calls Try.prog 4 #[.slice a0 len0 cap0] w fun e w' => e = .returned (.bool true) ∧ Below w.heap.size w w' := by
  obtain ⟨l0, rfl, hr0, hm0, hw0, hc0⟩ := ReadsInt.ofRowC w0
  obtain ⟨k, h⟩ := P l0 hm0 y0 hw0
  refine (laws_FnChangedRegion.calls k _ _ l0 true w (Kd.C_of_reads (d := (0 : Int)) (h1 := fun _ => rfl) hr0) hc0 h rfl).mono ?_
  rintro e w' ⟨rfl, hd⟩
  exact ⟨rfl, hd⟩

end Go.Proofs.Ytbgohbinonkhfaa.Q

/- Grids and their runs, as the reference has them: lists of 256 bools. -/
namespace Go.Proofs.Ytbgohbinonkhfaa.Pure
open Go.RowKit Go.Proofs.Ytbgohbinonkhfaa.Q Go.Proofs.YtbgohbinonkhfaaW.PrintWords Go.Proofs.YtbgohbinonkhfaaW.PrintLast Go.Proofs.YtbgohbinonkhfaaW.PrintMore
set_option linter.unusedVariables false
set_option linter.unusedSimpArgs false

/-- A grid as a list. -/
def tab (g : Nat → Bool) : List Bool := (List.range 256).map g
theorem tab_length (g : Nat → Bool) : (tab g).length = 256 := by simp [tab]
theorem tab_get (g : Nat → Bool) (i : Nat) (h : i < 256) : rdOf false (tab g) (i : Int) = g i := by
  simp [rdOf, tab, List.getD_eq_getElem?_getD, h]
theorem tab_set (g : Nat → Bool) (i : Nat) (b : Bool) : (tab g).set i b = tab (fun p => if p = i then b else g p) := by
  apply List.ext_getElem
  · simp [tab]
  · intro j h1 h2
    rw [List.getElem_set]
    simp only [tab, List.getElem_map, List.getElem_range]
    by_cases e : i = j
    · rw [if_pos e, if_pos e.symm]
    · rw [if_neg e, if_neg (fun h => e h.symm)]
theorem tab_congr {g g' : Nat → Bool} (h : ∀ p, p < 256 → g p = g' p) : tab g = tab g' := by
  unfold tab
  apply List.map_congr_left
  intro p hp
  exact h p (by simpa using hp)
theorem tab_false : List.replicate 256 false = tab (fun _ => false) := by
  refine List.ext_getElem (by rw [List.length_replicate, tab_length]) (fun j h1 h2 => ?_)
  rw [List.getElem_replicate]
  simp only [tab, List.getElem_map]
/-! the reference's grid -/
/-! the reference's runs -/
def rowRest (g : Nat → Bool) (y x : Nat) (from_ : Int) : List Run :=
  if from_ < 0 then scanRow g y x else ⟨(y : Int), from_, (endAt g y (16 - x) x : Nat)⟩ :: scanRow g y (endAt g y (16 - x) x + 1)
theorem spec_runsOf_ev (g : Nat → Bool) : Ev (fun k => spec_runsOf.f k (tab g)) (runsL g) := by
  have key := ev_up2 16 (fun k y (s : List Run) => spec_runsOf.l0 k (tab g) s (y : Int)) (fun y s => s = runsTo g y ∧ s.length ≤ 17 * y) (fun _ _ => runsL g)
    (by
      intro y s hy hs
      right
      have inner : ∀ r, (∀ acc : List Run, acc = runsTo g (y + 1) → acc.length ≤ 17 * (y + 1) → Ev (fun k => spec_runsOf.l0 k (tab g) acc ((y + 1 : Nat) : Int)) r) →
          Ev (fun k => spec_runsOf.l1 k (tab g) s (y : Int) (-1) 0) r := by
        intro r hnext
        have h := ev_up2 17 (fun k x (q : List Run × Int) => spec_runsOf.l1 k (tab g) q.1 (y : Int) q.2 (x : Int))
          (fun x q => q.1 ++ rowRest g y x q.2 = runsTo g (y + 1) ∧ q.1.length ≤ 17 * y + x ∧ (q.2 = -1 ∨ (0 ≤ q.2 ∧ q.2 < x ∧ x ≤ 16))) (fun _ _ => r)
          (by
            intro x q hx hq
            obtain ⟨acc, fr⟩ := q
            obtain ⟨h1, h2, h3⟩ := hq
            simp only at h1 h2 h3
            right
            have j3 : ∀ (b : Bool), (x < 16 → b = g (y * 16 + x)) → (x = 16 → b = false) → ∃ s' : List Run × Int,
                (∀ r, Ev (fun k => spec_runsOf.l1 k (tab g) s'.1 (y : Int) s'.2 ((x + 1 : Nat) : Int)) r → Ev (fun k => spec_runsOf.j2 k (tab g) acc (y : Int) fr (x : Int) b) r) ∧
                (s'.1 ++ rowRest g y (x + 1) s'.2 = runsTo g (y + 1) ∧ s'.1.length ≤ 17 * y + (x + 1) ∧ (s'.2 = -1 ∨ (0 ≤ s'.2 ∧ s'.2 < ((x + 1 : Nat) : Int) ∧ x + 1 ≤ 16))) := by
              intro b hb hb16
              rcases h3 with h3 | h3
              · subst h3
                cases b with
                | true =>
                  have hx16 : x < 16 := by
                    by_cases c : x = 16
                    · have := hb16 c; cases this
                    · omega
                  refine ⟨(acc, (x : Int)), fun r hr => ?_, ?_, by simp only; omega, .inr (by simp only; omega)⟩
                  · refine Ev.step (f := fun k => spec_runsOf.j3 k (tab g) acc (y : Int) (-1) (x : Int) true true) (fun k => ?_) (Ev.step (fun k => ?_) hr)
                    · simp only [spec_runsOf.j2]; simp
                    · simp only [spec_runsOf.j3]
                      rw [if_pos trivial, if_pos trivial, w64n x (by omega)]
                  · have hv := (hb hx16).symm
                    rw [← h1]
                    show acc ++ rowRest g y (x + 1) (x : Int) = acc ++ rowRest g y x (-1)
                    unfold rowRest
                    rw [if_neg (by omega), if_pos (by omega), scan_true g y x hx16 hv, endAt_step g y x hx16 hv]
                | false =>
                  refine ⟨(acc, -1), fun r hr => ?_, ?_, by simp only; omega, .inl rfl⟩
                  · refine Ev.step (f := fun k => spec_runsOf.j3 k (tab g) acc (y : Int) (-1) (x : Int) false false) (fun k => ?_) (Ev.step (fun k => ?_) hr)
                    · simp only [spec_runsOf.j2]; simp
                    · simp only [spec_runsOf.j3]
                      rw [if_neg (by simp), if_neg (by simp), if_neg (by omega), w64n x (by omega)]
                  · rw [← h1]
                    show acc ++ rowRest g y (x + 1) (-1) = acc ++ rowRest g y x (-1)
                    unfold rowRest
                    rw [if_pos (by omega), if_pos (by omega)]
                    by_cases c : x < 16
                    · rw [scan_false g y x c (hb c).symm]
                    · rw [scan_end g y x (by omega), scan_end g y (x + 1) (by omega)]
              · cases b with
                | true =>
                  have hx16 : x < 16 := by
                    by_cases c : x = 16
                    · have := hb16 c; cases this
                    · omega
                  refine ⟨(acc, fr), fun r hr => ?_, ?_, by simp only; omega, .inr (by simp only; omega)⟩
                  · refine Ev.step (f := fun k => spec_runsOf.j3 k (tab g) acc (y : Int) fr (x : Int) true false) (fun k => ?_) (Ev.step (fun k => ?_) hr)
                    · simp only [spec_runsOf.j2]
                      rw [if_pos trivial, decide_eq_false (show ¬ fr < 0 by omega)]
                    · simp only [spec_runsOf.j3]
                      rw [if_neg (by simp), if_pos trivial, w64n x (by omega)]
                  · have hv := (hb hx16).symm
                    rw [← h1]
                    show acc ++ rowRest g y (x + 1) fr = acc ++ rowRest g y x fr
                    unfold rowRest
                    rw [if_neg (by omega), if_neg (by omega), endAt_step g y x hx16 hv]
                | false =>
                  refine ⟨(acc ++ [⟨(y : Int), fr, (x : Int)⟩], -1), fun r hr => ?_, ?_, by simp; omega, .inl rfl⟩
                  · refine Ev.step (f := fun k => spec_runsOf.j3 k (tab g) acc (y : Int) fr (x : Int) false false) (fun k => ?_) (Ev.step (fun k => ?_) hr)
                    · simp only [spec_runsOf.j2]; simp
                    · simp only [spec_runsOf.j3]
                      rw [if_neg (by simp), if_neg (by simp), if_pos (by omega), if_pos (by omega), w64n x (by omega)]
                  · rw [← h1]
                    show acc ++ [⟨(y : Int), fr, (x : Int)⟩] ++ rowRest g y (x + 1) (-1) = acc ++ rowRest g y x fr
                    unfold rowRest
                    have hst : endAt g y (16 - x) x = x := endAt_stop g y x (by
                      by_cases c : x < 16
                      · right; exact (hb c).symm
                      · left; omega)
                    rw [if_pos (by omega), if_neg (by omega), hst]
                    simp
            by_cases hx16 : x < 16
            · obtain ⟨s', e1, e2⟩ := j3 (g (y * 16 + x)) (fun _ => rfl) (fun c => by omega)
              refine ⟨s', fun r hr => ?_, e2, rfl⟩
              refine Ev.step (fun k => ?_) (e1 r hr)
              simp only [spec_runsOf.l1]
              have e3 : wrap64 (wrap64 ((y : Int) * 16) + (x : Int)) = ((y * 16 + x : Nat) : Int) := by
                rw [w64 (x := (y : Int) * 16) (by omega) (by omega), w64 (x := (y : Int) * 16 + (x : Int)) (by omega) (by omega)]; omega
              rw [if_pos (by omega), if_pos (by omega), e3, if_pos (by omega), tab_length, if_pos (by omega), tab_get g _ (by omega)]
            · obtain ⟨s', e1, e2⟩ := j3 false (fun c => by omega) (fun _ => rfl)
              refine ⟨s', fun r hr => ?_, e2, rfl⟩
              refine Ev.step (fun k => ?_) (e1 r hr)
              simp only [spec_runsOf.l1]
              rw [if_pos (by omega), if_neg (by omega)])
          (by
            intro q hq
            obtain ⟨acc, fr⟩ := q
            obtain ⟨h1, h2, h3⟩ := hq
            simp only at h1 h2 h3
            have hf : fr = -1 := by omega
            subst hf
            have he : acc = runsTo g (y + 1) := by
              rw [← h1]
              unfold rowRest
              rw [if_pos (by omega), scan_end g y 17 (by omega), List.append_nil]
            refine Ev.step (fun k => ?_) (hnext acc he (by omega))
            simp only [spec_runsOf.l1]
            rw [if_neg (by omega), w64n y (by omega)])
          17 0 (s, -1) (by omega) ⟨by
            unfold rowRest
            rw [if_pos (by omega), hs.1, ← runsTo_succ], by have := hs.2; simp only; omega, .inl rfl⟩
        exact h
      have hlen : (runsTo g (y + 1)).length ≤ 17 * (y + 1) := by
        rw [runsTo_succ, List.length_append]
        have hsc : ∀ d x, 17 ≤ x + d → (scanRow g y x).length ≤ 17 - x := by
          intro d
          induction d with
          | zero => intro x hx; rw [scan_end g y x (by omega)]; simp
          | succ d ih =>
            intro x hx
            by_cases h16 : x < 16
            · cases hv : g (y * 16 + x) with
              | true =>
                have := endAt_ge g y (16 - x) x
                rw [scan_true g y x h16 hv, List.length_cons]
                have := ih (endAt g y (16 - x) x + 1) (by omega)
                omega
              | false =>
                rw [scan_false g y x h16 hv]
                have := ih (x + 1) (by omega)
                omega
            · rw [scan_end g y x (by omega)]; simp
        have h1 := hsc 17 0 (by omega)
        have h2 := hs.2
        rw [hs.1] at h2
        omega
      refine ⟨runsTo g (y + 1), fun r hr => ?_, ⟨rfl, hlen⟩, rfl⟩
      refine Ev.step (fun k => ?_) (inner r (fun acc ha _ => by rw [ha]; exact hr))
      simp only [spec_runsOf.l0]
      rw [if_pos (by omega)])
    (by
      intro s hs
      refine Ev.step (f := fun _ => some s) (fun k => ?_) (ev_val (Ev.now s) hs.1)
      simp only [spec_runsOf.l0]
      rw [if_neg (by omega)])
    16 0 [] (by omega) ⟨by simp [runsTo], by simp⟩
  exact key
end Go.Proofs.Ytbgohbinonkhfaa.Pure

/- Neighbours of a grid's pixels, by their numbers; a loop that fills a grid. -/
namespace Go.Proofs.Ytbgohbinonkhfaa.Pure
open Go.RowKit Go.Proofs.Ytbgohbinonkhfaa.Q Go.Proofs.YtbgohbinonkhfaaW.PrintWords Go.Proofs.YtbgohbinonkhfaaW.PrintLast Go.Proofs.YtbgohbinonkhfaaW.PrintMore
set_option linter.unusedVariables false
set_option linter.unusedSimpArgs false

theorem gso_at (so : Nat → Nat → Bool) (p : Nat) (h : p < 256) : gso so 256 p = so (p % 16) (p / 16) := by
  unfold gso; rw [decide_eq_true h, Bool.true_and]
end Go.Proofs.Ytbgohbinonkhfaa.Pure

/- The region of a box, as the program and the reference have it. -/
namespace Go.Proofs.Ytbgohbinonkhfaa.Pure
open Go.RowKit Go.Proofs.Ytbgohbinonkhfaa.Q Go.Proofs.YtbgohbinonkhfaaW.PrintWords Go.Proofs.YtbgohbinonkhfaaW.PrintLast Go.Proofs.YtbgohbinonkhfaaW.PrintMore
set_option linter.unusedVariables false
set_option linter.unusedSimpArgs false

theorem scanRow_len (g : Nat → Bool) (y : Nat) : ∀ d x, 17 ≤ x + d → (scanRow g y x).length ≤ 17 - x := by
  intro d
  induction d with
  | zero => intro x hx; rw [scan_end g y x (by omega)]; simp
  | succ d ih =>
    intro x hx
    by_cases h16 : x < 16
    · cases hv : g (y * 16 + x) with
      | true =>
        have := endAt_ge g y (16 - x) x
        rw [scan_true g y x h16 hv, List.length_cons]
        have := ih (endAt g y (16 - x) x + 1) (by omega)
        omega
      | false =>
        rw [scan_false g y x h16 hv]
        have := ih (x + 1) (by omega)
        omega
    · rw [scan_end g y x (by omega)]; simp
theorem runsTo_len (g : Nat → Bool) (n : Nat) : (runsTo g n).length ≤ 17 * n := by
  induction n with
  | zero => simp [runsTo]
  | succ n ih =>
    rw [runsTo_succ, List.length_append]
    have := scanRow_len g n 17 0 (by omega)
    omega
theorem runsL_len (g : Nat → Bool) : (runsL g).length ≤ 272 := runsTo_len g 16
end Go.Proofs.Ytbgohbinonkhfaa.Pure

/- The pixels at which two images differ, as the program and the reference have them. -/
namespace Go.Proofs.Ytbgohbinonkhfaa.Pure
open Go.RowKit Go.Proofs.Ytbgohbinonkhfaa.Q Go.Proofs.YtbgohbinonkhfaaW.PrintWords Go.Proofs.YtbgohbinonkhfaaW.PrintLast Go.Proofs.YtbgohbinonkhfaaW.PrintMore
set_option linter.unusedVariables false
set_option linter.unusedSimpArgs false

theorem copyInts_eq (l : List Int) (hl : l.length ≤ 1000000) : spec_copyInts.f l = some l := by
  unfold spec_copyInts.f
  simp only [Option.bind_some]
  rw [if_pos (by simp; omega)]
  simp
theorem spec_pixelAt_eq {a b p : Int} {d : List Int} (hv : validI a b p d = true) {x y : Nat} (hx : (x : Int) < a) (hy : (y : Int) < b) : spec_pixelAt.f a b p d (x : Int) (y : Int) = some (pixT d (pixJ a p x y) p) := by
  have h := pixJ_is hv hx hy
  have hh := (validI_iff a b p d).1 hv
  have hp := shape_prod hh.1
  have e : wrap64 ((wrap64 ((wrap64 ((y : Int) * a)) + (x : Int))) * p) = pixJ a p x y := rfl
  unfold spec_pixelAt.f
  rw [e]
  generalize pixJ a p x y = j at *
  have hw : wrap64 (j + p) = j + p := w64 (by omega) (by omega)
  rw [if_pos (by omega), if_pos (by omega), if_pos (by omega)]
  have hl := pixT_len d j p
  show (spec_copyInts.f (pixT d j p)).bind _ = _
  rw [copyInts_eq _ (by omega)]
  rfl
theorem spec_equalInts_ev (l m : List Int) (hl : l.length ≤ 1000000) : Ev (fun k => spec_equalInts.f k l m) (decide (l = m)) := by
  unfold spec_equalInts.f
  by_cases hn : l.length = m.length
  · have key := ev_up l.length (fun k i (_ : Unit) => spec_equalInts.l0 k l m (i : Int)) (fun _ _ => True) (fun i _ => decide (l.drop i = m.drop i))
      (by
        intro i s hi _
        have e1 := List.drop_eq_getElem_cons hi
        have e2 := List.drop_eq_getElem_cons (show i < m.length by omega)
        by_cases c : l[i] = m[i]'(by omega)
        · refine .inr ⟨(), fun k => ?_, trivial, ?_⟩
          · simp only [spec_equalInts.l0]
            rw [if_pos (by omega), if_pos (by omega), if_pos (by omega), rd_nat l i hi, rd_nat m i (by omega), if_pos c, w64n i (by omega)]
          · rw [e1, e2, decide_eq_decide, List.cons.injEq]
            exact ⟨fun h => ⟨c, h⟩, fun h => h.2⟩
        · left
          rw [e1, e2, decide_eq_false (by rw [List.cons.injEq]; exact fun h => c h.1)]
          refine Ev.step (f := fun _ => some false) (fun k => ?_) (Ev.now _)
          simp only [spec_equalInts.l0]
          rw [if_pos (by omega), if_pos (by omega), if_pos (by omega), rd_nat l i hi, rd_nat m i (by omega), if_neg c])
      (by
        intro s _
        refine Ev.step (f := fun _ => some true) (fun k => ?_) (ev_const (by rw [List.drop_length, hn, List.drop_length]; rfl))
        simp only [spec_equalInts.l0]
        rw [if_neg (by omega)])
      l.length 0 () (by omega) trivial
    exact ev_pos (by omega) (by simpa using key)
  · refine ev_neg (by omega) ?_
    rw [decide_eq_false (fun h => hn (by rw [h]))]
    exact Ev.now _
/-- what has been looked at ahead of column x of row y -/
def upG (f : Nat → Nat → Bool) (y x q : Nat) : Bool := decide (q / 16 < y ∨ (q / 16 = y ∧ q % 16 < x)) && f (q % 16) (q / 16)
theorem upG_set (f : Nat → Nat → Bool) (y x q : Nat) (hx : x < 16) : (if q = y * 16 + x then f x y else upG f y x q) = upG f y (x + 1) q := by
  unfold upG
  by_cases e : q = y * 16 + x
  · have e1 : q % 16 = x := by omega
    have e2 : q / 16 = y := by omega
    rw [if_pos e, e1, e2, decide_eq_true (by omega), Bool.true_and]
  · rw [if_neg e]
    congr 1
    rw [decide_eq_decide]
    omega
theorem upG_row (f : Nat → Nat → Bool) (W y q : Nat) (hf : ∀ x, W ≤ x → f x y = false) (hW : W ≤ 16) : upG f y W q = upG f (y + 1) 0 q := by
  unfold upG
  by_cases e : q / 16 = y
  · by_cases c : q % 16 < W
    · rw [decide_eq_true (by omega), decide_eq_true (by omega)]
    · rw [e, hf _ (by omega), Bool.and_false, Bool.and_false]
  · congr 1
    rw [decide_eq_decide]
    omega
theorem chg_col (a b p : Int) (d1 d2 : List Int) (x y : Nat) (h : a ≤ (x : Int)) : chg a b p d1 d2 x y = false := by
  unfold chg; rw [decide_eq_false (by omega), Bool.false_and]
theorem chg_row (a b p : Int) (d1 d2 : List Int) (x y : Nat) (h : b ≤ (y : Int)) : chg a b p d1 d2 x y = false := by
  unfold chg; rw [decide_eq_false (show ¬ (y : Int) < b by omega), Bool.false_and, Bool.and_false]
theorem spec_changed_ev (W H : Nat) (p : Int) (d1 d2 : List Int) (hv1 : validI W H p d1 = true) (hv2 : validI W H p d2 = true) : Ev (fun k => spec_changed.f k W H p d1 W H p d2) (runsL (gso (chg W H p d1 d2) 256)) := by
  have hh := (validI_iff _ _ _ _).1 hv1
  have hpr := shape_prod hh.1
  have hW : W ≤ 16 := by omega
  have hH : H ≤ 16 := by omega
  obtain ⟨f, hf⟩ : ∃ f, f = chg W H p d1 d2 := ⟨_, rfl⟩
  have hlast : ∀ q, q < 256 → upG f H 0 q = gso f 256 q := by
    intro q hq
    rw [gso_at _ _ hq]
    unfold upG
    by_cases c : q / 16 < H
    · rw [decide_eq_true (by omega), Bool.true_and]
    · rw [hf, chg_row _ _ _ _ _ _ _ (by omega), Bool.and_false]
  have key := ev_up2 H (fun k y (s : List Bool) => spec_changed.l0 k s (y : Int) W H p d1 W H p d2) (fun y s => s = tab (upG f y 0)) (fun _ _ => runsL (gso f 256))
    (by
      intro y s hy hs
      right
      refine ⟨tab (upG f (y + 1) 0), fun R hR => ?_, rfl, rfl⟩
      have inner := ev_up2 W (fun k x (s : List Bool) => spec_changed.l1 k s (y : Int) (x : Int) W H p d1 W H p d2) (fun x s => s = tab (upG f y x)) (fun _ _ => R)
        (by
          intro x s hx hs
          right
          refine ⟨tab (upG f y (x + 1)), fun R' hR' => ?_, rfl, rfl⟩
          have e1 := spec_pixelAt_eq hv1 (x := x) (y := y) (by omega) (by omega)
          have e2 := spec_pixelAt_eq hv2 (x := x) (y := y) (by omega) (by omega)
          have hl := pixT_len d1 (pixJ W p x y) p
          have e3 := spec_equalInts_ev (pixT d1 (pixJ W p x y) p) (pixT d2 (pixJ W p x y) p) (by omega)
          have e4 : wrap64 ((wrap64 ((y : Int) * 16)) + (x : Int)) = ((y * 16 + x : Nat) : Int) := by
            rw [w64 (x := (y : Int) * 16) (by omega) (by omega), w64 (by omega) (by omega)]; omega
          have e5 : (!(decide (pixT d1 (pixJ W p x y) p = pixT d2 (pixJ W p x y) p))) = f x y := by rw [hf, chg_in _ _ _ _ _ _ _ (by omega) (by omega)]
          have hset : s.set (y * 16 + x) (f x y) = tab (upG f y (x + 1)) := by
            rw [hs, tab_set]
            exact tab_congr (fun q _ => upG_set f y x q (by omega))
          have hlen : s.length = 256 := by rw [hs, tab_length]
          refine Ev.step (f := fun k => (spec_pixelAt.f W H p d1 (x : Int) (y : Int)).bind fun u => (spec_pixelAt.f W H p d2 (x : Int) (y : Int)).bind fun v => (spec_equalInts.f k u v).bind fun z => if 0 ≤ (wrap64 ((wrap64 ((y : Int) * 16)) + (x : Int))) then (if (wrap64 ((wrap64 ((y : Int) * 16)) + (x : Int))) < (s.length : Int) then spec_changed.l1 k (s.set ((wrap64 ((wrap64 ((y : Int) * 16)) + (x : Int))) : Int).toNat (!z)) (y : Int) (wrap64 ((x : Int) + 1)) W H p d1 W H p d2 else none) else none) (fun k => ?_) ?_
          · simp only [spec_changed.l1]
            rw [if_pos (by omega)]
          · refine ev_now e1 (ev_now e2 (ev_bind e3 ?_))
            rw [e4, e5]
            refine ev_pos (by omega) (ev_pos (by omega) ?_)
            rw [Int.toNat_natCast, hset, w64n x (by omega)]
            exact hR')
        (by
          intro s hs
          have hrow : s = tab (upG f (y + 1) 0) := by
            rw [hs]
            exact tab_congr (fun q _ => upG_row f W y q (fun x hx => by rw [hf]; exact chg_col _ _ _ _ _ _ _ (by omega)) hW)
          refine Ev.step (fun k => ?_) (show Ev (fun k => spec_changed.l0 k s ((y + 1 : Nat) : Int) W H p d1 W H p d2) R from by rw [hrow]; exact hR)
          simp only [spec_changed.l1]
          rw [if_neg (by omega), w64n y (by omega)])
        W 0 s (by omega) hs
      have inner' : Ev (fun k => spec_changed.l1 k s (y : Int) 0 W H p d1 W H p d2) R := inner
      refine Ev.step (fun k => ?_) inner'
      simp only [spec_changed.l0]
      rw [if_pos (by omega)])
    (by
      intro s hs
      have hend : s = tab (gso f 256) := by rw [hs]; exact tab_congr hlast
      refine Ev.step (f := fun k => (spec_runsOf.f k s).bind fun t => some t) (fun k => ?_) (ev_bind (by rw [hend]; exact spec_runsOf_ev _) (Ev.now _))
      simp only [spec_changed.l0]
      rw [if_neg (by omega)])
    H 0 (List.replicate 256 false) (by omega) (by
      rw [tab_false]
      refine tab_congr (fun q _ => ?_)
      unfold upG
      rw [decide_eq_false (by omega), Bool.false_and])
  unfold spec_changed.f
  rw [← hf]
  have key' : Ev (fun k => spec_changed.l0 k (List.replicate 256 false) 0 W H p d1 W H p d2) (runsL (gso f 256)) := key
  exact ev_pos (by omega) key'
def changedV (a b p : Int) (d1 : List Int) (a' b' p' : Int) (d2 : List Int) : List Run := if sameV a b p d1 a' b' p' d2 = true then runsL (gso (chg a b p d1 d2) 256) else []
theorem changedV_len (a b p : Int) (d1 : List Int) (a' b' p' : Int) (d2 : List Int) : (changedV a b p d1 a' b' p' d2).length ≤ 272 := by
  unfold changedV
  split
  · exact runsL_len _
  · simp
end Go.Proofs.Ytbgohbinonkhfaa.Pure

/- ChangedRegion, as the program and the reference have it. -/
namespace Go.Proofs.Ytbgohbinonkhfaa.Pure
open Go.RowKit Go.Proofs.Ytbgohbinonkhfaa.Q Go.Proofs.YtbgohbinonkhfaaW.PrintWords Go.Proofs.YtbgohbinonkhfaaW.PrintLast Go.Proofs.YtbgohbinonkhfaaW.PrintMore
set_option linter.unusedVariables false
set_option linter.unusedSimpArgs false

theorem impl_ChangedRegion_eq (a b p : Int) (d1 : List Int) (a' b' p' : Int) (d2 : List Int) : impl_ChangedRegion.f a b p d1 a' b' p' d2 = some (changedV a b p d1 a' b' p' d2) := rfl
theorem spec_ChangedRegion_ev (a b p : Int) (d1 : List Int) (a' b' p' : Int) (d2 : List Int) (hl : d1.length ≤ 1000000000000) (hl' : d2.length ≤ 1000000000000) : Ev (fun k => spec_ChangedRegion.f k a b p d1 a' b' p' d2) (changedV a b p d1 a' b' p' d2) := by
  unfold spec_ChangedRegion.f changedV
  refine ev_bind (spec_sameShape_ev a b p d1 a' b' p' d2 hl hl') ?_
  by_cases c : sameV a b p d1 a' b' p' d2 = true
  · rw [if_pos c]
    obtain ⟨h1, h2, rfl, rfl, rfl⟩ := (sameV_iff _ _ _ _ _ _ _ _).1 c
    have hh := (validI_iff _ _ _ _).1 h1
    obtain ⟨W, rfl⟩ := Int.eq_ofNat_of_zero_le (show 0 ≤ a by omega)
    obtain ⟨H, rfl⟩ := Int.eq_ofNat_of_zero_le (show 0 ≤ b by omega)
    exact ev_pos c (ev_bind (spec_changed_ev W H p d1 d2 h1 h2) (Ev.now _))
  · rw [if_neg c]
    exact ev_neg c (Ev.now _)
end Go.Proofs.Ytbgohbinonkhfaa.Pure

/- The reader of draws: whatever the code's bytes are, it answers, in range. -/
namespace Go.Proofs.Ytbgohbinonkhfaa.Pure
open Go.RowKit Go.Proofs.Ytbgohbinonkhfaa.Q Go.Proofs.YtbgohbinonkhfaaW.PrintWords Go.Proofs.YtbgohbinonkhfaaW.PrintLast Go.Proofs.YtbgohbinonkhfaaW.PrintMore
set_option linter.unusedVariables false
set_option linter.unusedSimpArgs false

/-- What a reader reads from: at most 2000 bytes. -/
def Bytes (b : List Int) : Prop := b.length ≤ 2000 ∧ ∀ x ∈ b, 0 ≤ x ∧ x ≤ 255
theorem Bytes.rd_ {b : List Int} (h : Bytes b) (i : Int) : 0 ≤ rd b i ∧ rd b i ≤ 255 := by
  unfold rd
  by_cases c : i.toNat < b.length
  · rw [List.getD_eq_getElem?_getD, List.getElem?_eq_getElem c]; exact h.2 _ (List.getElem_mem c)
  · rw [List.getD_eq_getElem?_getD, List.getElem?_eq_none (by omega)]; simp
theorem xor_nn (a b : Int) (ha : 0 ≤ a) (ha' : a < 4611686018427387904) (hb : 0 ≤ b) (hb' : b < 4611686018427387904) : 0 ≤ Go.bits .xor .i64 a b := by
  obtain ⟨a, rfl⟩ := Int.eq_ofNat_of_zero_le ha
  obtain ⟨b, rfl⟩ := Int.eq_ofNat_of_zero_le hb
  have ha2 : a < 2 ^ 62 := by have : (2 : Nat) ^ 62 = 4611686018427387904 := by decide +kernel
                              omega
  have hb2 : b < 2 ^ 62 := by have : (2 : Nat) ^ 62 = 4611686018427387904 := by decide +kernel
                              omega
  have e64 : IntKind.bits .i64 = 64 := rfl
  have hx := Nat.xor_lt_two_pow ha2 hb2
  have h62 : (2 : Nat) ^ 62 = 4611686018427387904 := by decide +kernel
  have h64 : (2 : Nat) ^ 64 = 18446744073709551616 := by decide +kernel
  simp only [Go.bits, BitVec.ofInt_natCast, BitVec.toNat_xor, BitVec.toNat_ofNat, e64]
  rw [Nat.mod_eq_of_lt (by omega), Nat.mod_eq_of_lt (by omega), IntKind.wrap_i64]
  generalize a ^^^ b = z at *
  omega
theorem tmod_range (x n : Int) (hx : 0 ≤ x) (hn : 1 ≤ n) : 0 ≤ Int.tmod x n ∧ Int.tmod x n < n := by
  rw [tmod_nn _ _ hx]
  exact ⟨Int.emod_nonneg _ (by omega), Int.emod_lt_of_pos _ (by omega)⟩
theorem pick_at (b : List Int) (p n : Int) (hb : Bytes b) (hp0 : 0 ≤ p) (hp : p ≤ 1000000000000) :
    ∃ v, (∀ k, 0 < k → spec_reader_pick.f k b p n = some (v, p + 1)) ∧ 0 ≤ v ∧ (1 ≤ n → v < n) ∧ (n < 1 → v = 0) := by
  by_cases hn : n < 1
  · refine ⟨0, fun k hk => ?_, by omega, by omega, fun _ => rfl⟩
    obtain ⟨k, rfl⟩ : ∃ m, k = m + 1 := ⟨k - 1, by omega⟩
    unfold spec_reader_pick.f
    rw [if_pos hn, w64 (by omega) (by omega)]
    simp only [spec_reader_pick.j0, if_true]
  by_cases he : b.length = 0
  · refine ⟨0, fun k hk => ?_, by omega, by omega, fun _ => rfl⟩
    obtain ⟨k, rfl⟩ : ∃ m, k = m + 1 := ⟨k - 1, by omega⟩
    unfold spec_reader_pick.f
    rw [if_neg hn, w64 (by omega) (by omega)]
    simp only [spec_reader_pick.j0, he]; simp
  have hlen := hb.1
  by_cases hlt : p < (b.length : Int)
  · have hr := hb.rd_ p
    have ht := tmod_range (rd b p) n hr.1 (by omega)
    refine ⟨Int.tmod (rd b p) n, fun k hk => ?_, ht.1, fun _ => ht.2, by omega⟩
    obtain ⟨k, rfl⟩ : ∃ m, k = m + 1 := ⟨k - 1, by omega⟩
    unfold spec_reader_pick.f
    rw [if_neg hn, w64 (x := p + 1) (by omega) (by omega)]
    simp only [spec_reader_pick.j0]
    rw [if_neg (by simp only [beq_iff_eq]; omega), w64 (x := p + 1 - 1) (by omega) (by omega), show p + 1 - 1 = p by omega, if_pos hlt, if_pos hp0, if_neg (by omega), w64 (x := rd b p) (by omega) (by omega)]
  · have h1 := tmod_range p (b.length : Int) hp0 (by omega)
    have h2 := tmod_range (p * 7 + 3) (b.length : Int) (by omega) (by omega)
    have r1 := hb.rd_ (Int.tmod p (b.length : Int))
    have r2 := hb.rd_ (Int.tmod (p * 7 + 3) (b.length : Int))
    have hd : 0 ≤ Int.tdiv p (b.length : Int) ∧ Int.tdiv p (b.length : Int) ≤ p := by
      rw [tdiv_nn _ _ hp0]
      exact ⟨Int.ediv_nonneg hp0 (by omega), Int.ediv_le_self _ hp0⟩
    generalize h1e : Int.tmod p (b.length : Int) = t1 at *
    generalize h2e : Int.tmod (p * 7 + 3) (b.length : Int) = t2 at *
    generalize hde : Int.tdiv p (b.length : Int) = d at *
    generalize hr1e : rd b t1 = x1 at *
    generalize hr2e : rd b t2 = x2 at *
    have hx := xor_nn (x1 * 131 + x2 * 1117 + p * 29 + d * 53) ((x1 * 131 + x2 * 1117 + p * 29 + d * 53) / 64) (by omega) (by omega) (by omega) (by omega)
    have ht := tmod_range _ n hx (by omega)
    refine ⟨Int.tmod (Go.bits .xor .i64 (x1 * 131 + x2 * 1117 + p * 29 + d * 53) ((x1 * 131 + x2 * 1117 + p * 29 + d * 53) / 64)) n, fun k hk => ?_, ht.1, fun _ => ht.2, by omega⟩
    obtain ⟨k, rfl⟩ : ∃ m, k = m + 1 := ⟨k - 1, by omega⟩
    unfold spec_reader_pick.f
    rw [if_neg hn, w64 (x := p + 1) (by omega) (by omega)]
    simp only [spec_reader_pick.j0]
    rw [if_neg (by simp only [beq_iff_eq]; omega), w64 (x := p + 1 - 1) (by omega) (by omega), show p + 1 - 1 = p by omega, if_neg hlt, if_neg (by omega),
      w64 (x := p * 7) (by omega) (by omega), w64 (x := p * 7 + 3) (by omega) (by omega), h1e, h2e, hde, hr1e, hr2e, if_pos (by omega), if_pos (by omega), if_pos (by omega), if_pos (by omega), if_neg (by omega),
      w64 (x := x1) (by omega) (by omega), w64 (x := x2) (by omega) (by omega), w64 (x := d) (by omega) (by omega), w64 (x := x1 * 131) (by omega) (by omega), w64 (x := x2 * 1117) (by omega) (by omega), w64 (x := p * 29) (by omega) (by omega), w64 (x := d * 53) (by omega) (by omega),
      w64 (x := x1 * 131 + x2 * 1117) (by omega) (by omega), w64 (x := x1 * 131 + x2 * 1117 + p * 29) (by omega) (by omega), w64 (x := x1 * 131 + x2 * 1117 + p * 29 + d * 53) (by omega) (by omega), tdiv_nn _ 64 (by omega),
      w64 (x := (x1 * 131 + x2 * 1117 + p * 29 + d * 53) / 64) (by omega) (by omega)]
theorem one_at (b : List Int) (p : Int) (l : List Int) (hl : 0 < l.length) (hl' : l.length ≤ 1000) (hb : Bytes b) (hp0 : 0 ≤ p) (hp : p ≤ 1000000000000) :
    ∃ v, (∀ k, 0 < k → spec_reader_one.f k b p l = some (v, p + 1)) ∧ v ∈ l := by
  obtain ⟨v, hv, h0, h1, _⟩ := pick_at b p (l.length : Int) hb hp0 hp
  have h1' := h1 (by omega)
  obtain ⟨v, rfl⟩ := Int.eq_ofNat_of_zero_le h0
  refine ⟨l[v]'(by omega), fun k hk => ?_, List.getElem_mem _⟩
  unfold spec_reader_one.f
  rw [hv k hk]
  simp only [Option.bind_some]
  rw [if_pos (by omega), if_pos (by omega), rd_nat l v (by omega)]
theorem newReader_at (l : List Int) (h : ∀ x ∈ l, 0 ≤ x ∧ x ≤ 255) : ∃ b, spec_newReader.f l = some (b, 0) ∧ Bytes b := by
  unfold spec_newReader.f
  by_cases c : (l.length : Int) > 2000
  · rw [if_pos c, if_pos (by omega)]
    exact ⟨_, rfl, by rw [List.length_take]; omega, fun x hx => h x (List.mem_of_mem_take hx)⟩
  · rw [if_neg c]
    exact ⟨_, rfl, by omega, h⟩
/-- What a law is told of its code: bytes. -/
theorem code_bytes (l : List Int) (h : ∀ x ∈ l, (Lit.int .u8 x).wf = true) : ∀ x ∈ l, 0 ≤ x ∧ x ≤ 255 := by
  intro x hx
  have := h x hx
  simp only [Lit.wf, Bool.and_eq_true, decide_eq_true_eq] at this
  have e1 : IntKind.min .u8 = 0 := by decide
  have e2 : IntKind.max .u8 = 255 := by decide
  omega
end Go.Proofs.Ytbgohbinonkhfaa.Pure

/- Images that are drawn from bytes. -/
namespace Go.Proofs.Ytbgohbinonkhfaa.Pure
open Go.RowKit Go.Proofs.Ytbgohbinonkhfaa.Q Go.Proofs.YtbgohbinonkhfaaW.PrintWords Go.Proofs.YtbgohbinonkhfaaW.PrintLast Go.Proofs.YtbgohbinonkhfaaW.PrintMore
set_option linter.unusedVariables false
set_option linter.unusedSimpArgs false

theorem one_in (b : List Int) (p : Int) (l : List Int) (hl : 0 < l.length) (hl' : l.length ≤ 1000) (hb : Bytes b) (hp0 : 0 ≤ p) (hp : p ≤ 1000000000000) : ∃ v, Ev (fun k => spec_reader_one.f k b p l) (v, p + 1) ∧ v ∈ l := by
  obtain ⟨v, h, hv⟩ := one_at b p l hl hl' hb hp0 hp
  exact ⟨v, ev_of 0 h, hv⟩
theorem pick_in (b : List Int) (p n : Int) (hn : 1 ≤ n) (hb : Bytes b) (hp0 : 0 ≤ p) (hp : p ≤ 1000000000000) : ∃ v, Ev (fun k => spec_reader_pick.f k b p n) (v, p + 1) ∧ 0 ≤ v ∧ v < n := by
  obtain ⟨v, h, h0, h1, _⟩ := pick_at b p n hb hp0 hp
  exact ⟨v, ev_of 0 h, h0, h1 hn⟩
theorem newImage_eq (w h p : Int) (hs : 1 ≤ w ∧ w ≤ 16 ∧ 1 ≤ h ∧ h ≤ 16 ∧ 1 ≤ p ∧ p ≤ 4) : spec_newImage.f w h p = some (w, h, p, List.replicate (w * h * p).toNat 0) := by
  have := shape_prod hs
  unfold spec_newImage.f
  rw [shape_wrap hs, if_pos (by omega), if_pos (by omega)]
theorem randomLoop (b : List Int) (hb : Bytes b) (m : Int) (w h p : Int) : ∀ (n i : Nat) (x pos : Int) (d : List Int), i + n = d.length → 0 ≤ pos → pos + n ≤ 1000000000000 → d.length ≤ 1000000 →
    ∃ (d' : List Int) (q : Int), d'.length = d.length ∧ pos ≤ q ∧ q ≤ pos + n ∧ Ev (fun k => spec_randomImage.l0 k m x (i : Int) b pos w h p d) (w, h, p, d', q) := by
  intro n
  induction n with
  | zero =>
    intro i x pos d hi h0 h1 h2
    refine ⟨d, pos, rfl, by omega, by omega, ?_⟩
    refine Ev.step (f := fun _ => some (w, h, p, d, pos)) (fun k => ?_) (Ev.now _)
    simp only [spec_randomImage.l0]
    rw [if_neg (by omega)]
  | succ n ih =>
    intro i x pos d hi h0 h1 h2
    have go : ∀ (v x' pos' : Int), pos ≤ pos' → pos' ≤ pos + 1 → ∃ (d' : List Int) (q : Int), d'.length = d.length ∧ pos ≤ q ∧ q ≤ pos + ((n + 1 : Nat) : Int) ∧ Ev (fun k => spec_randomImage.l0 k m x' ((i + 1 : Nat) : Int) b pos' w h p (d.set i v)) (w, h, p, d', q) := by
      intro v x' pos' a1 a2
      obtain ⟨d', q, e1, e2, e3, e4⟩ := ih (i + 1) x' pos' (d.set i v) (by rw [List.length_set]; omega) (by omega) (by omega) (by rw [List.length_set]; omega)
      exact ⟨d', q, by rw [e1, List.length_set], by omega, by omega, e4⟩
    by_cases c0 : m = 0
    · obtain ⟨v, hv, _, _⟩ := pick_in b pos 256 (by omega) hb h0 (by omega)
      obtain ⟨d', q, e1, e2, e3, e4⟩ := go v v (pos + 1) (by omega) (by omega)
      refine ⟨d', q, e1, e2, e3, ?_⟩
      refine Ev.step (f := fun k => (spec_reader_pick.f k b pos 256).bind fun bt => if 0 ≤ (i : Int) then spec_randomImage.l0 k m bt.1 (wrap64 ((i : Int) + 1)) b bt.2 w h p (d.set (i : Int).toNat bt.1) else none) (fun k => ?_) ?_
      · simp only [spec_randomImage.l0]
        rw [if_pos (by omega), if_pos c0]
      · refine ev_bind hv (ev_pos (by omega) ?_)
        simp only [Int.toNat_natCast, w64n i (by omega)]
        exact e4
    · by_cases c1 : m = 1
      · obtain ⟨v, hv, _, _⟩ := pick_in b pos 5 (by omega) hb h0 (by omega)
        obtain ⟨d', q, e1, e2, e3, e4⟩ := go (Int.tmod (wrap64 ((wrap64 (x + v)) + 254)) 256) (Int.tmod (wrap64 ((wrap64 (x + v)) + 254)) 256) (pos + 1) (by omega) (by omega)
        refine ⟨d', q, e1, e2, e3, ?_⟩
        refine Ev.step (f := fun k => (spec_reader_pick.f k b pos 5).bind fun bt => if 0 ≤ (i : Int) then spec_randomImage.l0 k m (Int.tmod (wrap64 ((wrap64 (x + bt.1)) + 254)) 256) (wrap64 ((i : Int) + 1)) b bt.2 w h p (d.set (i : Int).toNat (Int.tmod (wrap64 ((wrap64 (x + bt.1)) + 254)) 256)) else none) (fun k => ?_) ?_
        · simp only [spec_randomImage.l0]
          rw [if_pos (by omega), if_neg c0, if_pos c1]
        · refine ev_bind hv (ev_pos (by omega) ?_)
          simp only [Int.toNat_natCast, w64n i (by omega)]
          exact e4
      · by_cases c2 : m = 2
        · obtain ⟨v, hv, _, _⟩ := pick_in b pos 4 (by omega) hb h0 (by omega)
          obtain ⟨d', q, e1, e2, e3, e4⟩ := go (wrap64 (60 * v)) (wrap64 (60 * v)) (pos + 1) (by omega) (by omega)
          refine ⟨d', q, e1, e2, e3, ?_⟩
          refine Ev.step (f := fun k => (spec_reader_pick.f k b pos 4).bind fun bt => if 0 ≤ (i : Int) then spec_randomImage.l0 k m (wrap64 (60 * bt.1)) (wrap64 ((i : Int) + 1)) b bt.2 w h p (d.set (i : Int).toNat (wrap64 (60 * bt.1))) else none) (fun k => ?_) ?_
          · simp only [spec_randomImage.l0]
            rw [if_pos (by omega), if_neg c0, if_neg c1, if_pos c2]
          · refine ev_bind hv (ev_pos (by omega) ?_)
            simp only [Int.toNat_natCast, w64n i (by omega)]
            exact e4
        · obtain ⟨d', q, e1, e2, e3, e4⟩ := go x x pos (by omega) (by omega)
          refine ⟨d', q, e1, e2, e3, Ev.step (fun k => ?_) e4⟩
          simp only [spec_randomImage.l0]
          rw [if_pos (by omega), if_neg c0, if_neg c1, if_neg c2, if_pos (by omega), Int.toNat_natCast, w64n i (by omega)]
theorem randomImage_ev (b : List Int) (pos p : Int) (hb : Bytes b) (h0 : 0 ≤ pos) (h1 : pos ≤ 100000000) (hp : 1 ≤ p ∧ p ≤ 4) :
    ∃ (w h : Int) (d : List Int) (q : Int), 1 ≤ w ∧ w ≤ 8 ∧ 1 ≤ h ∧ h ≤ 8 ∧ (d.length : Int) = w * h * p ∧ 1 ≤ d.length ∧ d.length ≤ 1024 ∧ pos ≤ q ∧ q ≤ pos + 2000 ∧ Ev (fun k => spec_randomImage.f k b pos p) (w, h, p, d, q) := by
  obtain ⟨w, hw, mw⟩ := one_in b pos [3, 4, 2, 5, 1, 8, 6] (by simp) (by simp) hb h0 (by omega)
  obtain ⟨h, hh, mh⟩ := one_in b (pos + 1) [3, 2, 4, 1, 5, 8] (by simp) (by simp) hb (by omega) (by omega)
  obtain ⟨m, hm, _, _⟩ := pick_in b (pos + 1 + 1) 4 (by omega) hb (by omega) (by omega)
  obtain ⟨x, hx, _, _⟩ := pick_in b (pos + 1 + 1 + 1) 256 (by omega) hb (by omega) (by omega)
  have bw : 1 ≤ w ∧ w ≤ 8 := by simp only [List.mem_cons, List.not_mem_nil, or_false] at mw; omega
  have bh : 1 ≤ h ∧ h ≤ 8 := by simp only [List.mem_cons, List.not_mem_nil, or_false] at mh; omega
  have hs : 1 ≤ w ∧ w ≤ 16 ∧ 1 ≤ h ∧ h ≤ 16 ∧ 1 ≤ p ∧ p ≤ 4 := by omega
  have hpr := shape_prod hs
  have hpos : 1 ≤ w * h * p := by
    have e1 : 1 * 1 ≤ w * h := Int.mul_le_mul (by omega) (by omega) (by omega) (by omega)
    have e2 : 1 * 1 ≤ w * h * p := Int.mul_le_mul (by omega) (by omega) (by omega) (by omega)
    omega
  have hlen : (List.replicate (w * h * p).toNat (0 : Int)).length = (w * h * p).toNat := List.length_replicate
  obtain ⟨d', q, e1, e2, e3, e4⟩ := randomLoop b hb m w h p (w * h * p).toNat 0 x (pos + 1 + 1 + 1 + 1) (List.replicate (w * h * p).toNat 0) (by omega) (by omega) (by omega) (by omega)
  refine ⟨w, h, d', q, bw.1, bw.2, bh.1, bh.2, by omega, by omega, by omega, by omega, by omega, ?_⟩
  unfold spec_randomImage.f
  exact ev_bind hw (ev_bind hh (ev_now (newImage_eq w h p hs) (ev_bind hm (ev_bind hx e4))))
theorem anyPlanes_ev (b : List Int) (pos : Int) (hb : Bytes b) (h0 : 0 ≤ pos) (h1 : pos ≤ 100000000) : ∃ p, 1 ≤ p ∧ p ≤ 4 ∧ Ev (fun k => spec_anyPlanes.f k b pos) (p, pos + 1) := by
  obtain ⟨p, hp, mp⟩ := one_in b pos [1, 3, 1, 4, 2] (by simp) (by simp) hb h0 (by omega)
  simp only [List.mem_cons, List.not_mem_nil, or_false] at mp
  refine ⟨p, by omega, by omega, ?_⟩
  unfold spec_anyPlanes.f
  exact ev_bind hp (Ev.now _)
theorem spoilImage_ev (b : List Int) (pos : Int) (w h p : Int) (d : List Int) (hb : Bytes b) (h0 : 0 ≤ pos) (h1 : pos ≤ 100000000) (hd : 1 ≤ d.length) :
    ∃ (w' h' p' : Int) (d' : List Int) (q : Int), d'.length ≤ d.length ∧ pos ≤ q ∧ q ≤ pos + 2 ∧ Ev (fun k => spec_spoilImage.f k b pos w h p d) (w', h', p', d', q) := by
  obtain ⟨v, hv, _, _⟩ := pick_in b pos 40 (by omega) hb h0 (by omega)
  unfold spec_spoilImage.f
  by_cases c0 : v = 0
  · obtain ⟨x, hx, _⟩ := one_in b (pos + 1) [0, 17, wrap64 (w + 1)] (by simp) (by simp) hb (by omega) (by omega)
    exact ⟨x, h, p, d, pos + 1 + 1, by omega, by omega, by omega, ev_bind hv (ev_pos c0 (ev_bind hx (Ev.now _)))⟩
  · by_cases c1 : v = 1
    · exact ⟨w, h, p, d.drop (1 : Int).toNat, pos + 1, by rw [List.length_drop]; omega, by omega, by omega, ev_bind hv (ev_neg c0 (ev_pos c1 (ev_pos (by omega) (Ev.now _))))⟩
    · by_cases c2 : v = 2
      · obtain ⟨x, hx, _⟩ := one_in b (pos + 1) [(-1), 256] (by simp) (by simp) hb (by omega) (by omega)
        exact ⟨w, h, p, d.set (0 : Int).toNat x, pos + 1 + 1, by rw [List.length_set]; omega, by omega, by omega, ev_bind hv (ev_neg c0 (ev_neg c1 (ev_pos c2 (ev_bind hx (ev_pos (by omega) (Ev.now _))))))⟩
      · by_cases c3 : v = 3
        · obtain ⟨x, hx, _⟩ := one_in b (pos + 1) [0, 5] (by simp) (by simp) hb (by omega) (by omega)
          exact ⟨w, h, x, d, pos + 1 + 1, by omega, by omega, by omega, ev_bind hv (ev_neg c0 (ev_neg c1 (ev_neg c2 (ev_pos c3 (ev_bind hx (Ev.now _))))))⟩
        · exact ⟨w, h, p, d, pos + 1, by omega, by omega, by omega, ev_bind hv (ev_neg c0 (ev_neg c1 (ev_neg c2 (ev_neg c3 (Ev.now _)))))⟩
theorem anyImage_ev (b : List Int) (pos : Int) (hb : Bytes b) (h0 : 0 ≤ pos) (h1 : pos ≤ 90000000) :
    ∃ (w h p : Int) (d : List Int) (q : Int), d.length ≤ 1024 ∧ pos ≤ q ∧ q ≤ pos + 3000 ∧ Ev (fun k => spec_anyImage.f k b pos) (w, h, p, d, q) := by
  obtain ⟨p, p1, p2, hp⟩ := anyPlanes_ev b pos hb h0 (by omega)
  obtain ⟨w, h, d, q, _, _, _, _, _, d1, d2, q1, q2, hr⟩ := randomImage_ev b (pos + 1) p hb (by omega) (by omega) ⟨p1, p2⟩
  obtain ⟨w', h', p', d', q', d3, q3, q4, hs⟩ := spoilImage_ev b q w h p d hb (by omega) (by omega) d1
  refine ⟨w', h', p', d', q', by omega, by omega, by omega, ?_⟩
  unfold spec_anyImage.f
  exact ev_bind hp (ev_bind hr (ev_bind hs (Ev.now _)))
end Go.Proofs.Ytbgohbinonkhfaa.Pure

/- Two images that are drawn from bytes. -/
namespace Go.Proofs.Ytbgohbinonkhfaa.Pure
open Go.RowKit Go.Proofs.Ytbgohbinonkhfaa.Q Go.Proofs.YtbgohbinonkhfaaW.PrintWords Go.Proofs.YtbgohbinonkhfaaW.PrintLast Go.Proofs.YtbgohbinonkhfaaW.PrintMore
set_option linter.unusedVariables false
set_option linter.unusedSimpArgs false

theorem copyI_eq (l : List Int) (hl : l.length ≤ 1000000) : spec_copyInts.f l = some l := by
  unfold spec_copyInts.f
  simp only [Option.bind_some]
  rw [if_pos (by simp; omega)]
  simp
theorem twoLoop (b : List Int) (hb : Bytes b) (w h p : Int) (d : List Int) (w' h' p' : Int) : ∀ (m : Nat) (pos : Int) (d' : List Int), 0 ≤ pos → pos + 2 * m ≤ 80000000 → m ≤ 1000 → d'.length ≤ 1024 →
    ∃ (u v s : Int) (e : List Int) (q : Int), e.length ≤ 1024 ∧ pos ≤ q ∧ q ≤ pos + 2 * m + 4000 ∧ Ev (fun k => spec_twoImages.l0 k (m : Int) b pos w h p d w' h' p' d') (w, h, p, d, u, v, s, e, q) := by
  have stop : ∀ (m : Nat) (pos : Int) (d' : List Int), 0 ≤ pos → pos ≤ 80000000 → d'.length ≤ 1024 →
      ∃ (u v s : Int) (e : List Int) (q : Int), e.length ≤ 1024 ∧ pos ≤ q ∧ q ≤ pos + 4000 ∧ Ev (fun k => spec_twoImages.j1 k (m : Int) false b pos w h p d w' h' p' d') (w, h, p, d, u, v, s, e, q) := by
    intro m pos d' h0 h1 hd
    obtain ⟨x, hx, _, _⟩ := pick_in b pos 16 (by omega) hb h0 (by omega)
    by_cases c : x = 0
    · obtain ⟨u, v, s, e, q, he, q1, q2, hq⟩ := anyImage_ev b (pos + 1) hb (by omega) (by omega)
      refine ⟨u, v, s, e, q, he, by omega, by omega, ?_⟩
      refine Ev.step (f := fun k => (spec_reader_pick.f k b pos 16).bind fun bt => if bt.1 = 0 then ((spec_anyImage.f k b bt.2).bind fun z => some (w, h, p, d, z.1, z.2.1, z.2.2.1, z.2.2.2.1, z.2.2.2.2)) else some (w, h, p, d, w', h', p', d', bt.2)) (fun k => ?_) (ev_bind hx (ev_pos c (ev_bind hq (Ev.now _))))
      simp only [spec_twoImages.j1]
      rw [if_neg (by simp)]
    · refine ⟨w', h', p', d', pos + 1, hd, by omega, by omega, ?_⟩
      refine Ev.step (f := fun k => (spec_reader_pick.f k b pos 16).bind fun bt => if bt.1 = 0 then ((spec_anyImage.f k b bt.2).bind fun z => some (w, h, p, d, z.1, z.2.1, z.2.2.1, z.2.2.2.1, z.2.2.2.2)) else some (w, h, p, d, w', h', p', d', bt.2)) (fun k => ?_) (ev_bind hx (ev_neg c (Ev.now _)))
      simp only [spec_twoImages.j1]
      rw [if_neg (by simp)]
  intro m
  induction m with
  | zero =>
    intro pos d' h0 h1 h2 hd
    obtain ⟨u, v, s, e, q, he, q1, q2, hq⟩ := stop 0 pos d' h0 (by omega) hd
    refine ⟨u, v, s, e, q, he, q1, by omega, Ev.step (fun k => ?_) hq⟩
    simp only [spec_twoImages.l0]
    rw [if_neg (by simp)]
  | succ m ih =>
    intro pos d' h0 h1 h2 hd
    by_cases c : (d'.length : Int) > 0
    · obtain ⟨x, hx, x0, x1⟩ := pick_in b pos (d'.length : Int) (by omega) hb h0 (by omega)
      obtain ⟨y, hy, _, _⟩ := pick_in b (pos + 1) 256 (by omega) hb (by omega) (by omega)
      obtain ⟨u, v, s, e, q, he, q1, q2, hq⟩ := ih (pos + 1 + 1) (d'.set x.toNat y) (by omega) (by omega) (by omega) (by rw [List.length_set]; exact hd)
      refine ⟨u, v, s, e, q, he, by omega, by omega, ?_⟩
      have hj : Ev (fun k => spec_twoImages.j1 k ((m + 1 : Nat) : Int) true b pos w h p d w' h' p' d') (w, h, p, d, u, v, s, e, q) := by
        refine Ev.step (f := fun k => (spec_reader_pick.f k b pos (d'.length : Int)).bind fun bt => (spec_reader_pick.f k b bt.2 256).bind fun ct => if 0 ≤ bt.1 then (if bt.1 < (d'.length : Int) then spec_twoImages.l0 k (wrap64 (((m + 1 : Nat) : Int) - 1)) b ct.2 w h p d w' h' p' (d'.set (bt.1 : Int).toNat ct.1) else none) else none) (fun k => ?_) (ev_bind hx (ev_bind hy (ev_pos x0 (ev_pos x1 ?_))))
        · simp only [spec_twoImages.j1]
          rw [if_pos trivial]
        · rw [w64 (x := ((m + 1 : Nat) : Int) - 1) (by omega) (by omega), show ((m + 1 : Nat) : Int) - 1 = (m : Int) by omega]
          exact hq
      refine Ev.step (fun k => ?_) hj
      simp only [spec_twoImages.l0]
      rw [if_pos (by omega), decide_eq_true c]
    · obtain ⟨u, v, s, e, q, he, q1, q2, hq⟩ := stop (m + 1) pos d' h0 (by omega) hd
      refine ⟨u, v, s, e, q, he, q1, by omega, Ev.step (fun k => ?_) hq⟩
      simp only [spec_twoImages.l0]
      rw [if_pos (by omega), decide_eq_false c]
theorem twoImages_ev (b : List Int) (pos : Int) (hb : Bytes b) (h0 : 0 ≤ pos) (h1 : pos ≤ 1000000) :
    ∃ (w h p : Int) (d : List Int) (w' h' p' : Int) (d' : List Int) (q : Int), d.length ≤ 1024 ∧ d'.length ≤ 1024 ∧ pos ≤ q ∧ q ≤ pos + 9000 ∧ Ev (fun k => spec_twoImages.f k b pos) (w, h, p, d, w', h', p', d', q) := by
  obtain ⟨w, h, p, d, q, hd, q1, q2, hi⟩ := anyImage_ev b pos hb h0 (by omega)
  obtain ⟨m, hm, m0, m1⟩ := pick_in b q 6 (by omega) hb (by omega) (by omega)
  obtain ⟨M, rfl⟩ := Int.eq_ofNat_of_zero_le m0
  obtain ⟨u, v, s, e, q', he, q3, q4, hl⟩ := twoLoop b hb w h p d w h p M (q + 1) d (by omega) (by omega) (by omega) hd
  refine ⟨w, h, p, d, u, v, s, e, q', hd, he, by omega, by omega, ?_⟩
  unfold spec_twoImages.f
  exact ev_bind hi (ev_now (copyI_eq d (by omega)) (ev_bind hm hl))
end Go.Proofs.Ytbgohbinonkhfaa.Pure

/- The runs of a grid are a region: their grid is the grid, and their area is the number of its pixels. -/
namespace Go.Proofs.Ytbgohbinonkhfaa.Pure
open Go.RowKit Go.Proofs.Ytbgohbinonkhfaa.Q Go.Proofs.YtbgohbinonkhfaaW.PrintWords Go.Proofs.YtbgohbinonkhfaaW.PrintLast Go.Proofs.YtbgohbinonkhfaaW.PrintMore
set_option linter.unusedVariables false
set_option linter.unusedSimpArgs false

theorem endAt_le (g : Nat → Bool) (y : Nat) : ∀ n x, x ≤ 16 → endAt g y n x ≤ 16 := by
  intro n
  induction n with
  | zero => intro x h; exact h
  | succ n ih =>
    intro x h
    unfold endAt
    split
    · rename_i c; exact ih (x + 1) (by omega)
    · exact h
theorem endAt_in (g : Nat → Bool) (y : Nat) : ∀ n x q, x ≤ q → q < endAt g y n x → g (y * 16 + q) = true := by
  intro n
  induction n with
  | zero => intro x q h1 h2; exact absurd h2 (by simp only [endAt]; omega)
  | succ n ih =>
    intro x q h1 h2
    unfold endAt at h2
    split at h2
    · rename_i c
      by_cases e : q = x
      · subst e; exact c.2
      · exact ih (x + 1) q (by omega) h2
    · omega
theorem endAt_end (g : Nat → Bool) (y : Nat) : ∀ n x, 16 ≤ n + x → x ≤ 16 → endAt g y n x = 16 ∨ g (y * 16 + endAt g y n x) = false := by
  intro n
  induction n with
  | zero => intro x h1 h2; left; simp only [endAt]; omega
  | succ n ih =>
    intro x h1 h2
    unfold endAt
    split
    · rename_i c; exact ih (x + 1) (by omega) (by omega)
    · rename_i c
      by_cases hx : x < 16
      · right
        cases hv : g (y * 16 + x) with
        | true => exact absurd ⟨hx, hv⟩ c
        | false => rfl
      · left; omega
theorem runIn_row (y p : Nat) (a b : Nat) : runIn ⟨(y : Int), (a : Int), (b : Int)⟩ p = (decide (p / 16 = y) && (decide (a ≤ p % 16) && decide (p % 16 < b))) := by
  unfold runIn
  rw [Bool.and_assoc]
  congr 1
  · rw [decide_eq_decide]; simp only; omega
  · congr 1
    · rw [decide_eq_decide]; simp only; omega
    · rw [decide_eq_decide]; simp only; omega
theorem gridF_nil (p : Nat) : gridF [] p = false := rfl
theorem gridF_cons (r : Run) (l : List Run) (p : Nat) : gridF (r :: l) p = (runIn r p || gridF l p) := rfl
theorem gridF_append (l m : List Run) (p : Nat) : gridF (l ++ m) p = (gridF l p || gridF m p) := by unfold gridF; rw [List.any_append]
theorem grid_scan (g : Nat → Bool) (y p : Nat) (hp : p < 256) : ∀ d x, 17 ≤ x + d → gridF (scanRow g y x) p = (decide (p / 16 = y) && (decide (x ≤ p % 16) && g p)) := by
  intro d
  induction d with
  | zero =>
    intro x hx
    rw [scan_end g y x (by omega), gridF_nil, decide_eq_false (show ¬ x ≤ p % 16 by omega), Bool.false_and, Bool.and_false]
  | succ d ih =>
    intro x hx
    by_cases h16 : x < 16
    · by_cases hy : p / 16 = y
      · have hpe : p = y * 16 + p % 16 := by omega
        cases hv : g (y * 16 + x) with
        | true =>
          have he := endAt_ge g y (16 - x) x
          have he2 := endAt_le g y (16 - x) x (by omega)
          have hin := endAt_in g y (16 - x) x
          have hend := endAt_end g y (16 - x) x (by omega) (by omega)
          have hst := endAt_step g y x h16 hv
          have he3 := endAt_ge g y (16 - (x + 1)) (x + 1)
          rw [← hst] at he3
          rw [scan_true g y x h16 hv, gridF_cons, runIn_row, ih _ (by omega)]
          generalize endAt g y (16 - x) x = e at *
          rw [decide_eq_true hy, Bool.true_and, Bool.true_and, Bool.true_and]
          by_cases c1 : x ≤ p % 16
          · rw [decide_eq_true c1, Bool.true_and, Bool.true_and]
            by_cases c2 : p % 16 < e
            · rw [decide_eq_true c2, Bool.true_or, hpe, hin (p % 16) c1 c2]
            · rw [decide_eq_false c2, Bool.false_or]
              by_cases c3 : e + 1 ≤ p % 16
              · rw [decide_eq_true c3, Bool.true_and]
              · rw [decide_eq_false c3, Bool.false_and]
                rcases hend with h | h
                · omega
                · rw [show p % 16 = e by omega] at hpe
                  rw [hpe, h]
          · rw [decide_eq_false c1, Bool.false_and, Bool.false_and, Bool.false_or, decide_eq_false (show ¬ e + 1 ≤ p % 16 by omega), Bool.false_and]
        | false =>
          rw [scan_false g y x h16 hv, ih _ (by omega), decide_eq_true hy, Bool.true_and, Bool.true_and]
          by_cases c : x = p % 16
          · rw [decide_eq_false (show ¬ x + 1 ≤ p % 16 by omega), Bool.false_and, decide_eq_true (show x ≤ p % 16 by omega), Bool.true_and, hpe, ← c, hv]
          · congr 1
            rw [decide_eq_decide]; omega
      · have hall : ∀ d x, 17 ≤ x + d → gridF (scanRow g y x) p = false := by
          intro d
          induction d with
          | zero => intro x hx; rw [scan_end g y x (by omega)]; rfl
          | succ d ih =>
            intro x hx
            by_cases h16 : x < 16
            · cases hv : g (y * 16 + x) with
              | true =>
                have := endAt_ge g y (16 - x) x
                rw [scan_true g y x h16 hv, gridF_cons, runIn_row, decide_eq_false hy, Bool.false_and, Bool.false_or]
                exact ih _ (by omega)
              | false => rw [scan_false g y x h16 hv]; exact ih _ (by omega)
            · rw [scan_end g y x (by omega)]; rfl
        rw [hall 17 x (by omega), decide_eq_false hy, Bool.false_and]
    · rw [scan_end g y x (by omega), gridF_nil, decide_eq_false (show ¬ x ≤ p % 16 by omega), Bool.false_and, Bool.and_false]
theorem grid_runsTo (g : Nat → Bool) (p : Nat) (hp : p < 256) (n : Nat) : gridF (runsTo g n) p = (decide (p / 16 < n) && g p) := by
  induction n with
  | zero => simp [runsTo, gridF]
  | succ n ih =>
    rw [runsTo_succ, gridF_append, ih, grid_scan g n p hp 17 0 (by omega), decide_eq_true (Nat.zero_le _), Bool.true_and]
    by_cases c : p / 16 = n
    · rw [decide_eq_true c, decide_eq_false (show ¬ p / 16 < n by omega), decide_eq_true (show p / 16 < n + 1 by omega), Bool.false_and, Bool.false_or]
    · rw [decide_eq_false c, Bool.false_and, Bool.or_false]
      congr 1
      rw [decide_eq_decide]; omega
/-- The grid of a grid's runs is the grid. -/
theorem grid_runs (g : Nat → Bool) (p : Nat) (hp : p < 256) : gridF (runsL g) p = g p := by
  unfold runsL
  rw [grid_runsTo g p hp, decide_eq_true (show p / 16 < 16 by omega), Bool.true_and]
/-! the runs are valid -/
def rowsFrom (g : Nat → Bool) (y n : Nat) : List Run := (List.range' y n).flatMap fun y => scanRow g y 0
theorem rowsFrom_succ (g : Nat → Bool) (y n : Nat) : rowsFrom g y (n + 1) = scanRow g y 0 ++ rowsFrom g (y + 1) n := by
  simp [rowsFrom, List.range'_succ]
theorem runsL_rows (g : Nat → Bool) : runsL g = rowsFrom g 0 16 := by
  unfold runsL runsTo rowsFrom
  rw [List.range_eq_range']
/-- the run before, if there is one, lies ahead of column x of row y -/
def ahead (y x : Nat) (p : Option Run) : Prop := ∀ r, p = some r → r.f0 < (y : Int) ∨ (r.f0 = (y : Int) ∧ r.f2 < (x : Int))
theorem scan_valid (g : Nat → Bool) (y : Nat) (hy : y < 16) (rest : List Run) (hrest : ∀ p, (∀ r, p = some r → r.f0 ≤ (y : Int)) → validFrom p rest = true) :
    ∀ d x p, 17 ≤ x + d → (ahead y x p ∨ (x = 0 ∧ ∀ r, p = some r → r.f0 < (y : Int))) → validFrom p (scanRow g y x ++ rest) = true := by
  intro d
  induction d with
  | zero =>
    intro x p hx hp
    rw [scan_end g y x (by omega), List.nil_append]
    refine hrest p (fun r hr => ?_)
    rcases hp with hp | hp
    · have := hp r hr; omega
    · have := hp.2 r hr; omega
  | succ d ih =>
    intro x p hx hp
    by_cases h16 : x < 16
    · cases hv : g (y * 16 + x) with
      | true =>
        have he2 := endAt_le g y (16 - x) x (by omega)
        have hst := endAt_step g y x h16 hv
        have he3 := endAt_ge g y (16 - (x + 1)) (x + 1)
        rw [← hst] at he3
        rw [scan_true g y x h16 hv, List.cons_append]
        generalize endAt g y (16 - x) x = e at *
        have hok : runOK ⟨(y : Int), (x : Int), (e : Int)⟩ = true := by rw [runOK_iff]; simp only; omega
        have hnext : validFrom (some ⟨(y : Int), (x : Int), (e : Int)⟩) (scanRow g y (e + 1) ++ rest) = true := by
          refine ih (e + 1) _ (by omega) (.inl (fun r hr => ?_))
          injection hr with hr
          subst hr
          right
          simp only
          exact ⟨trivial, by omega⟩
        cases p with
        | none => simp only [validFrom, hok, hnext, Bool.and_true]
        | some q =>
          have haft : runAfter q ⟨(y : Int), (x : Int), (e : Int)⟩ = true := by
            rw [runAfter_iff]
            simp only
            rcases hp with hp | hp
            · have := hp q rfl; omega
            · have := hp.2 q rfl; omega
          simp only [validFrom, hok, haft, hnext, Bool.and_true]
      | false =>
        rw [scan_false g y x h16 hv]
        refine ih (x + 1) p (by omega) (.inl (fun r hr => ?_))
        rcases hp with hp | hp
        · have := hp r hr; omega
        · have := hp.2 r hr; omega
    · rw [scan_end g y x (by omega), List.nil_append]
      refine hrest p (fun r hr => ?_)
      rcases hp with hp | hp
      · have := hp r hr; omega
      · have := hp.2 r hr; omega
theorem rows_valid (g : Nat → Bool) : ∀ n y : Nat, y + n ≤ 16 → ∀ p : Option Run, (∀ r, p = some r → r.f0 < (y : Int)) → validFrom p (rowsFrom g y n) = true := by
  intro n
  induction n with
  | zero =>
    intro y _ p _
    cases p <;> rfl
  | succ n ih =>
    intro y hy p hp
    rw [rowsFrom_succ]
    exact scan_valid g y (by omega) _ (fun p' hp' => ih (y + 1) (by omega) p' (fun r hr => by have := hp' r hr; omega)) 17 0 p (by omega) (.inr ⟨rfl, hp⟩)
/-- The runs of a grid are a region. -/
theorem runs_valid (g : Nat → Bool) : validR (runsL g) = true := by
  rw [runsL_rows]
  exact rows_valid g 16 0 (by omega) none (fun r hr => by cases hr)
/-! their area -/
end Go.Proofs.Ytbgohbinonkhfaa.Pure
