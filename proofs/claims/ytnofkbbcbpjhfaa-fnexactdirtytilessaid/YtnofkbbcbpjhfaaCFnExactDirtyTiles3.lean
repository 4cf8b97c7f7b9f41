/- A part of the proof that the statement FnExactDirtyTilesSaid holds, under no condition of its own: The program's DirtyTiles and the reference's return the same, and what is returned is held by nobody else: over lists of numbers alone. -/
import Derived.Test.YtnofkbbcbpjhfaaCFnExactDirtyTiles1
import Derived.Test.YtnofkbbcbpjhfaaCFnExactDirtyTiles2
namespace Go.Proofs.Ytnofkbbcbpjhfaa.Q
open Go.RowKit Go.Proofs.YtnofkbbcbpjhfaaW.PrintWords Go.Proofs.YtnofkbbcbpjhfaaW.PrintLast Go.Proofs.YtnofkbbcbpjhfaaW.PrintMore
attribute [local go_sem] max2_int min2_int max_two min_two max_three min_three max_four min_four
set_option linter.unusedVariables false
set_option linter.unusedSimpArgs false
/-! ### impl_DirtyTiles: function 42 -/
mutual
def impl_DirtyTiles.j0 : Nat → Bool → Int → Int → Int → List Int → Int → Int → Int → List Int → Int → Int → Int → Int → Bool → Option (List Int)
  | 0, _, _, _, _, _, _, _, _, _, _, _, _, _, _ => none
  | k + 1, x18, x43002000, x43002001, x43002002, x43002003, x43003000, x43003001, x43003002, x43003003, x43003004, x43003005, x43003006, x43003007, x43003008 => if x18 = true then (some ([] : List Int)) else ((impl_Layer_box.f x43003000 x43003001 x43003002 x43003003 x43003004 x43003005 x43003006 x43003007 x43003008).bind fun bt43008 => ((impl_tileBoxes.f k x43002000 x43002001 x43002002 x43002003).bind fun t43013 => (impl_DirtyTiles.l0 k (([] : List Int)) t43013 (t43013.length : Int) 0 bt43008.1 bt43008.2.1 bt43008.2.2.1 bt43008.2.2.2)))
def impl_DirtyTiles.l0 : Nat → List Int → List (S47) → Int → Int → Int → Int → Int → Int → Option (List Int)
  | 0, _, _, _, _, _, _, _, _ => none
  | k + 1, x5, x23, x24, x25, x43013000, x43013001, x43013002, x43013003 => if x25 < x24 then (if 0 ≤ x25 then (if x25 < (x23.length : Int) then (if x43013000 < (wrap64 (((rd_T47 x23 x25).f0) + ((rd_T47 x23 x25).f2))) then (if ((rd_T47 x23 x25).f0) < (wrap64 (x43013000 + x43013002)) then (if x43013001 < (wrap64 (((rd_T47 x23 x25).f1) + ((rd_T47 x23 x25).f3))) then (impl_DirtyTiles.j2 k x5 x25 x23 x24 x25 (decide (((rd_T47 x23 x25).f1) < (wrap64 (x43013001 + x43013003)))) x43013000 x43013001 x43013002 x43013003) else (impl_DirtyTiles.j2 k x5 x25 x23 x24 x25 false x43013000 x43013001 x43013002 x43013003)) else (impl_DirtyTiles.j2 k x5 x25 x23 x24 x25 false x43013000 x43013001 x43013002 x43013003)) else (impl_DirtyTiles.j2 k x5 x25 x23 x24 x25 false x43013000 x43013001 x43013002 x43013003)) else (none)) else (none)) else (some x5)
def impl_DirtyTiles.j2 : Nat → List Int → Int → List (S47) → Int → Int → Bool → Int → Int → Int → Int → Option (List Int)
  | 0, _, _, _, _, _, _, _, _, _, _ => none
  | k + 1, x5, x7, x23, x24, x25, x67, x43013000, x43013001, x43013002, x43013003 => if x67 = true then (if x5.length < 17592186044416 then (impl_DirtyTiles.l0 k (x5 ++ [x7]) x23 x24 (wrap64 (x25 + 1)) x43013000 x43013001 x43013002 x43013003) else (none)) else (impl_DirtyTiles.l0 k x5 x23 x24 (wrap64 (x25 + 1)) x43013000 x43013001 x43013002 x43013003)
end
def impl_DirtyTiles.f (k : Nat) (a0_0 : Int) (a0_1 : Int) (a0_2 : Int) (l0_3 : List Int) (a1_0 : Int) (a1_1 : Int) (a1_2 : Int) (l1_3 : List Int) (a1_4 : Int) (a1_5 : Int) (a1_6 : Int) (a1_7 : Int) (a1_8 : Bool) : Option (List Int) := (impl_isImage.f a0_0 a0_1 a0_2 l0_3).bind fun t43003 => (if t43003 = true then ((impl_isLayer.f a1_0 a1_1 a1_2 l1_3 a1_4 a1_5 a1_6 a1_7 a1_8 a0_2).bind fun t43004 => (impl_DirtyTiles.j0 k (!t43004) a0_0 a0_1 a0_2 l0_3 a1_0 a1_1 a1_2 l1_3 a1_4 a1_5 a1_6 a1_7 a1_8)) else (impl_DirtyTiles.j0 k true a0_0 a0_1 a0_2 l0_3 a1_0 a1_1 a1_2 l1_3 a1_4 a1_5 a1_6 a1_7 a1_8))
theorem impl_DirtyTiles.mono_l : ∀ k, (∀ y0 y1 y2 y3 y4 y5 y6 y7 y8 y9 y10 y11 y12 y13, LeO (impl_DirtyTiles.j0 k y0 y1 y2 y3 y4 y5 y6 y7 y8 y9 y10 y11 y12 y13) (impl_DirtyTiles.j0 (k + 1) y0 y1 y2 y3 y4 y5 y6 y7 y8 y9 y10 y11 y12 y13)) ∧ (∀ y0 y1 y2 y3 y4 y5 y6 y7, LeO (impl_DirtyTiles.l0 k y0 y1 y2 y3 y4 y5 y6 y7) (impl_DirtyTiles.l0 (k + 1) y0 y1 y2 y3 y4 y5 y6 y7)) ∧ (∀ y0 y1 y2 y3 y4 y5 y6 y7 y8 y9, LeO (impl_DirtyTiles.j2 k y0 y1 y2 y3 y4 y5 y6 y7 y8 y9) (impl_DirtyTiles.j2 (k + 1) y0 y1 y2 y3 y4 y5 y6 y7 y8 y9))
  | 0 => ⟨fun _ _ _ _ _ _ _ _ _ _ _ _ _ _ r h => by simp [impl_DirtyTiles.j0] at h, fun _ _ _ _ _ _ _ _ r h => by simp [impl_DirtyTiles.l0] at h, fun _ _ _ _ _ _ _ _ _ _ r h => by simp [impl_DirtyTiles.j2] at h⟩
  | k + 1 => by
    obtain ⟨ih0, ih1, ih2⟩ := impl_DirtyTiles.mono_l k
    refine ⟨?_, ?_, ?_⟩
    · intro y0 y1 y2 y3 y4 y5 y6 y7 y8 y9 y10 y11 y12 y13
      unfold impl_DirtyTiles.j0
      repeat' first
      | (with_reducible exact ih0 _ _ _ _ _ _ _ _ _ _ _ _ _ _)
      | (with_reducible exact ih1 _ _ _ _ _ _ _ _)
      | (with_reducible exact ih2 _ _ _ _ _ _ _ _ _ _)
      | (with_reducible exact impl_tileBoxes.mono _ _ _ _ _)
      | (with_reducible exact LeO.refl _)
      | (with_reducible exact LeO.none _)
      | (with_reducible refine LeO.ite ?_ ?_)
      | (with_reducible refine LeO.bind ?_ (fun _ => ?_))
      | exact ih0 _ _ _ _ _ _ _ _ _ _ _ _ _ _
      | exact ih1 _ _ _ _ _ _ _ _
      | exact ih2 _ _ _ _ _ _ _ _ _ _
      | exact impl_tileBoxes.mono _ _ _ _ _
      | exact LeO.none _
      | refine LeO.ite ?_ ?_
      | refine LeO.bind ?_ (fun _ => ?_)
    · intro y0 y1 y2 y3 y4 y5 y6 y7
      unfold impl_DirtyTiles.l0
      repeat' first
      | (with_reducible exact ih0 _ _ _ _ _ _ _ _ _ _ _ _ _ _)
      | (with_reducible exact ih1 _ _ _ _ _ _ _ _)
      | (with_reducible exact ih2 _ _ _ _ _ _ _ _ _ _)
      | (with_reducible exact impl_tileBoxes.mono _ _ _ _ _)
      | (with_reducible exact LeO.refl _)
      | (with_reducible exact LeO.none _)
      | (with_reducible refine LeO.ite ?_ ?_)
      | (with_reducible refine LeO.bind ?_ (fun _ => ?_))
      | exact ih0 _ _ _ _ _ _ _ _ _ _ _ _ _ _
      | exact ih1 _ _ _ _ _ _ _ _
      | exact ih2 _ _ _ _ _ _ _ _ _ _
      | exact impl_tileBoxes.mono _ _ _ _ _
      | exact LeO.none _
      | refine LeO.ite ?_ ?_
      | refine LeO.bind ?_ (fun _ => ?_)
    · intro y0 y1 y2 y3 y4 y5 y6 y7 y8 y9
      unfold impl_DirtyTiles.j2
      repeat' first
      | (with_reducible exact ih0 _ _ _ _ _ _ _ _ _ _ _ _ _ _)
      | (with_reducible exact ih1 _ _ _ _ _ _ _ _)
      | (with_reducible exact ih2 _ _ _ _ _ _ _ _ _ _)
      | (with_reducible exact impl_tileBoxes.mono _ _ _ _ _)
      | (with_reducible exact LeO.refl _)
      | (with_reducible exact LeO.none _)
      | (with_reducible refine LeO.ite ?_ ?_)
      | (with_reducible refine LeO.bind ?_ (fun _ => ?_))
      | exact ih0 _ _ _ _ _ _ _ _ _ _ _ _ _ _
      | exact ih1 _ _ _ _ _ _ _ _
      | exact ih2 _ _ _ _ _ _ _ _ _ _
      | exact impl_tileBoxes.mono _ _ _ _ _
      | exact LeO.none _
      | refine LeO.ite ?_ ?_
      | refine LeO.bind ?_ (fun _ => ?_)
theorem impl_DirtyTiles.mono : ∀ a0 a1 a2 a3 a4 a5 a6 a7 a8 a9 a10 a11 a12 k, LeO (impl_DirtyTiles.f k a0 a1 a2 a3 a4 a5 a6 a7 a8 a9 a10 a11 a12) (impl_DirtyTiles.f (k + 1) a0 a1 a2 a3 a4 a5 a6 a7 a8 a9 a10 a11 a12) := by
  intro a0 a1 a2 a3 a4 a5 a6 a7 a8 a9 a10 a11 a12 k
  obtain ⟨ih0, ih1, ih2⟩ := impl_DirtyTiles.mono_l k
  unfold impl_DirtyTiles.f
  repeat' first
      | (with_reducible exact ih0 _ _ _ _ _ _ _ _ _ _ _ _ _ _)
      | (with_reducible exact ih1 _ _ _ _ _ _ _ _)
      | (with_reducible exact ih2 _ _ _ _ _ _ _ _ _ _)
      | (with_reducible exact impl_tileBoxes.mono _ _ _ _ _)
      | (with_reducible exact LeO.refl _)
      | (with_reducible exact LeO.none _)
      | (with_reducible refine LeO.ite ?_ ?_)
      | (with_reducible refine LeO.bind ?_ (fun _ => ?_))
      | exact ih0 _ _ _ _ _ _ _ _ _ _ _ _ _ _
      | exact ih1 _ _ _ _ _ _ _ _
      | exact ih2 _ _ _ _ _ _ _ _ _ _
      | exact impl_tileBoxes.mono _ _ _ _ _
      | exact LeO.none _
      | refine LeO.ite ?_ ?_
      | refine LeO.bind ?_ (fun _ => ?_)
set_option maxHeartbeats 8000000 in
set_option maxRecDepth 100000 in
theorem impl_DirtyTiles.calls (k : Nat) (a0_0 : Int) (a0_1 : Int) (a0_2 : Int) (A0_3 : Option Addr) (c0_3 : Nat) (l0_3 : List Int) (a1_0 : Int) (a1_1 : Int) (a1_2 : Int) (A1_3 : Option Addr) (c1_3 : Nat) (l1_3 : List Int) (a1_4 : Int) (a1_5 : Int) (a1_6 : Int) (a1_7 : Int) (a1_8 : Bool) (r : List Int) (w : World) (hr0_3 : Kd.C (Kd.int .i64) w A0_3 l0_3.length l0_3) (hc0_3 : l0_3.length ≤ c0_3) (hr1_3 : Kd.C (Kd.int .i64) w A1_3 l1_3.length l1_3) (hc1_3 : l1_3.length ≤ c1_3) (h : impl_DirtyTiles.f k a0_0 a0_1 a0_2 l0_3 a1_0 a1_1 a1_2 l1_3 a1_4 a1_5 a1_6 a1_7 a1_8 = some r) :
    Calls Try.prog 42 #[.agg #[.int .i64 a0_0, .int .i64 a0_1, .int .i64 a0_2, .slice A0_3 l0_3.length c0_3], .agg #[.int .i64 a1_0, .int .i64 a1_1, .int .i64 a1_2, .slice A1_3 l1_3.length c1_3, .int .i64 a1_4, .int .i64 a1_5, .int .i64 a1_6, .int .i64 a1_7, .bool a1_8]] w fun e w' => ∃ v0_ : Value, e = .returned (v0_) ∧ Kd.R (Kd.int .i64) 3 w' w.heap.size (fun _ => True) v0_ r ∧ Below w.heap.size w w' := by
  have hu27 := Try.underlying27
  have hu55 := Try.underlying55
  have hu47 := Try.underlying47
  have HR0_3 := Aside0.mk hr0_3
  have HC0_3 := Aside0.mk hc0_3
  clear hr0_3 hc0_3
  have HR1_3 := Aside0.mk hr1_3
  have HC1_3 := Aside0.mk hc1_3
  clear hr1_3 hc1_3
  have HB := Aside0.mk (Below.refl w.heap.size w)
  have H : ((impl_isImage.f a0_0 a0_1 a0_2 l0_3).bind fun t43003 => (if t43003 = true then ((impl_isLayer.f a1_0 a1_1 a1_2 l1_3 a1_4 a1_5 a1_6 a1_7 a1_8 a0_2).bind fun t43004 => (impl_DirtyTiles.j0 k (!t43004) a0_0 a0_1 a0_2 l0_3 a1_0 a1_1 a1_2 l1_3 a1_4 a1_5 a1_6 a1_7 a1_8)) else (impl_DirtyTiles.j0 k true a0_0 a0_1 a0_2 l0_3 a1_0 a1_1 a1_2 l1_3 a1_4 a1_5 a1_6 a1_7 a1_8))) = some r := h
  clear h
  have HC3 := Aside0.mk H
  clear H
  go_enter Try.func42, Try.ntmps42
  go_upto_region 1 with (first | ((with_reducible refine gate_dst (N := 2) rfl ?_); refine box_event ?hg (N := 2) ?hd (cs := #[.int .i64 a0_0, .int .i64 a0_1, .int .i64 a0_2, .slice A0_3 l0_3.length c0_3]) (t := 27) ?hr ?_; (case hd => rfl); (case hg => rfl); (case hr => first | (go_simp; done) | (go_simp; rfl)); intro gb43001 hg w4 hbox hb; have n0_ := Aside0.mk (below_step (by repeat (first | (with_reducible first | exact HB.out | apply below_alloc | apply pw_below_drewN | apply below_drew1) | exact HB.out)) hb); have n1_ := Aside0.mk (hbox); have n2_ := Aside0.mk ((by rw [hg]; exact (below_size (by repeat (first | (with_reducible first | exact HB.out | apply below_alloc | apply pw_below_drewN | apply below_drew1) | exact HB.out))) : w.heap.size ≤ gb43001)); have n3_ := Aside0.mk ((by rw [hg]; exact (below_size (by repeat (first | (with_reducible first | exact HB.out | apply below_alloc | apply pw_below_drewN | apply below_drew1) | exact HB.out))) : w.heap.size ≤ gb43001)); clear HB; have HB := n0_; have BK43001 := n1_; have GW43001 := n2_; have GE43001 := n3_; clear n0_ n1_ n2_ n3_; clear hb hbox hg) | ((with_reducible refine gate_dst (N := 3) rfl ?_); refine box_event ?hg (N := 3) ?hd (cs := #[.int .i64 a1_0, .int .i64 a1_1, .int .i64 a1_2, .slice A1_3 l1_3.length c1_3, .int .i64 a1_4, .int .i64 a1_5, .int .i64 a1_6, .int .i64 a1_7, .bool a1_8]) (t := 55) ?hr ?_; (case hd => rfl); (case hg => rfl); (case hr => first | (go_simp; done) | (go_simp; rfl)); intro gb43002 hg w5 hbox hb; have n0_ := Aside0.mk (blk_below (g := gb43001) (o := .cells #[.int .i64 a0_0, .int .i64 a0_1, .int .i64 a0_2, .slice A0_3 l0_3.length c0_3] 27 (0, 0)) (by (with_reducible repeat (first | refine blk_drewN ?_ _ | refine blk_drew ?_ | refine blk_alloc ?_ _)); exact BK43001.out) hb); have n1_ := Aside0.mk (below_step (by repeat (first | (with_reducible first | exact HB.out | apply below_alloc | apply pw_below_drewN | apply below_drew1 | refine below_set ?_ GE43001.out) | exact HB.out)) hb); have n2_ := Aside0.mk (hbox); have n3_ := Aside0.mk ((by rw [hg]; exact (below_size (by repeat (first | (with_reducible first | exact HB.out | apply below_alloc | apply pw_below_drewN | apply below_drew1 | refine below_set ?_ GE43001.out) | exact HB.out))) : w.heap.size ≤ gb43002)); have n4_ := Aside0.mk ((by rw [hg]; exact (below_size (by repeat (first | (with_reducible first | exact HB.out | apply below_alloc | apply pw_below_drewN | apply below_drew1 | refine below_set ?_ GE43001.out) | exact HB.out))) : w.heap.size ≤ gb43002)); have n5_ := Aside0.mk ((by rw [hg]; exact Nat.ne_of_lt (blk_lt (g := gb43001) (o := .cells #[.int .i64 a0_0, .int .i64 a0_1, .int .i64 a0_2, .slice A0_3 l0_3.length c0_3] 27 (0, 0)) (by (with_reducible repeat (first | refine blk_drewN ?_ _ | refine blk_drew ?_ | refine blk_alloc ?_ _)); exact BK43001.out)) : gb43001 ≠ gb43002)); have n6_ := Aside0.mk ((by rw [hg]; exact Nat.ne_of_gt (blk_lt (g := gb43001) (o := .cells #[.int .i64 a0_0, .int .i64 a0_1, .int .i64 a0_2, .slice A0_3 l0_3.length c0_3] 27 (0, 0)) (by (with_reducible repeat (first | refine blk_drewN ?_ _ | refine blk_drew ?_ | refine blk_alloc ?_ _)); exact BK43001.out)) : gb43002 ≠ gb43001)); clear BK43001; clear HB; have BK43001 := n0_; have HB := n1_; have BK43002 := n2_; have GW43002 := n3_; have GE43002 := n4_; have NB43001_43002 := n5_; have NB43002_43001 := n6_; clear n0_ n1_ n2_ n3_ n4_ n5_ n6_; clear hb hbox hg))
  (try simp only [Act.put, List.setIfInBounds_toArray, List.set_cons_zero, List.set_cons_succ])
  go_cut [18] (fun v18 wc => ∃ (kq : Nat) (x18_2 : Bool), v18 = .bool x18_2 ∧ Aside0 (impl_DirtyTiles.j0 kq x18_2 a0_0 a0_1 a0_2 l0_3 a1_0 a1_1 a1_2 l1_3 a1_4 a1_5 a1_6 a1_7 a1_8 = some r) ∧ Aside0 (kq ≤ k) ∧ Aside0 (wc.heap[gb43001]? = some (.cells #[.int .i64 a0_0, .int .i64 a0_1, .int .i64 a0_2, (.slice A0_3 l0_3.length c0_3)] 27 (0, 0))) ∧ Aside0 (wc.heap[gb43002]? = some (.cells #[.int .i64 a1_0, .int .i64 a1_1, .int .i64 a1_2, (.slice A1_3 l1_3.length c1_3), .int .i64 a1_4, .int .i64 a1_5, .int .i64 a1_6, .int .i64 a1_7, .bool a1_8] 55 (0, 0))) ∧ Aside0 (Below w.heap.size w wc))
  case first =>
    have H := HC3.out
    clear HC3
    replace H := Option.bind_eq_some_iff.mp H
    obtain ⟨t43003, A60, H⟩ := H
    replace H : (if t43003 = true then ((impl_isLayer.f a1_0 a1_1 a1_2 l1_3 a1_4 a1_5 a1_6 a1_7 a1_8 a0_2).bind fun t43004 => (impl_DirtyTiles.j0 k (!t43004) a0_0 a0_1 a0_2 l0_3 a1_0 a1_1 a1_2 l1_3 a1_4 a1_5 a1_6 a1_7 a1_8)) else (impl_DirtyTiles.j0 k true a0_0 a0_1 a0_2 l0_3 a1_0 a1_1 a1_2 l1_3 a1_4 a1_5 a1_6 a1_7 a1_8)) = some r := H
    have A6 := Aside0.mk A60
    clear A60
    by_cases c7 : t43003 = true
    · subst c7
      have H1 : ((impl_isLayer.f a1_0 a1_1 a1_2 l1_3 a1_4 a1_5 a1_6 a1_7 a1_8 a0_2).bind fun t43004 => (impl_DirtyTiles.j0 k (!t43004) a0_0 a0_1 a0_2 l0_3 a1_0 a1_1 a1_2 l1_3 a1_4 a1_5 a1_6 a1_7 a1_8)) = some r := by rw [if_pos rfl] at H; exact H
      clear H
      have H := H1
      clear H1
      replace H := Option.bind_eq_some_iff.mp H
      obtain ⟨t43004, A80, H⟩ := H
      replace H : (impl_DirtyTiles.j0 k (!t43004) a0_0 a0_1 a0_2 l0_3 a1_0 a1_1 a1_2 l1_3 a1_4 a1_5 a1_6 a1_7 a1_8) = some r := H
      have A8 := Aside0.mk A80
      clear A80
      have H' := Aside0.mk H
      clear H
      have hnb9 := NB43001_43002.out
      have hnc9 := NB43002_43001.out
      have hcz10_0 : w5.cell? ⟨gb43001, 0, none⟩ = some (.int .i64 a0_0) := (blk_cell BK43001.out 0).trans rfl
      have hcz10_1 : w5.cell? ⟨gb43001, 1, none⟩ = some (.int .i64 a0_1) := (blk_cell BK43001.out 1).trans rfl
      have hcz10_2 : w5.cell? ⟨gb43001, 2, none⟩ = some (.int .i64 a0_2) := (blk_cell BK43001.out 2).trans rfl
      have hcz10_3 : w5.cell? ⟨gb43001, 3, none⟩ = some (.slice A0_3 l0_3.length c0_3) := (blk_cell BK43001.out 3).trans rfl
      have hfz10_0 := blk_frozen BK43001.out 0
      have hfz10_1 := blk_frozen BK43001.out 1
      have hfz10_2 := blk_frozen BK43001.out 2
      have hfz10_3 := blk_frozen BK43001.out 3
      go_wp2_with (first | ((with_reducible refine gate_callee (f := 83) rfl ?_); refine goesL_ (some 10) rfl rfl Try.func83 (by kernel_rfl) rfl #[.agg #[.int .i64 a0_0, .int .i64 a0_1, .int .i64 a0_2, .slice A0_3 l0_3.length c0_3]] rfl (by (try simp only [List.map_toArray, List.map_cons, List.map_nil]); first | done | rfl | (simp only [List.length_drop, List.length_take]; rfl)) ?_; (with_reducible refine (impl_isImage.calls a0_0 a0_1 a0_2 _ _ l0_3 true _ ?side1 ?side2 A6.out).mono ?_); (case side1 => repeat (first | exact (Kd.C_below HR0_3.out HB.out) | (with_reducible refine Kd.C_alloc ?_ _) | (with_reducible refine Kd.C_drewN ?_ _) | (with_reducible refine Kd.C_drew ?_))); (case side2 => exact HC0_3.out); rintro e w11 ⟨rfl, hb⟩; refine ⟨_, rfl, ?_⟩; have n0_ := Aside0.mk (blk_below (g := gb43001) (o := .cells #[.int .i64 a0_0, .int .i64 a0_1, .int .i64 a0_2, .slice A0_3 l0_3.length c0_3] 27 (0, 0)) (by (with_reducible repeat (first | refine blk_drewN ?_ _ | refine blk_drew ?_ | refine blk_alloc ?_ _)); exact BK43001.out) hb); have n1_ := Aside0.mk (blk_below (g := gb43002) (o := .cells #[.int .i64 a1_0, .int .i64 a1_1, .int .i64 a1_2, .slice A1_3 l1_3.length c1_3, .int .i64 a1_4, .int .i64 a1_5, .int .i64 a1_6, .int .i64 a1_7, .bool a1_8] 55 (0, 0)) (by (with_reducible repeat (first | refine blk_drewN ?_ _ | refine blk_drew ?_ | refine blk_alloc ?_ _)); exact BK43002.out) hb); have n2_ := Aside0.mk (below_step (by repeat (first | (with_reducible first | exact HB.out | apply below_alloc | apply pw_below_drewN | apply below_drew1 | refine below_set ?_ GE43001.out | refine below_set ?_ GE43002.out) | exact HB.out)) hb); clear BK43001; clear BK43002; clear HB; have BK43001 := n0_; have BK43002 := n1_; have HB := n2_; clear n0_ n1_ n2_; (try clear hb); (try clear hb2); (try clear hk); (try clear hi); have hcz12_0 : w11.cell? ⟨gb43002, 0, none⟩ = some (.int .i64 a1_0) := (blk_cell BK43002.out 0).trans rfl; have hcz12_1 : w11.cell? ⟨gb43002, 1, none⟩ = some (.int .i64 a1_1) := (blk_cell BK43002.out 1).trans rfl; have hcz12_2 : w11.cell? ⟨gb43002, 2, none⟩ = some (.int .i64 a1_2) := (blk_cell BK43002.out 2).trans rfl; have hcz12_3 : w11.cell? ⟨gb43002, 3, none⟩ = some (.slice A1_3 l1_3.length c1_3) := (blk_cell BK43002.out 3).trans rfl; have hcz12_4 : w11.cell? ⟨gb43002, 4, none⟩ = some (.int .i64 a1_4) := (blk_cell BK43002.out 4).trans rfl; have hcz12_5 : w11.cell? ⟨gb43002, 5, none⟩ = some (.int .i64 a1_5) := (blk_cell BK43002.out 5).trans rfl; have hcz12_6 : w11.cell? ⟨gb43002, 6, none⟩ = some (.int .i64 a1_6) := (blk_cell BK43002.out 6).trans rfl; have hcz12_7 : w11.cell? ⟨gb43002, 7, none⟩ = some (.int .i64 a1_7) := (blk_cell BK43002.out 7).trans rfl; have hcz12_8 : w11.cell? ⟨gb43002, 8, none⟩ = some (.bool a1_8) := (blk_cell BK43002.out 8).trans rfl; have hfz12_0 := blk_frozen BK43002.out 0; have hfz12_1 := blk_frozen BK43002.out 1; have hfz12_2 := blk_frozen BK43002.out 2; have hfz12_3 := blk_frozen BK43002.out 3; have hfz12_4 := blk_frozen BK43002.out 4; have hfz12_5 := blk_frozen BK43002.out 5; have hfz12_6 := blk_frozen BK43002.out 6; have hfz12_7 := blk_frozen BK43002.out 7; have hfz12_8 := blk_frozen BK43002.out 8; have hcz13_0 : w11.cell? ⟨gb43001, 0, none⟩ = some (.int .i64 a0_0) := (blk_cell BK43001.out 0).trans rfl; have hcz13_1 : w11.cell? ⟨gb43001, 1, none⟩ = some (.int .i64 a0_1) := (blk_cell BK43001.out 1).trans rfl; have hcz13_2 : w11.cell? ⟨gb43001, 2, none⟩ = some (.int .i64 a0_2) := (blk_cell BK43001.out 2).trans rfl; have hcz13_3 : w11.cell? ⟨gb43001, 3, none⟩ = some (.slice A0_3 l0_3.length c0_3) := (blk_cell BK43001.out 3).trans rfl; have hfz13_0 := blk_frozen BK43001.out 0; have hfz13_1 := blk_frozen BK43001.out 1; have hfz13_2 := blk_frozen BK43001.out 2; have hfz13_3 := blk_frozen BK43001.out 3) | (go_at_call 103; (with_reducible refine (impl_isLayer.calls a1_0 a1_1 a1_2 _ _ l1_3 a1_4 a1_5 a1_6 a1_7 a1_8 a0_2 t43004 _ ?side1 ?side2 A8.out).mono ?_); (case side1 => repeat (first | exact (Kd.C_below HR1_3.out HB.out) | (with_reducible refine Kd.C_alloc ?_ _) | (with_reducible refine Kd.C_drewN ?_ _) | (with_reducible refine Kd.C_drew ?_))); (case side2 => exact HC1_3.out); rintro e w14 ⟨rfl, hb⟩; have n0_ := Aside0.mk (blk_below (g := gb43001) (o := .cells #[.int .i64 a0_0, .int .i64 a0_1, .int .i64 a0_2, .slice A0_3 l0_3.length c0_3] 27 (0, 0)) (by (with_reducible repeat (first | refine blk_drewN ?_ _ | refine blk_drew ?_ | refine blk_alloc ?_ _)); exact BK43001.out) hb); have n1_ := Aside0.mk (blk_below (g := gb43002) (o := .cells #[.int .i64 a1_0, .int .i64 a1_1, .int .i64 a1_2, .slice A1_3 l1_3.length c1_3, .int .i64 a1_4, .int .i64 a1_5, .int .i64 a1_6, .int .i64 a1_7, .bool a1_8] 55 (0, 0)) (by (with_reducible repeat (first | refine blk_drewN ?_ _ | refine blk_drew ?_ | refine blk_alloc ?_ _)); exact BK43002.out) hb); have n2_ := Aside0.mk (below_step (by repeat (first | (with_reducible first | exact HB.out | apply below_alloc | apply pw_below_drewN | apply below_drew1 | refine below_set ?_ GE43001.out | refine below_set ?_ GE43002.out) | exact HB.out)) hb); clear BK43001; clear BK43002; clear HB; have BK43001 := n0_; have BK43002 := n1_; have HB := n2_; clear n0_ n1_ n2_; (try clear hb); (try clear hb2); (try clear hk); (try clear hi)))
      go_meet
      case rel => exact ⟨_, (!t43004), (by first | rfl | (simp; done) | (simp [*]; done)), H', ⟨by first | omega | exact Nat.le_refl _⟩, ⟨by (with_reducible repeat (first | refine blk_drewN ?_ _ | refine blk_drew ?_ | refine blk_alloc ?_ _)); exact BK43001.out⟩, ⟨by (with_reducible repeat (first | refine blk_drewN ?_ _ | refine blk_drew ?_ | refine blk_alloc ?_ _)); exact BK43002.out⟩, ⟨by repeat (first | (with_reducible first | exact HB.out | apply below_alloc | apply pw_below_drewN | apply below_drew1 | refine below_set ?_ GE43001.out | refine below_set ?_ GE43002.out) | exact HB.out)⟩⟩
    · replace c7 := Bool.eq_false_iff.mpr c7
      subst c7
      have H1 : (impl_DirtyTiles.j0 k true a0_0 a0_1 a0_2 l0_3 a1_0 a1_1 a1_2 l1_3 a1_4 a1_5 a1_6 a1_7 a1_8) = some r := by rw [if_neg (show ¬ (false = true) by decide)] at H; exact H
      clear H
      have H := H1
      clear H1
      have H' := Aside0.mk H
      clear H
      have hnb15 := NB43001_43002.out
      have hnc15 := NB43002_43001.out
      have hcz16_0 : w5.cell? ⟨gb43001, 0, none⟩ = some (.int .i64 a0_0) := (blk_cell BK43001.out 0).trans rfl
      have hcz16_1 : w5.cell? ⟨gb43001, 1, none⟩ = some (.int .i64 a0_1) := (blk_cell BK43001.out 1).trans rfl
      have hcz16_2 : w5.cell? ⟨gb43001, 2, none⟩ = some (.int .i64 a0_2) := (blk_cell BK43001.out 2).trans rfl
      have hcz16_3 : w5.cell? ⟨gb43001, 3, none⟩ = some (.slice A0_3 l0_3.length c0_3) := (blk_cell BK43001.out 3).trans rfl
      have hfz16_0 := blk_frozen BK43001.out 0
      have hfz16_1 := blk_frozen BK43001.out 1
      have hfz16_2 := blk_frozen BK43001.out 2
      have hfz16_3 := blk_frozen BK43001.out 3
      go_wp2_with (first | ((with_reducible refine gate_callee (f := 83) rfl ?_); refine goesL_ (some 10) rfl rfl Try.func83 (by kernel_rfl) rfl #[.agg #[.int .i64 a0_0, .int .i64 a0_1, .int .i64 a0_2, .slice A0_3 l0_3.length c0_3]] rfl (by (try simp only [List.map_toArray, List.map_cons, List.map_nil]); first | done | rfl | (simp only [List.length_drop, List.length_take]; rfl)) ?_; (with_reducible refine (impl_isImage.calls a0_0 a0_1 a0_2 _ _ l0_3 false _ ?side1 ?side2 A6.out).mono ?_); (case side1 => repeat (first | exact (Kd.C_below HR0_3.out HB.out) | (with_reducible refine Kd.C_alloc ?_ _) | (with_reducible refine Kd.C_drewN ?_ _) | (with_reducible refine Kd.C_drew ?_))); (case side2 => exact HC0_3.out); rintro e w17 ⟨rfl, hb⟩; refine ⟨_, rfl, ?_⟩; have n0_ := Aside0.mk (blk_below (g := gb43001) (o := .cells #[.int .i64 a0_0, .int .i64 a0_1, .int .i64 a0_2, .slice A0_3 l0_3.length c0_3] 27 (0, 0)) (by (with_reducible repeat (first | refine blk_drewN ?_ _ | refine blk_drew ?_ | refine blk_alloc ?_ _)); exact BK43001.out) hb); have n1_ := Aside0.mk (blk_below (g := gb43002) (o := .cells #[.int .i64 a1_0, .int .i64 a1_1, .int .i64 a1_2, .slice A1_3 l1_3.length c1_3, .int .i64 a1_4, .int .i64 a1_5, .int .i64 a1_6, .int .i64 a1_7, .bool a1_8] 55 (0, 0)) (by (with_reducible repeat (first | refine blk_drewN ?_ _ | refine blk_drew ?_ | refine blk_alloc ?_ _)); exact BK43002.out) hb); have n2_ := Aside0.mk (below_step (by repeat (first | (with_reducible first | exact HB.out | apply below_alloc | apply pw_below_drewN | apply below_drew1 | refine below_set ?_ GE43001.out | refine below_set ?_ GE43002.out) | exact HB.out)) hb); clear BK43001; clear BK43002; clear HB; have BK43001 := n0_; have BK43002 := n1_; have HB := n2_; clear n0_ n1_ n2_; (try clear hb); (try clear hb2); (try clear hk); (try clear hi)))
      go_meet
      case rel => exact ⟨_, (true), (by first | rfl | (simp; done) | (simp [*]; done)), H', ⟨by first | omega | exact Nat.le_refl _⟩, ⟨by (with_reducible repeat (first | refine blk_drewN ?_ _ | refine blk_drew ?_ | refine blk_alloc ?_ _)); exact BK43001.out⟩, ⟨by (with_reducible repeat (first | refine blk_drewN ?_ _ | refine blk_drew ?_ | refine blk_alloc ?_ _)); exact BK43002.out⟩, ⟨by repeat (first | (with_reducible first | exact HB.out | apply below_alloc | apply pw_below_drewN | apply below_drew1 | refine below_set ?_ GE43001.out | refine below_set ?_ GE43002.out) | exact HB.out)⟩⟩
  case rest =>
    clear HC3
    try clear c1
    try clear p2
    try clear c4
    try clear c7
    try clear c8
    try clear c9
    try clear c15
    try clear hcz10_0
    try clear hcz10_1
    try clear hcz10_2
    try clear hcz10_3
    try clear hcz12_0
    try clear hcz12_1
    try clear hcz12_2
    try clear hcz12_3
    try clear hcz12_4
    try clear hcz12_5
    try clear hcz12_6
    try clear hcz12_7
    try clear hcz12_8
    try clear hcz13_0
    try clear hcz13_1
    try clear hcz13_2
    try clear hcz13_3
    try clear hcz16_0
    try clear hcz16_1
    try clear hcz16_2
    try clear hcz16_3
    try clear hfz10_0
    try clear hfz10_1
    try clear hfz10_2
    try clear hfz10_3
    try clear hfz12_0
    try clear hfz12_1
    try clear hfz12_2
    try clear hfz12_3
    try clear hfz12_4
    try clear hfz12_5
    try clear hfz12_6
    try clear hfz12_7
    try clear hfz12_8
    try clear hfz13_0
    try clear hfz13_1
    try clear hfz13_2
    try clear hfz13_3
    try clear hfz16_0
    try clear hfz16_1
    try clear hfz16_2
    try clear hfz16_3
    obtain ⟨kq, x18_2, rfl, HA, HJ2, BK43001, BK43002, HB⟩ := hcut
    cases kq with
    | zero => exact absurd HA.out (by simp [impl_DirtyTiles.j0])
    | succ kj2 =>
      have H := HA.out
      clear HA
      simp only [impl_DirtyTiles.j0] at H
      by_cases c18 : x18_2 = true
      · subst c18
        have H1 : (some ([] : List Int)) = some r := by rw [if_pos rfl] at H; exact H
        clear H
        have H := H1
        clear H1
        obtain rfl := Option.some.inj H
        go_wp2
        go_ret
        exact ⟨_, by first | rfl | (simp [errW_none, errW_some] <;> rfl) | (simp [*, errW_none, errW_some] <;> rfl), by first | exact Kd.R_nil _ _ _ _ _ | exact Kd.N_nil _ _ _ _ _ | exact Kd.V_nil _ _ _ _ _ | exact Kd.Q_nil _ _ _ _ _ | exact Kd.S_nil _ _ _ _ _, by repeat (first | (with_reducible first | exact HB.out | apply below_alloc | apply pw_below_drewN | apply below_drew1 | refine below_set ?_ GE43001.out | refine below_set ?_ GE43002.out) | exact HB.out)⟩
      · replace c18 := Bool.eq_false_iff.mpr c18
        subst c18
        have H1 : ((impl_Layer_box.f a1_0 a1_1 a1_2 l1_3 a1_4 a1_5 a1_6 a1_7 a1_8).bind fun bt43008 => ((impl_tileBoxes.f kj2 a0_0 a0_1 a0_2 l0_3).bind fun t43013 => (impl_DirtyTiles.l0 kj2 (([] : List Int)) t43013 (t43013.length : Int) 0 bt43008.1 bt43008.2.1 bt43008.2.2.1 bt43008.2.2.2))) = some r := by rw [if_neg (show ¬ (false = true) by decide)] at H; exact H
        clear H
        have H := H1
        clear H1
        obtain ⟨y43005, hy43005⟩ : ∃ y_ : List Int, y_ = (([] : List Int)) := ⟨_, rfl⟩
        replace H : ((impl_Layer_box.f a1_0 a1_1 a1_2 l1_3 a1_4 a1_5 a1_6 a1_7 a1_8).bind fun bt43008 => ((impl_tileBoxes.f kj2 a0_0 a0_1 a0_2 l0_3).bind fun t43013 => (impl_DirtyTiles.l0 kj2 y43005 t43013 (t43013.length : Int) 0 bt43008.1 bt43008.2.1 bt43008.2.2.1 bt43008.2.2.2))) = some r := by first | (rw [hy43005]; with_reducible exact H) | (have H2_ := (Option.bind_some _ _).symm.trans H; rw [hy43005]; with_reducible exact H2_) | (have H2_ := (Option.bind_some _ _).symm.trans H; with_reducible exact H2_) | with_reducible exact H | (rw [hy43005]; exact H) | exact H
        have Ny43005 := Aside0.mk hy43005
        clear hy43005
        replace H := Option.bind_eq_some_iff.mp H
        obtain ⟨⟨t43008, t43009, t43010, t43011⟩, A190, H⟩ := H
        replace H : ((impl_tileBoxes.f kj2 a0_0 a0_1 a0_2 l0_3).bind fun t43013 => (impl_DirtyTiles.l0 kj2 y43005 t43013 (t43013.length : Int) 0 t43008 t43009 t43010 t43011)) = some r := H
        have A19 := Aside0.mk A190
        clear A190
        replace H := Option.bind_eq_some_iff.mp H
        obtain ⟨t43013, A200, H⟩ := H
        replace H : (impl_DirtyTiles.l0 kj2 y43005 t43013 (t43013.length : Int) 0 t43008 t43009 t43010 t43011) = some r := H
        have A20 := Aside0.mk A200
        clear A200
        have H' := Aside0.mk H
        clear H
        go_wp2_with (first | ((with_reducible refine gate_dst (N := 19) rfl ?_); refine Kd.R_lit (Kd.int .i64) _ 3 ?hg (N := 19) ?hd (xs := ([] : List Int)) (inner := []) (ok := fun _ => True) (okp := fun _ => True) ?hr ?hp (fun _ hk => hk) trivial (Below.refl _ _) (Nat.le_refl _) (by simp) ?_; (case hd => rfl); (case hg => rfl); (case hr => first | (go_simp; done) | (go_simp; rfl)); (case hp => exact (Reps.none _ _)); intro v43006 w21 ho22 hb hg_ hnew_; clear hg_ hnew_; (first | rw [← Ny43005.out] at ho22 | (simp only [Int.reduceToNat] at ho22; rw [← Ny43005.out] at ho22)); have n0_ := Aside0.mk (Kd.R_lower ho22 (below_size (by repeat (first | (with_reducible first | exact HB.out | apply below_alloc | apply pw_below_drewN | apply below_drew1 | refine below_set ?_ GE43001.out | refine below_set ?_ GE43002.out) | exact HB.out)))); have n1_ := Aside0.mk (blk_below (g := gb43001) (o := .cells #[.int .i64 a0_0, .int .i64 a0_1, .int .i64 a0_2, .slice A0_3 l0_3.length c0_3] 27 (0, 0)) (by (with_reducible repeat (first | refine blk_drewN ?_ _ | refine blk_drew ?_ | refine blk_alloc ?_ _)); exact BK43001.out) hb); have n2_ := Aside0.mk (blk_below (g := gb43002) (o := .cells #[.int .i64 a1_0, .int .i64 a1_1, .int .i64 a1_2, .slice A1_3 l1_3.length c1_3, .int .i64 a1_4, .int .i64 a1_5, .int .i64 a1_6, .int .i64 a1_7, .bool a1_8] 55 (0, 0)) (by (with_reducible repeat (first | refine blk_drewN ?_ _ | refine blk_drew ?_ | refine blk_alloc ?_ _)); exact BK43002.out) hb); have n3_ := Aside0.mk (below_step (by repeat (first | (with_reducible first | exact HB.out | apply below_alloc | apply pw_below_drewN | apply below_drew1 | refine below_set ?_ GE43001.out | refine below_set ?_ GE43002.out) | exact HB.out)) hb); clear BK43001; clear BK43002; clear HB; have HO43007 := n0_; have BK43001 := n1_; have BK43002 := n2_; have HB := n3_; clear n0_ n1_ n2_ n3_; clear hb ho22; have hnb23 := NB43002_43001.out; have hnc23 := NB43001_43002.out; have hcz24_0 : w21.cell? ⟨gb43002, 0, none⟩ = some (.int .i64 a1_0) := (blk_cell BK43002.out 0).trans rfl; have hcz24_1 : w21.cell? ⟨gb43002, 1, none⟩ = some (.int .i64 a1_1) := (blk_cell BK43002.out 1).trans rfl; have hcz24_2 : w21.cell? ⟨gb43002, 2, none⟩ = some (.int .i64 a1_2) := (blk_cell BK43002.out 2).trans rfl; have hcz24_3 : w21.cell? ⟨gb43002, 3, none⟩ = some (.slice A1_3 l1_3.length c1_3) := (blk_cell BK43002.out 3).trans rfl; have hcz24_4 : w21.cell? ⟨gb43002, 4, none⟩ = some (.int .i64 a1_4) := (blk_cell BK43002.out 4).trans rfl; have hcz24_5 : w21.cell? ⟨gb43002, 5, none⟩ = some (.int .i64 a1_5) := (blk_cell BK43002.out 5).trans rfl; have hcz24_6 : w21.cell? ⟨gb43002, 6, none⟩ = some (.int .i64 a1_6) := (blk_cell BK43002.out 6).trans rfl; have hcz24_7 : w21.cell? ⟨gb43002, 7, none⟩ = some (.int .i64 a1_7) := (blk_cell BK43002.out 7).trans rfl; have hcz24_8 : w21.cell? ⟨gb43002, 8, none⟩ = some (.bool a1_8) := (blk_cell BK43002.out 8).trans rfl; have hfz24_0 := blk_frozen BK43002.out 0; have hfz24_1 := blk_frozen BK43002.out 1; have hfz24_2 := blk_frozen BK43002.out 2; have hfz24_3 := blk_frozen BK43002.out 3; have hfz24_4 := blk_frozen BK43002.out 4; have hfz24_5 := blk_frozen BK43002.out 5; have hfz24_6 := blk_frozen BK43002.out 6; have hfz24_7 := blk_frozen BK43002.out 7; have hfz24_8 := blk_frozen BK43002.out 8) | ((with_reducible refine gate_callee (f := 104) rfl ?_); refine goesL_ (some 21) rfl rfl Try.func104 (by kernel_rfl) rfl #[.agg #[.int .i64 a1_0, .int .i64 a1_1, .int .i64 a1_2, .slice A1_3 l1_3.length c1_3, .int .i64 a1_4, .int .i64 a1_5, .int .i64 a1_6, .int .i64 a1_7, .bool a1_8]] rfl (by (try simp only [List.map_toArray, List.map_cons, List.map_nil]); first | done | rfl | (simp only [List.length_drop, List.length_take]; rfl)) ?_; (with_reducible refine (impl_Layer_box.calls a1_0 a1_1 a1_2 _ _ l1_3 a1_4 a1_5 a1_6 a1_7 a1_8 t43008 t43009 t43010 t43011 _ ?side1 ?side2 A19.out).mono ?_); (case side1 => repeat (first | exact (Kd.C_below HR1_3.out HB.out) | (with_reducible refine Kd.C_alloc ?_ _) | (with_reducible refine Kd.C_drewN ?_ _) | (with_reducible refine Kd.C_drew ?_))); (case side2 => exact HC1_3.out); rintro e w25 ⟨rfl, hb⟩; refine ⟨_, rfl, ?_⟩; have n0_ := Aside0.mk (Kd.R_below (by (with_reducible repeat (first | apply Kd.R_alloc | apply Kd.R_drewN | apply Kd.R_drew)); exact HO43007.out) hb); have n1_ := Aside0.mk (blk_below (g := gb43001) (o := .cells #[.int .i64 a0_0, .int .i64 a0_1, .int .i64 a0_2, .slice A0_3 l0_3.length c0_3] 27 (0, 0)) (by (with_reducible repeat (first | refine blk_drewN ?_ _ | refine blk_drew ?_ | refine blk_alloc ?_ _)); exact BK43001.out) hb); have n2_ := Aside0.mk (blk_below (g := gb43002) (o := .cells #[.int .i64 a1_0, .int .i64 a1_1, .int .i64 a1_2, .slice A1_3 l1_3.length c1_3, .int .i64 a1_4, .int .i64 a1_5, .int .i64 a1_6, .int .i64 a1_7, .bool a1_8] 55 (0, 0)) (by (with_reducible repeat (first | refine blk_drewN ?_ _ | refine blk_drew ?_ | refine blk_alloc ?_ _)); exact BK43002.out) hb); have n3_ := Aside0.mk (below_step (by repeat (first | (with_reducible first | exact HB.out | apply below_alloc | apply pw_below_drewN | apply below_drew1 | refine below_set ?_ GE43001.out | refine below_set ?_ GE43002.out) | exact HB.out)) hb); clear HO43007; clear BK43001; clear BK43002; clear HB; have HO43007 := n0_; have BK43001 := n1_; have BK43002 := n2_; have HB := n3_; clear n0_ n1_ n2_ n3_; (try clear hb); (try clear hb2); (try clear hk); (try clear hi)) | ((with_reducible refine gate_dst (N := 6) rfl ?_); refine box_event ?hg (N := 6) ?hd (cs := #[.int .i64 0, .int .i64 0, .int .i64 0, .int .i64 0]) (t := 47) ?hr ?_; (case hd => rfl); (case hg => rfl); (case hr => first | (go_simp; done) | (go_simp; rfl)); intro gb43012 hg w26 hbox hb; have n0_ := Aside0.mk (Kd.R_below (by (with_reducible repeat (first | apply Kd.R_alloc | apply Kd.R_drewN | apply Kd.R_drew)); exact HO43007.out) hb); have n1_ := Aside0.mk (blk_below (g := gb43001) (o := .cells #[.int .i64 a0_0, .int .i64 a0_1, .int .i64 a0_2, .slice A0_3 l0_3.length c0_3] 27 (0, 0)) (by (with_reducible repeat (first | refine blk_drewN ?_ _ | refine blk_drew ?_ | refine blk_alloc ?_ _)); exact BK43001.out) hb); have n2_ := Aside0.mk (blk_below (g := gb43002) (o := .cells #[.int .i64 a1_0, .int .i64 a1_1, .int .i64 a1_2, .slice A1_3 l1_3.length c1_3, .int .i64 a1_4, .int .i64 a1_5, .int .i64 a1_6, .int .i64 a1_7, .bool a1_8] 55 (0, 0)) (by (with_reducible repeat (first | refine blk_drewN ?_ _ | refine blk_drew ?_ | refine blk_alloc ?_ _)); exact BK43002.out) hb); have n3_ := Aside0.mk (below_step (by repeat (first | (with_reducible first | exact HB.out | apply below_alloc | apply pw_below_drewN | apply below_drew1 | refine below_set ?_ GE43001.out | refine below_set ?_ GE43002.out) | exact HB.out)) hb); have n4_ := Aside0.mk (hbox); have n5_ := Aside0.mk ((by rw [hg]; exact (below_size (by repeat (first | (with_reducible first | exact HB.out | apply below_alloc | apply pw_below_drewN | apply below_drew1 | refine below_set ?_ GE43001.out | refine below_set ?_ GE43002.out) | exact HB.out))) : w.heap.size ≤ gb43012)); have n6_ := Aside0.mk ((by rw [hg]; exact (below_size (by repeat (first | (with_reducible first | exact HB.out | apply below_alloc | apply pw_below_drewN | apply below_drew1 | refine below_set ?_ GE43001.out | refine below_set ?_ GE43002.out) | exact HB.out))) : w.heap.size ≤ gb43012)); have n7_ := Aside0.mk ((by rw [hg]; exact Nat.ne_of_lt (blk_lt (g := gb43001) (o := .cells #[.int .i64 a0_0, .int .i64 a0_1, .int .i64 a0_2, .slice A0_3 l0_3.length c0_3] 27 (0, 0)) (by (with_reducible repeat (first | refine blk_drewN ?_ _ | refine blk_drew ?_ | refine blk_alloc ?_ _)); exact BK43001.out)) : gb43001 ≠ gb43012)); have n8_ := Aside0.mk ((by rw [hg]; exact Nat.ne_of_gt (blk_lt (g := gb43001) (o := .cells #[.int .i64 a0_0, .int .i64 a0_1, .int .i64 a0_2, .slice A0_3 l0_3.length c0_3] 27 (0, 0)) (by (with_reducible repeat (first | refine blk_drewN ?_ _ | refine blk_drew ?_ | refine blk_alloc ?_ _)); exact BK43001.out)) : gb43012 ≠ gb43001)); have n9_ := Aside0.mk ((by rw [hg]; exact Nat.ne_of_lt (blk_lt (g := gb43002) (o := .cells #[.int .i64 a1_0, .int .i64 a1_1, .int .i64 a1_2, .slice A1_3 l1_3.length c1_3, .int .i64 a1_4, .int .i64 a1_5, .int .i64 a1_6, .int .i64 a1_7, .bool a1_8] 55 (0, 0)) (by (with_reducible repeat (first | refine blk_drewN ?_ _ | refine blk_drew ?_ | refine blk_alloc ?_ _)); exact BK43002.out)) : gb43002 ≠ gb43012)); have n10_ := Aside0.mk ((by rw [hg]; exact Nat.ne_of_gt (blk_lt (g := gb43002) (o := .cells #[.int .i64 a1_0, .int .i64 a1_1, .int .i64 a1_2, .slice A1_3 l1_3.length c1_3, .int .i64 a1_4, .int .i64 a1_5, .int .i64 a1_6, .int .i64 a1_7, .bool a1_8] 55 (0, 0)) (by (with_reducible repeat (first | refine blk_drewN ?_ _ | refine blk_drew ?_ | refine blk_alloc ?_ _)); exact BK43002.out)) : gb43012 ≠ gb43002)); clear HO43007; clear BK43001; clear BK43002; clear HB; have HO43007 := n0_; have BK43001 := n1_; have BK43002 := n2_; have HB := n3_; have BK43012 := n4_; have GW43012 := n5_; have GE43012 := n6_; have NB43001_43012 := n7_; have NB43012_43001 := n8_; have NB43002_43012 := n9_; have NB43012_43002 := n10_; clear n0_ n1_ n2_ n3_ n4_ n5_ n6_ n7_ n8_ n9_ n10_; clear hb hbox hg; have hnb27 := NB43012_43001.out; have hnc27 := NB43001_43012.out; have hnb28 := NB43012_43002.out; have hnc28 := NB43002_43012.out; have hcz29_0 : w26.cell? ⟨gb43012, 0, none⟩ = some (.int .i64 0) := (blk_cell BK43012.out 0).trans rfl; have hcz29_1 : w26.cell? ⟨gb43012, 1, none⟩ = some (.int .i64 0) := (blk_cell BK43012.out 1).trans rfl; have hcz29_2 : w26.cell? ⟨gb43012, 2, none⟩ = some (.int .i64 0) := (blk_cell BK43012.out 2).trans rfl; have hcz29_3 : w26.cell? ⟨gb43012, 3, none⟩ = some (.int .i64 0) := (blk_cell BK43012.out 3).trans rfl; have hfz29_0 := blk_frozen BK43012.out 0; have hfz29_1 := blk_frozen BK43012.out 1; have hfz29_2 := blk_frozen BK43012.out 2; have hfz29_3 := blk_frozen BK43012.out 3; have hcz30_0 : w26.cell? ⟨gb43001, 0, none⟩ = some (.int .i64 a0_0) := (blk_cell BK43001.out 0).trans rfl; have hcz30_1 : w26.cell? ⟨gb43001, 1, none⟩ = some (.int .i64 a0_1) := (blk_cell BK43001.out 1).trans rfl; have hcz30_2 : w26.cell? ⟨gb43001, 2, none⟩ = some (.int .i64 a0_2) := (blk_cell BK43001.out 2).trans rfl; have hcz30_3 : w26.cell? ⟨gb43001, 3, none⟩ = some (.slice A0_3 l0_3.length c0_3) := (blk_cell BK43001.out 3).trans rfl; have hfz30_0 := blk_frozen BK43001.out 0; have hfz30_1 := blk_frozen BK43001.out 1; have hfz30_2 := blk_frozen BK43001.out 2; have hfz30_3 := blk_frozen BK43001.out 3) | ((with_reducible refine gate_callee (f := 92) rfl ?_); refine goesL_ (some 23) rfl rfl Try.func92 (by kernel_rfl) rfl #[.agg #[.int .i64 a0_0, .int .i64 a0_1, .int .i64 a0_2, .slice A0_3 l0_3.length c0_3]] rfl (by (try simp only [List.map_toArray, List.map_cons, List.map_nil]); first | done | rfl | (simp only [List.length_drop, List.length_take]; rfl)) ?_; (with_reducible refine (impl_tileBoxes.calls kj2 a0_0 a0_1 a0_2 _ _ l0_3 t43013 _ ?side1 ?side2 A20.out).mono ?_); (case side1 => exact Kd.C_below HR0_3.out (by repeat (first | (with_reducible first | exact HB.out | apply below_alloc | apply pw_below_drewN | apply below_drew1 | refine below_set ?_ GE43001.out | refine below_set ?_ GE43002.out | refine below_set ?_ GE43012.out) | exact HB.out))); (case side2 => exact HC0_3.out); rintro e w31 ⟨v43014, rfl, ho0, hb⟩; refine ⟨_, rfl, ?_⟩; have n0_ := Aside0.mk (Kd.R_below (by (with_reducible repeat (first | apply Kd.R_alloc | apply Kd.R_drewN | apply Kd.R_drew)); exact (Kd.R_mono (Kd.R_far (p := ⟨gb43012, 3, none⟩) (Kd.R_far (p := ⟨gb43012, 2, none⟩) (Kd.R_far (p := ⟨gb43012, 1, none⟩) (Kd.R_far (p := ⟨gb43012, 0, none⟩) (Kd.R_types HO43007.out BK43012.out (by decide)) (fun _ hk => hk.2) (.int .i64 t43008)) (fun _ hk => hk.2) (.int .i64 t43009)) (fun _ hk => hk.2) (.int .i64 t43010)) (fun _ hk => hk.2) (.int .i64 t43011)) (fun _ h_ => h_.1))) hb); have n1_ := Aside0.mk (Kd.R_lower (Kd.R_newB ho0 (g := gb43012) (o := .cells #[.int .i64 t43008, .int .i64 t43009, .int .i64 t43010, .int .i64 t43011] 47 (0, 0)) (by (with_reducible repeat (first | refine blk_drewN ?_ _ | refine blk_drew ?_ | refine blk_alloc ?_ _)); refine blk_put (cs := #[.int .i64 t43008, .int .i64 t43009, .int .i64 t43010, .int .i64 0]) ?_ 3 _ rfl; (with_reducible repeat (first | refine blk_drewN ?_ _ | refine blk_drew ?_ | refine blk_alloc ?_ _)); refine blk_put (cs := #[.int .i64 t43008, .int .i64 t43009, .int .i64 0, .int .i64 0]) ?_ 2 _ rfl; (with_reducible repeat (first | refine blk_drewN ?_ _ | refine blk_drew ?_ | refine blk_alloc ?_ _)); refine blk_put (cs := #[.int .i64 t43008, .int .i64 0, .int .i64 0, .int .i64 0]) ?_ 1 _ rfl; (with_reducible repeat (first | refine blk_drewN ?_ _ | refine blk_drew ?_ | refine blk_alloc ?_ _)); refine blk_put (cs := #[.int .i64 0, .int .i64 0, .int .i64 0, .int .i64 0]) ?_ 0 _ rfl; (with_reducible repeat (first | refine blk_drewN ?_ _ | refine blk_drew ?_ | refine blk_alloc ?_ _)); exact BK43012.out)) (below_size (by repeat (first | (with_reducible first | exact HB.out | apply below_alloc | apply pw_below_drewN | apply below_drew1 | refine below_set ?_ GE43001.out | refine below_set ?_ GE43002.out | refine below_set ?_ GE43012.out) | exact HB.out)))); have n2_ := Aside0.mk (blk_below (g := gb43001) (o := .cells #[.int .i64 a0_0, .int .i64 a0_1, .int .i64 a0_2, .slice A0_3 l0_3.length c0_3] 27 (0, 0)) (by (with_reducible repeat (first | refine blk_drewN ?_ _ | refine blk_drew ?_ | refine blk_alloc ?_ _)); refine blk_far ?_ NB43001_43012.out _; (with_reducible repeat (first | refine blk_drewN ?_ _ | refine blk_drew ?_ | refine blk_alloc ?_ _)); refine blk_far ?_ NB43001_43012.out _; (with_reducible repeat (first | refine blk_drewN ?_ _ | refine blk_drew ?_ | refine blk_alloc ?_ _)); refine blk_far ?_ NB43001_43012.out _; (with_reducible repeat (first | refine blk_drewN ?_ _ | refine blk_drew ?_ | refine blk_alloc ?_ _)); refine blk_far ?_ NB43001_43012.out _; (with_reducible repeat (first | refine blk_drewN ?_ _ | refine blk_drew ?_ | refine blk_alloc ?_ _)); exact BK43001.out) hb); have n3_ := Aside0.mk (blk_below (g := gb43002) (o := .cells #[.int .i64 a1_0, .int .i64 a1_1, .int .i64 a1_2, .slice A1_3 l1_3.length c1_3, .int .i64 a1_4, .int .i64 a1_5, .int .i64 a1_6, .int .i64 a1_7, .bool a1_8] 55 (0, 0)) (by (with_reducible repeat (first | refine blk_drewN ?_ _ | refine blk_drew ?_ | refine blk_alloc ?_ _)); refine blk_far ?_ NB43002_43012.out _; (with_reducible repeat (first | refine blk_drewN ?_ _ | refine blk_drew ?_ | refine blk_alloc ?_ _)); refine blk_far ?_ NB43002_43012.out _; (with_reducible repeat (first | refine blk_drewN ?_ _ | refine blk_drew ?_ | refine blk_alloc ?_ _)); refine blk_far ?_ NB43002_43012.out _; (with_reducible repeat (first | refine blk_drewN ?_ _ | refine blk_drew ?_ | refine blk_alloc ?_ _)); refine blk_far ?_ NB43002_43012.out _; (with_reducible repeat (first | refine blk_drewN ?_ _ | refine blk_drew ?_ | refine blk_alloc ?_ _)); exact BK43002.out) hb); have n4_ := Aside0.mk (blk_below (g := gb43012) (o := .cells #[.int .i64 t43008, .int .i64 t43009, .int .i64 t43010, .int .i64 t43011] 47 (0, 0)) (by (with_reducible repeat (first | refine blk_drewN ?_ _ | refine blk_drew ?_ | refine blk_alloc ?_ _)); refine blk_put (cs := #[.int .i64 t43008, .int .i64 t43009, .int .i64 t43010, .int .i64 0]) ?_ 3 _ rfl; (with_reducible repeat (first | refine blk_drewN ?_ _ | refine blk_drew ?_ | refine blk_alloc ?_ _)); refine blk_put (cs := #[.int .i64 t43008, .int .i64 t43009, .int .i64 0, .int .i64 0]) ?_ 2 _ rfl; (with_reducible repeat (first | refine blk_drewN ?_ _ | refine blk_drew ?_ | refine blk_alloc ?_ _)); refine blk_put (cs := #[.int .i64 t43008, .int .i64 0, .int .i64 0, .int .i64 0]) ?_ 1 _ rfl; (with_reducible repeat (first | refine blk_drewN ?_ _ | refine blk_drew ?_ | refine blk_alloc ?_ _)); refine blk_put (cs := #[.int .i64 0, .int .i64 0, .int .i64 0, .int .i64 0]) ?_ 0 _ rfl; (with_reducible repeat (first | refine blk_drewN ?_ _ | refine blk_drew ?_ | refine blk_alloc ?_ _)); exact BK43012.out) hb); have n5_ := Aside0.mk (below_step (by repeat (first | (with_reducible first | exact HB.out | apply below_alloc | apply pw_below_drewN | apply below_drew1 | refine below_set ?_ GE43001.out | refine below_set ?_ GE43002.out | refine below_set ?_ GE43012.out) | exact HB.out)) hb); clear HO43007; clear BK43001; clear BK43002; clear BK43012; clear HB; have HO43007 := n0_; have HO43015 := n1_; have BK43001 := n2_; have BK43002 := n3_; have BK43012 := n4_; have HB := n5_; clear n0_ n1_ n2_ n3_ n4_ n5_; (try clear hb); (try clear hb2); (try clear hk); (try clear hi); (try clear ho0); obtain ⟨Ao32, co32, eo32⟩ := Kd.R_slice HO43015.out; subst eo32))
        go_loopg [5, 25] kj2 (fun kq v5 v25 w' => ∃ (x5_2 : List Int) (x25_2 : Int), v25 = .int .i64 x25_2 ∧ Aside0 (impl_DirtyTiles.l0 kq x5_2 t43013 (t43013.length : Int) x25_2 t43008 t43009 t43010 t43011 = some r) ∧ Aside0 (kq ≤ kj2) ∧ Aside0 (Kd.R (Kd.int .i64) 3 w' w.heap.size (fun _ => True) v5 x5_2) ∧ Aside0 (Kd.R k47 47 w' w.heap.size (fun k_ => k_ ≠ gb43012) (.slice Ao32 t43013.length co32) t43013) ∧ Aside0 (w'.heap[gb43001]? = some (.cells #[.int .i64 a0_0, .int .i64 a0_1, .int .i64 a0_2, (.slice A0_3 l0_3.length c0_3)] 27 (0, 0))) ∧ Aside0 (w'.heap[gb43002]? = some (.cells #[.int .i64 a1_0, .int .i64 a1_1, .int .i64 a1_2, (.slice A1_3 l1_3.length c1_3), .int .i64 a1_4, .int .i64 a1_5, .int .i64 a1_6, .int .i64 a1_7, .bool a1_8] 55 (0, 0))) ∧ Aside0 (w'.heap[gb43012]? = some (.cells #[.int .i64 t43008, .int .i64 t43009, .int .i64 t43010, .int .i64 t43011] 47 (0, 0))) ∧ Aside0 (Below w.heap.size w w'))
        case atStart => exact ⟨(y43005), (0), (by first | rfl | (simp; done) | (simp [*]; done)), H', ⟨Nat.le_refl _⟩, ⟨by (with_reducible repeat (first | apply Kd.R_alloc | apply Kd.R_drewN | apply Kd.R_drew)); exact HO43007.out⟩, ⟨by (with_reducible repeat (first | apply Kd.R_alloc | apply Kd.R_drewN | apply Kd.R_drew)); exact Kd.R_mono HO43015.out (fun _ hk => hk.2)⟩, ⟨by (with_reducible repeat (first | refine blk_drewN ?_ _ | refine blk_drew ?_ | refine blk_alloc ?_ _)); exact BK43001.out⟩, ⟨by (with_reducible repeat (first | refine blk_drewN ?_ _ | refine blk_drew ?_ | refine blk_alloc ?_ _)); exact BK43002.out⟩, ⟨by (with_reducible repeat (first | refine blk_drewN ?_ _ | refine blk_drew ?_ | refine blk_alloc ?_ _)); exact BK43012.out⟩, ⟨by repeat (first | (with_reducible first | exact HB.out | apply below_alloc | apply pw_below_drewN | apply below_drew1 | refine below_set ?_ GE43001.out | refine below_set ?_ GE43002.out | refine below_set ?_ GE43012.out) | exact HB.out)⟩⟩
        case round =>
          clear H'
          try clear c1
          try clear c2
          try clear p2
          try clear c4
          try clear c7
          try clear c8
          try clear c9
          try clear c10
          try clear c15
          try clear c18
          try clear c23
          try clear c27
          try clear c28
          try clear hcz10_0
          try clear hcz10_1
          try clear hcz10_2
          try clear hcz10_3
          try clear hcz12_0
          try clear hcz12_1
          try clear hcz12_2
          try clear hcz12_3
          try clear hcz12_4
          try clear hcz12_5
          try clear hcz12_6
          try clear hcz12_7
          try clear hcz12_8
          try clear hcz13_0
          try clear hcz13_1
          try clear hcz13_2
          try clear hcz13_3
          try clear hcz16_0
          try clear hcz16_1
          try clear hcz16_2
          try clear hcz16_3
          try clear hcz24_0
          try clear hcz24_1
          try clear hcz24_2
          try clear hcz24_3
          try clear hcz24_4
          try clear hcz24_5
          try clear hcz24_6
          try clear hcz24_7
          try clear hcz24_8
          try clear hcz29_0
          try clear hcz29_1
          try clear hcz29_2
          try clear hcz29_3
          try clear hcz30_0
          try clear hcz30_1
          try clear hcz30_2
          try clear hcz30_3
          try clear hfz10_0
          try clear hfz10_1
          try clear hfz10_2
          try clear hfz10_3
          try clear hfz12_0
          try clear hfz12_1
          try clear hfz12_2
          try clear hfz12_3
          try clear hfz12_4
          try clear hfz12_5
          try clear hfz12_6
          try clear hfz12_7
          try clear hfz12_8
          try clear hfz13_0
          try clear hfz13_1
          try clear hfz13_2
          try clear hfz13_3
          try clear hfz16_0
          try clear hfz16_1
          try clear hfz16_2
          try clear hfz16_3
          try clear hfz24_0
          try clear hfz24_1
          try clear hfz24_2
          try clear hfz24_3
          try clear hfz24_4
          try clear hfz24_5
          try clear hfz24_6
          try clear hfz24_7
          try clear hfz24_8
          try clear hfz29_0
          try clear hfz29_1
          try clear hfz29_2
          try clear hfz29_3
          try clear hfz30_0
          try clear hfz30_1
          try clear hfz30_2
          try clear hfz30_3
          try clear p2
          obtain ⟨x5_2, x25_2, rfl, HA, HK2, HO_5, HO_23, BK43001, BK43002, BK43012, HB⟩ := hrel
          cases gk with
          | zero => exact absurd HA.out (by simp [impl_DirtyTiles.l0])
          | succ k2 =>
            have H := HA.out
            clear HA
            simp only [impl_DirtyTiles.l0] at H
            by_cases c33 : x25_2 < (t43013.length : Int)
            · rw [if_pos c33] at H
              have c33b0 : decide (x25_2 < (t43013.length : Int)) = true := decide_eq_true c33
              clear c33
              by_cases c34 : 0 ≤ x25_2
              · rw [if_pos c34] at H
                have c34b0 : decide (0 ≤ x25_2) = true := decide_eq_true c34
                clear c34
                by_cases c35 : x25_2 < (t43013.length : Int)
                · rw [if_pos c35] at H
                  have c35b0 : decide (x25_2 < (t43013.length : Int)) = true := decide_eq_true c35
                  clear c35
                  have HC36 := Aside0.mk H
                  clear H
                  have p43016 : 0 ≤ (x25_2 : Int) := of_decide_eq_true (by first | (with_reducible assumption) | assumption)
                  have q43016 : x25_2 < (t43013.length : Int) := of_decide_eq_true (by first | (with_reducible assumption) | assumption)
                  obtain ⟨ad43016, e43016, hx43016_0, hx43016_1, hx43016_2, hx43016_3⟩ := at_T47 (Kd.R_reads' HO_23.out).2.2 x25_2 p43016 q43016
                  cases e43016
                  replace p43016 := eq_true p43016
                  replace q43016 := eq_true q43016
                  go_upto_region 8 with (first | ((with_reducible refine gate_dst (N := 8) rfl ?_); refine box_event ?hg (N := 8) ?hd (cs := #[.int .i64 0, .int .i64 0, .int .i64 0, .int .i64 0]) (t := 47) ?hr ?_; (case hd => rfl); (case hg => rfl); (case hr => first | (go_simp; done) | (go_simp; rfl)); intro gb43017 hg w37 hbox hb; have n0_ := Aside0.mk (Kd.R_below (by (with_reducible repeat (first | apply Kd.R_alloc | apply Kd.R_drewN | apply Kd.R_drew)); exact HO_5.out) hb); have n1_ := Aside0.mk (Kd.R_below (Kd.R_elderB (by (with_reducible repeat (first | apply Kd.R_alloc | apply Kd.R_drewN | apply Kd.R_drew)); exact HO_23.out) gb43017 (Nat.le_of_eq hg.symm)) hb); have n2_ := Aside0.mk (blk_below (g := gb43001) (o := .cells #[.int .i64 a0_0, .int .i64 a0_1, .int .i64 a0_2, .slice A0_3 l0_3.length c0_3] 27 (0, 0)) (by (with_reducible repeat (first | refine blk_drewN ?_ _ | refine blk_drew ?_ | refine blk_alloc ?_ _)); exact BK43001.out) hb); have n3_ := Aside0.mk (blk_below (g := gb43002) (o := .cells #[.int .i64 a1_0, .int .i64 a1_1, .int .i64 a1_2, .slice A1_3 l1_3.length c1_3, .int .i64 a1_4, .int .i64 a1_5, .int .i64 a1_6, .int .i64 a1_7, .bool a1_8] 55 (0, 0)) (by (with_reducible repeat (first | refine blk_drewN ?_ _ | refine blk_drew ?_ | refine blk_alloc ?_ _)); exact BK43002.out) hb); have n4_ := Aside0.mk (blk_below (g := gb43012) (o := .cells #[.int .i64 t43008, .int .i64 t43009, .int .i64 t43010, .int .i64 t43011] 47 (0, 0)) (by (with_reducible repeat (first | refine blk_drewN ?_ _ | refine blk_drew ?_ | refine blk_alloc ?_ _)); exact BK43012.out) hb); have n5_ := Aside0.mk (below_step (by repeat (first | (with_reducible first | exact HB.out | apply below_alloc | apply pw_below_drewN | apply below_drew1 | refine below_set ?_ GE43001.out | refine below_set ?_ GE43002.out | refine below_set ?_ GE43012.out) | exact HB.out)) hb); have n6_ := Aside0.mk (hbox); have n7_ := Aside0.mk ((by rw [hg]; exact (below_size (by repeat (first | (with_reducible first | exact HB.out | apply below_alloc | apply pw_below_drewN | apply below_drew1 | refine below_set ?_ GE43001.out | refine below_set ?_ GE43002.out | refine below_set ?_ GE43012.out) | exact HB.out))) : w.heap.size ≤ gb43017)); have n8_ := Aside0.mk ((by rw [hg]; exact (below_size (by repeat (first | (with_reducible first | exact HB.out | apply below_alloc | apply pw_below_drewN | apply below_drew1 | refine below_set ?_ GE43001.out | refine below_set ?_ GE43002.out | refine below_set ?_ GE43012.out) | exact HB.out))) : w.heap.size ≤ gb43017)); have n9_ := Aside0.mk ((by rw [hg]; exact Nat.ne_of_lt (blk_lt (g := gb43001) (o := .cells #[.int .i64 a0_0, .int .i64 a0_1, .int .i64 a0_2, .slice A0_3 l0_3.length c0_3] 27 (0, 0)) (by (with_reducible repeat (first | refine blk_drewN ?_ _ | refine blk_drew ?_ | refine blk_alloc ?_ _)); exact BK43001.out)) : gb43001 ≠ gb43017)); have n10_ := Aside0.mk ((by rw [hg]; exact Nat.ne_of_gt (blk_lt (g := gb43001) (o := .cells #[.int .i64 a0_0, .int .i64 a0_1, .int .i64 a0_2, .slice A0_3 l0_3.length c0_3] 27 (0, 0)) (by (with_reducible repeat (first | refine blk_drewN ?_ _ | refine blk_drew ?_ | refine blk_alloc ?_ _)); exact BK43001.out)) : gb43017 ≠ gb43001)); have n11_ := Aside0.mk ((by rw [hg]; exact Nat.ne_of_lt (blk_lt (g := gb43002) (o := .cells #[.int .i64 a1_0, .int .i64 a1_1, .int .i64 a1_2, .slice A1_3 l1_3.length c1_3, .int .i64 a1_4, .int .i64 a1_5, .int .i64 a1_6, .int .i64 a1_7, .bool a1_8] 55 (0, 0)) (by (with_reducible repeat (first | refine blk_drewN ?_ _ | refine blk_drew ?_ | refine blk_alloc ?_ _)); exact BK43002.out)) : gb43002 ≠ gb43017)); have n12_ := Aside0.mk ((by rw [hg]; exact Nat.ne_of_gt (blk_lt (g := gb43002) (o := .cells #[.int .i64 a1_0, .int .i64 a1_1, .int .i64 a1_2, .slice A1_3 l1_3.length c1_3, .int .i64 a1_4, .int .i64 a1_5, .int .i64 a1_6, .int .i64 a1_7, .bool a1_8] 55 (0, 0)) (by (with_reducible repeat (first | refine blk_drewN ?_ _ | refine blk_drew ?_ | refine blk_alloc ?_ _)); exact BK43002.out)) : gb43017 ≠ gb43002)); have n13_ := Aside0.mk ((by rw [hg]; exact Nat.ne_of_lt (blk_lt (g := gb43012) (o := .cells #[.int .i64 t43008, .int .i64 t43009, .int .i64 t43010, .int .i64 t43011] 47 (0, 0)) (by (with_reducible repeat (first | refine blk_drewN ?_ _ | refine blk_drew ?_ | refine blk_alloc ?_ _)); exact BK43012.out)) : gb43012 ≠ gb43017)); have n14_ := Aside0.mk ((by rw [hg]; exact Nat.ne_of_gt (blk_lt (g := gb43012) (o := .cells #[.int .i64 t43008, .int .i64 t43009, .int .i64 t43010, .int .i64 t43011] 47 (0, 0)) (by (with_reducible repeat (first | refine blk_drewN ?_ _ | refine blk_drew ?_ | refine blk_alloc ?_ _)); exact BK43012.out)) : gb43017 ≠ gb43012)); clear HO_5; clear HO_23; clear BK43001; clear BK43002; clear BK43012; clear HB; have HO_5 := n0_; have HO_23 := n1_; have BK43001 := n2_; have BK43002 := n3_; have BK43012 := n4_; have HB := n5_; have BK43017 := n6_; have GW43017 := n7_; have GE43017 := n8_; have NB43001_43017 := n9_; have NB43017_43001 := n10_; have NB43002_43017 := n11_; have NB43017_43002 := n12_; have NB43012_43017 := n13_; have NB43017_43012 := n14_; clear n0_ n1_ n2_ n3_ n4_ n5_ n6_ n7_ n8_ n9_ n10_ n11_ n12_ n13_ n14_; clear hb hbox hg; have hnb38 := NB43017_43001.out; have hnc38 := NB43001_43017.out; have hnb39 := NB43017_43002.out; have hnc39 := NB43002_43017.out; have hnb40 := NB43017_43012.out; have hnc40 := NB43012_43017.out; have hcz41_0 : w37.cell? ⟨gb43017, 0, none⟩ = some (.int .i64 0) := (blk_cell BK43017.out 0).trans rfl; have hcz41_1 : w37.cell? ⟨gb43017, 1, none⟩ = some (.int .i64 0) := (blk_cell BK43017.out 1).trans rfl; have hcz41_2 : w37.cell? ⟨gb43017, 2, none⟩ = some (.int .i64 0) := (blk_cell BK43017.out 2).trans rfl; have hcz41_3 : w37.cell? ⟨gb43017, 3, none⟩ = some (.int .i64 0) := (blk_cell BK43017.out 3).trans rfl; have hfz41_0 := blk_frozen BK43017.out 0; have hfz41_1 := blk_frozen BK43017.out 1; have hfz41_2 := blk_frozen BK43017.out 2; have hfz41_3 := blk_frozen BK43017.out 3))
                  (try simp only [Act.put, List.setIfInBounds_toArray, List.set_cons_zero, List.set_cons_succ])
                  go_cut [67] (fun v67 wc => ∃ (kq : Nat) (x67_35 : Bool), v67 = .bool x67_35 ∧ Aside0 (impl_DirtyTiles.j2 kq x5_2 x25_2 t43013 (t43013.length : Int) x25_2 x67_35 t43008 t43009 t43010 t43011 = some r) ∧ Aside0 (kq ≤ k2) ∧ Aside0 (Kd.R (Kd.int .i64) 3 wc w.heap.size (fun _ => True) u5 x5_2) ∧ Aside0 (Kd.R k47 47 wc w.heap.size (fun k_ => k_ ≠ gb43012 ∧ k_ ≠ gb43017) (.slice (some ad43016) t43013.length co32) t43013) ∧ Aside0 (wc.heap[gb43001]? = some (.cells #[.int .i64 a0_0, .int .i64 a0_1, .int .i64 a0_2, (.slice A0_3 l0_3.length c0_3)] 27 (0, 0))) ∧ Aside0 (wc.heap[gb43002]? = some (.cells #[.int .i64 a1_0, .int .i64 a1_1, .int .i64 a1_2, (.slice A1_3 l1_3.length c1_3), .int .i64 a1_4, .int .i64 a1_5, .int .i64 a1_6, .int .i64 a1_7, .bool a1_8] 55 (0, 0))) ∧ Aside0 (wc.heap[gb43012]? = some (.cells #[.int .i64 t43008, .int .i64 t43009, .int .i64 t43010, .int .i64 t43011] 47 (0, 0))) ∧ Aside0 (wc.heap[gb43017]? = some (.cells #[.int .i64 ((rd_T47 t43013 x25_2).f0), .int .i64 ((rd_T47 t43013 x25_2).f1), .int .i64 ((rd_T47 t43013 x25_2).f2), .int .i64 ((rd_T47 t43013 x25_2).f3)] 47 (0, 0))) ∧ Aside0 (Below w.heap.size w wc))
                  case first =>
                    have H := HC36.out
                    clear HC36
                    by_cases c42 : t43008 < (wrap64 (((rd_T47 t43013 x25_2).f0) + ((rd_T47 t43013 x25_2).f2)))
                    · rw [if_pos c42] at H
                      have c42b0 : decide (t43008 < (wrap64 (((rd_T47 t43013 x25_2).f0) + ((rd_T47 t43013 x25_2).f2)))) = true := decide_eq_true c42
                      clear c42
                      (first | rw [c42b0] | (simp only [i64_w, i32_w]; rw [c42b0]) | skip)
                      by_cases c43 : ((rd_T47 t43013 x25_2).f0) < (wrap64 (t43008 + t43010))
                      · rw [if_pos c43] at H
                        have c43b0 : decide (((rd_T47 t43013 x25_2).f0) < (wrap64 (t43008 + t43010))) = true := decide_eq_true c43
                        clear c43
                        by_cases c44 : t43009 < (wrap64 (((rd_T47 t43013 x25_2).f1) + ((rd_T47 t43013 x25_2).f3)))
                        · rw [if_pos c44] at H
                          have c44b0 : decide (t43009 < (wrap64 (((rd_T47 t43013 x25_2).f1) + ((rd_T47 t43013 x25_2).f3)))) = true := decide_eq_true c44
                          clear c44
                          have H' := Aside0.mk H
                          clear H
                          have hnb45 := NB43012_43001.out
                          have hnc45 := NB43001_43012.out
                          have hnb46 := NB43012_43002.out
                          have hnc46 := NB43002_43012.out
                          have hnb47 := NB43012_43017.out
                          have hnc47 := NB43017_43012.out
                          have hcz48_0 : w37.cell? ⟨gb43012, 0, none⟩ = some (.int .i64 t43008) := (blk_cell BK43012.out 0).trans rfl
                          have hcz48_1 : w37.cell? ⟨gb43012, 1, none⟩ = some (.int .i64 t43009) := (blk_cell BK43012.out 1).trans rfl
                          have hcz48_2 : w37.cell? ⟨gb43012, 2, none⟩ = some (.int .i64 t43010) := (blk_cell BK43012.out 2).trans rfl
                          have hcz48_3 : w37.cell? ⟨gb43012, 3, none⟩ = some (.int .i64 t43011) := (blk_cell BK43012.out 3).trans rfl
                          have hfz48_0 := blk_frozen BK43012.out 0
                          have hfz48_1 := blk_frozen BK43012.out 1
                          have hfz48_2 := blk_frozen BK43012.out 2
                          have hfz48_3 := blk_frozen BK43012.out 3
                          have hnb49 := NB43017_43001.out
                          have hnc49 := NB43001_43017.out
                          have hnb50 := NB43017_43002.out
                          have hnc50 := NB43002_43017.out
                          have hcz51_0 : w37.cell? ⟨gb43017, 0, none⟩ = some (.int .i64 0) := (blk_cell BK43017.out 0).trans rfl
                          have hcz51_1 : w37.cell? ⟨gb43017, 1, none⟩ = some (.int .i64 0) := (blk_cell BK43017.out 1).trans rfl
                          have hcz51_2 : w37.cell? ⟨gb43017, 2, none⟩ = some (.int .i64 0) := (blk_cell BK43017.out 2).trans rfl
                          have hcz51_3 : w37.cell? ⟨gb43017, 3, none⟩ = some (.int .i64 0) := (blk_cell BK43017.out 3).trans rfl
                          have hfz51_0 := blk_frozen BK43017.out 0
                          have hfz51_1 := blk_frozen BK43017.out 1
                          have hfz51_2 := blk_frozen BK43017.out 2
                          have hfz51_3 := blk_frozen BK43017.out 3
                          go_wp2
                          go_meet
                          case rel => exact ⟨_, (decide (((rd_T47 t43013 x25_2).f1) < (wrap64 (t43009 + t43011)))), (by first | rfl | (simp; done) | (simp [*]; done)), H', ⟨by have := HJ2.out; have := HK2.out; first | omega | exact Nat.le_refl _⟩, ⟨by (with_reducible repeat (first | apply Kd.R_alloc | apply Kd.R_drewN | apply Kd.R_drew)); exact Kd.R_mono (Kd.R_far (p := ⟨gb43017, 3, none⟩) (Kd.R_far (p := ⟨gb43017, 2, none⟩) (Kd.R_far (p := ⟨gb43017, 1, none⟩) (Kd.R_far (p := ⟨gb43017, 0, none⟩) (Kd.R_types HO_5.out BK43017.out (by decide)) (fun _ hk => hk.2) (.int .i64 ((rd_T47 t43013 x25_2).f0))) (fun _ hk => hk.2) (.int .i64 ((rd_T47 t43013 x25_2).f1))) (fun _ hk => hk.2) (.int .i64 ((rd_T47 t43013 x25_2).f2))) (fun _ hk => hk.2) (.int .i64 ((rd_T47 t43013 x25_2).f3))) (fun _ hk => trivial)⟩, ⟨by (with_reducible repeat (first | apply Kd.R_alloc | apply Kd.R_drewN | apply Kd.R_drew)); exact Kd.R_mono (Kd.R_far (p := ⟨gb43017, 3, none⟩) (Kd.R_far (p := ⟨gb43017, 2, none⟩) (Kd.R_far (p := ⟨gb43017, 1, none⟩) (Kd.R_far (p := ⟨gb43017, 0, none⟩) (Kd.R_mono HO_23.out (fun k_ hk => (⟨hk, hk.2⟩ : _ ∧ k_ ≠ gb43017))) (fun _ hk => hk.2) (.int .i64 ((rd_T47 t43013 x25_2).f0))) (fun _ hk => hk.2) (.int .i64 ((rd_T47 t43013 x25_2).f1))) (fun _ hk => hk.2) (.int .i64 ((rd_T47 t43013 x25_2).f2))) (fun _ hk => hk.2) (.int .i64 ((rd_T47 t43013 x25_2).f3))) (fun _ hk => ⟨hk.1.1, hk.1.2⟩)⟩, ⟨by (with_reducible repeat (first | refine blk_drewN ?_ _ | refine blk_drew ?_ | refine blk_alloc ?_ _)); refine blk_far ?_ NB43001_43017.out _; (with_reducible repeat (first | refine blk_drewN ?_ _ | refine blk_drew ?_ | refine blk_alloc ?_ _)); refine blk_far ?_ NB43001_43017.out _; (with_reducible repeat (first | refine blk_drewN ?_ _ | refine blk_drew ?_ | refine blk_alloc ?_ _)); refine blk_far ?_ NB43001_43017.out _; (with_reducible repeat (first | refine blk_drewN ?_ _ | refine blk_drew ?_ | refine blk_alloc ?_ _)); refine blk_far ?_ NB43001_43017.out _; (with_reducible repeat (first | refine blk_drewN ?_ _ | refine blk_drew ?_ | refine blk_alloc ?_ _)); exact BK43001.out⟩, ⟨by (with_reducible repeat (first | refine blk_drewN ?_ _ | refine blk_drew ?_ | refine blk_alloc ?_ _)); refine blk_far ?_ NB43002_43017.out _; (with_reducible repeat (first | refine blk_drewN ?_ _ | refine blk_drew ?_ | refine blk_alloc ?_ _)); refine blk_far ?_ NB43002_43017.out _; (with_reducible repeat (first | refine blk_drewN ?_ _ | refine blk_drew ?_ | refine blk_alloc ?_ _)); refine blk_far ?_ NB43002_43017.out _; (with_reducible repeat (first | refine blk_drewN ?_ _ | refine blk_drew ?_ | refine blk_alloc ?_ _)); refine blk_far ?_ NB43002_43017.out _; (with_reducible repeat (first | refine blk_drewN ?_ _ | refine blk_drew ?_ | refine blk_alloc ?_ _)); exact BK43002.out⟩, ⟨by (with_reducible repeat (first | refine blk_drewN ?_ _ | refine blk_drew ?_ | refine blk_alloc ?_ _)); refine blk_far ?_ NB43012_43017.out _; (with_reducible repeat (first | refine blk_drewN ?_ _ | refine blk_drew ?_ | refine blk_alloc ?_ _)); refine blk_far ?_ NB43012_43017.out _; (with_reducible repeat (first | refine blk_drewN ?_ _ | refine blk_drew ?_ | refine blk_alloc ?_ _)); refine blk_far ?_ NB43012_43017.out _; (with_reducible repeat (first | refine blk_drewN ?_ _ | refine blk_drew ?_ | refine blk_alloc ?_ _)); refine blk_far ?_ NB43012_43017.out _; (with_reducible repeat (first | refine blk_drewN ?_ _ | refine blk_drew ?_ | refine blk_alloc ?_ _)); exact BK43012.out⟩, ⟨by (with_reducible repeat (first | refine blk_drewN ?_ _ | refine blk_drew ?_ | refine blk_alloc ?_ _)); refine blk_put (cs := #[.int .i64 ((rd_T47 t43013 x25_2).f0), .int .i64 ((rd_T47 t43013 x25_2).f1), .int .i64 ((rd_T47 t43013 x25_2).f2), .int .i64 0]) ?_ 3 _ rfl; (with_reducible repeat (first | refine blk_drewN ?_ _ | refine blk_drew ?_ | refine blk_alloc ?_ _)); refine blk_put (cs := #[.int .i64 ((rd_T47 t43013 x25_2).f0), .int .i64 ((rd_T47 t43013 x25_2).f1), .int .i64 0, .int .i64 0]) ?_ 2 _ rfl; (with_reducible repeat (first | refine blk_drewN ?_ _ | refine blk_drew ?_ | refine blk_alloc ?_ _)); refine blk_put (cs := #[.int .i64 ((rd_T47 t43013 x25_2).f0), .int .i64 0, .int .i64 0, .int .i64 0]) ?_ 1 _ rfl; (with_reducible repeat (first | refine blk_drewN ?_ _ | refine blk_drew ?_ | refine blk_alloc ?_ _)); refine blk_put (cs := #[.int .i64 0, .int .i64 0, .int .i64 0, .int .i64 0]) ?_ 0 _ rfl; (with_reducible repeat (first | refine blk_drewN ?_ _ | refine blk_drew ?_ | refine blk_alloc ?_ _)); exact BK43017.out⟩, ⟨by repeat (first | (with_reducible first | exact HB.out | apply below_alloc | apply pw_below_drewN | apply below_drew1 | refine below_set ?_ GE43001.out | refine below_set ?_ GE43002.out | refine below_set ?_ GE43012.out | refine below_set ?_ GE43017.out) | exact HB.out)⟩⟩
                        · rw [if_neg c44] at H
                          have c44b0 : decide (t43009 < (wrap64 (((rd_T47 t43013 x25_2).f1) + ((rd_T47 t43013 x25_2).f3)))) = false := decide_eq_false c44
                          clear c44
                          have H' := Aside0.mk H
                          clear H
                          have hnb52 := NB43012_43001.out
                          have hnc52 := NB43001_43012.out
                          have hnb53 := NB43012_43002.out
                          have hnc53 := NB43002_43012.out
                          have hnb54 := NB43012_43017.out
                          have hnc54 := NB43017_43012.out
                          have hcz55_0 : w37.cell? ⟨gb43012, 0, none⟩ = some (.int .i64 t43008) := (blk_cell BK43012.out 0).trans rfl
                          have hcz55_1 : w37.cell? ⟨gb43012, 1, none⟩ = some (.int .i64 t43009) := (blk_cell BK43012.out 1).trans rfl
                          have hcz55_2 : w37.cell? ⟨gb43012, 2, none⟩ = some (.int .i64 t43010) := (blk_cell BK43012.out 2).trans rfl
                          have hcz55_3 : w37.cell? ⟨gb43012, 3, none⟩ = some (.int .i64 t43011) := (blk_cell BK43012.out 3).trans rfl
                          have hfz55_0 := blk_frozen BK43012.out 0
                          have hfz55_1 := blk_frozen BK43012.out 1
                          have hfz55_2 := blk_frozen BK43012.out 2
                          have hfz55_3 := blk_frozen BK43012.out 3
                          have hnb56 := NB43017_43001.out
                          have hnc56 := NB43001_43017.out
                          have hnb57 := NB43017_43002.out
                          have hnc57 := NB43002_43017.out
                          have hcz58_0 : w37.cell? ⟨gb43017, 0, none⟩ = some (.int .i64 0) := (blk_cell BK43017.out 0).trans rfl
                          have hcz58_1 : w37.cell? ⟨gb43017, 1, none⟩ = some (.int .i64 0) := (blk_cell BK43017.out 1).trans rfl
                          have hcz58_2 : w37.cell? ⟨gb43017, 2, none⟩ = some (.int .i64 0) := (blk_cell BK43017.out 2).trans rfl
                          have hcz58_3 : w37.cell? ⟨gb43017, 3, none⟩ = some (.int .i64 0) := (blk_cell BK43017.out 3).trans rfl
                          have hfz58_0 := blk_frozen BK43017.out 0
                          have hfz58_1 := blk_frozen BK43017.out 1
                          have hfz58_2 := blk_frozen BK43017.out 2
                          have hfz58_3 := blk_frozen BK43017.out 3
                          go_wp2
                          go_meet
                          case rel => exact ⟨_, (false), (by first | rfl | (simp; done) | (simp [*]; done)), H', ⟨by have := HJ2.out; have := HK2.out; first | omega | exact Nat.le_refl _⟩, ⟨by (with_reducible repeat (first | apply Kd.R_alloc | apply Kd.R_drewN | apply Kd.R_drew)); exact Kd.R_mono (Kd.R_far (p := ⟨gb43017, 3, none⟩) (Kd.R_far (p := ⟨gb43017, 2, none⟩) (Kd.R_far (p := ⟨gb43017, 1, none⟩) (Kd.R_far (p := ⟨gb43017, 0, none⟩) (Kd.R_types HO_5.out BK43017.out (by decide)) (fun _ hk => hk.2) (.int .i64 ((rd_T47 t43013 x25_2).f0))) (fun _ hk => hk.2) (.int .i64 ((rd_T47 t43013 x25_2).f1))) (fun _ hk => hk.2) (.int .i64 ((rd_T47 t43013 x25_2).f2))) (fun _ hk => hk.2) (.int .i64 ((rd_T47 t43013 x25_2).f3))) (fun _ hk => trivial)⟩, ⟨by (with_reducible repeat (first | apply Kd.R_alloc | apply Kd.R_drewN | apply Kd.R_drew)); exact Kd.R_mono (Kd.R_far (p := ⟨gb43017, 3, none⟩) (Kd.R_far (p := ⟨gb43017, 2, none⟩) (Kd.R_far (p := ⟨gb43017, 1, none⟩) (Kd.R_far (p := ⟨gb43017, 0, none⟩) (Kd.R_mono HO_23.out (fun k_ hk => (⟨hk, hk.2⟩ : _ ∧ k_ ≠ gb43017))) (fun _ hk => hk.2) (.int .i64 ((rd_T47 t43013 x25_2).f0))) (fun _ hk => hk.2) (.int .i64 ((rd_T47 t43013 x25_2).f1))) (fun _ hk => hk.2) (.int .i64 ((rd_T47 t43013 x25_2).f2))) (fun _ hk => hk.2) (.int .i64 ((rd_T47 t43013 x25_2).f3))) (fun _ hk => ⟨hk.1.1, hk.1.2⟩)⟩, ⟨by (with_reducible repeat (first | refine blk_drewN ?_ _ | refine blk_drew ?_ | refine blk_alloc ?_ _)); refine blk_far ?_ NB43001_43017.out _; (with_reducible repeat (first | refine blk_drewN ?_ _ | refine blk_drew ?_ | refine blk_alloc ?_ _)); refine blk_far ?_ NB43001_43017.out _; (with_reducible repeat (first | refine blk_drewN ?_ _ | refine blk_drew ?_ | refine blk_alloc ?_ _)); refine blk_far ?_ NB43001_43017.out _; (with_reducible repeat (first | refine blk_drewN ?_ _ | refine blk_drew ?_ | refine blk_alloc ?_ _)); refine blk_far ?_ NB43001_43017.out _; (with_reducible repeat (first | refine blk_drewN ?_ _ | refine blk_drew ?_ | refine blk_alloc ?_ _)); exact BK43001.out⟩, ⟨by (with_reducible repeat (first | refine blk_drewN ?_ _ | refine blk_drew ?_ | refine blk_alloc ?_ _)); refine blk_far ?_ NB43002_43017.out _; (with_reducible repeat (first | refine blk_drewN ?_ _ | refine blk_drew ?_ | refine blk_alloc ?_ _)); refine blk_far ?_ NB43002_43017.out _; (with_reducible repeat (first | refine blk_drewN ?_ _ | refine blk_drew ?_ | refine blk_alloc ?_ _)); refine blk_far ?_ NB43002_43017.out _; (with_reducible repeat (first | refine blk_drewN ?_ _ | refine blk_drew ?_ | refine blk_alloc ?_ _)); refine blk_far ?_ NB43002_43017.out _; (with_reducible repeat (first | refine blk_drewN ?_ _ | refine blk_drew ?_ | refine blk_alloc ?_ _)); exact BK43002.out⟩, ⟨by (with_reducible repeat (first | refine blk_drewN ?_ _ | refine blk_drew ?_ | refine blk_alloc ?_ _)); refine blk_far ?_ NB43012_43017.out _; (with_reducible repeat (first | refine blk_drewN ?_ _ | refine blk_drew ?_ | refine blk_alloc ?_ _)); refine blk_far ?_ NB43012_43017.out _; (with_reducible repeat (first | refine blk_drewN ?_ _ | refine blk_drew ?_ | refine blk_alloc ?_ _)); refine blk_far ?_ NB43012_43017.out _; (with_reducible repeat (first | refine blk_drewN ?_ _ | refine blk_drew ?_ | refine blk_alloc ?_ _)); refine blk_far ?_ NB43012_43017.out _; (with_reducible repeat (first | refine blk_drewN ?_ _ | refine blk_drew ?_ | refine blk_alloc ?_ _)); exact BK43012.out⟩, ⟨by (with_reducible repeat (first | refine blk_drewN ?_ _ | refine blk_drew ?_ | refine blk_alloc ?_ _)); refine blk_put (cs := #[.int .i64 ((rd_T47 t43013 x25_2).f0), .int .i64 ((rd_T47 t43013 x25_2).f1), .int .i64 ((rd_T47 t43013 x25_2).f2), .int .i64 0]) ?_ 3 _ rfl; (with_reducible repeat (first | refine blk_drewN ?_ _ | refine blk_drew ?_ | refine blk_alloc ?_ _)); refine blk_put (cs := #[.int .i64 ((rd_T47 t43013 x25_2).f0), .int .i64 ((rd_T47 t43013 x25_2).f1), .int .i64 0, .int .i64 0]) ?_ 2 _ rfl; (with_reducible repeat (first | refine blk_drewN ?_ _ | refine blk_drew ?_ | refine blk_alloc ?_ _)); refine blk_put (cs := #[.int .i64 ((rd_T47 t43013 x25_2).f0), .int .i64 0, .int .i64 0, .int .i64 0]) ?_ 1 _ rfl; (with_reducible repeat (first | refine blk_drewN ?_ _ | refine blk_drew ?_ | refine blk_alloc ?_ _)); refine blk_put (cs := #[.int .i64 0, .int .i64 0, .int .i64 0, .int .i64 0]) ?_ 0 _ rfl; (with_reducible repeat (first | refine blk_drewN ?_ _ | refine blk_drew ?_ | refine blk_alloc ?_ _)); exact BK43017.out⟩, ⟨by repeat (first | (with_reducible first | exact HB.out | apply below_alloc | apply pw_below_drewN | apply below_drew1 | refine below_set ?_ GE43001.out | refine below_set ?_ GE43002.out | refine below_set ?_ GE43012.out | refine below_set ?_ GE43017.out) | exact HB.out)⟩⟩
                      · rw [if_neg c43] at H
                        have c43b0 : decide (((rd_T47 t43013 x25_2).f0) < (wrap64 (t43008 + t43010))) = false := decide_eq_false c43
                        clear c43
                        have H' := Aside0.mk H
                        clear H
                        have hnb59 := NB43012_43001.out
                        have hnc59 := NB43001_43012.out
                        have hnb60 := NB43012_43002.out
                        have hnc60 := NB43002_43012.out
                        have hnb61 := NB43012_43017.out
                        have hnc61 := NB43017_43012.out
                        have hcz62_0 : w37.cell? ⟨gb43012, 0, none⟩ = some (.int .i64 t43008) := (blk_cell BK43012.out 0).trans rfl
                        have hcz62_1 : w37.cell? ⟨gb43012, 1, none⟩ = some (.int .i64 t43009) := (blk_cell BK43012.out 1).trans rfl
                        have hcz62_2 : w37.cell? ⟨gb43012, 2, none⟩ = some (.int .i64 t43010) := (blk_cell BK43012.out 2).trans rfl
                        have hcz62_3 : w37.cell? ⟨gb43012, 3, none⟩ = some (.int .i64 t43011) := (blk_cell BK43012.out 3).trans rfl
                        have hfz62_0 := blk_frozen BK43012.out 0
                        have hfz62_1 := blk_frozen BK43012.out 1
                        have hfz62_2 := blk_frozen BK43012.out 2
                        have hfz62_3 := blk_frozen BK43012.out 3
                        have hnb63 := NB43017_43001.out
                        have hnc63 := NB43001_43017.out
                        have hnb64 := NB43017_43002.out
                        have hnc64 := NB43002_43017.out
                        have hcz65_0 : w37.cell? ⟨gb43017, 0, none⟩ = some (.int .i64 0) := (blk_cell BK43017.out 0).trans rfl
                        have hcz65_1 : w37.cell? ⟨gb43017, 1, none⟩ = some (.int .i64 0) := (blk_cell BK43017.out 1).trans rfl
                        have hcz65_2 : w37.cell? ⟨gb43017, 2, none⟩ = some (.int .i64 0) := (blk_cell BK43017.out 2).trans rfl
                        have hcz65_3 : w37.cell? ⟨gb43017, 3, none⟩ = some (.int .i64 0) := (blk_cell BK43017.out 3).trans rfl
                        have hfz65_0 := blk_frozen BK43017.out 0
                        have hfz65_1 := blk_frozen BK43017.out 1
                        have hfz65_2 := blk_frozen BK43017.out 2
                        have hfz65_3 := blk_frozen BK43017.out 3
                        go_wp2
                        go_meet
                        case rel => exact ⟨_, (false), (by first | rfl | (simp; done) | (simp [*]; done)), H', ⟨by have := HJ2.out; have := HK2.out; first | omega | exact Nat.le_refl _⟩, ⟨by (with_reducible repeat (first | apply Kd.R_alloc | apply Kd.R_drewN | apply Kd.R_drew)); exact Kd.R_mono (Kd.R_far (p := ⟨gb43017, 3, none⟩) (Kd.R_far (p := ⟨gb43017, 2, none⟩) (Kd.R_far (p := ⟨gb43017, 1, none⟩) (Kd.R_far (p := ⟨gb43017, 0, none⟩) (Kd.R_types HO_5.out BK43017.out (by decide)) (fun _ hk => hk.2) (.int .i64 ((rd_T47 t43013 x25_2).f0))) (fun _ hk => hk.2) (.int .i64 ((rd_T47 t43013 x25_2).f1))) (fun _ hk => hk.2) (.int .i64 ((rd_T47 t43013 x25_2).f2))) (fun _ hk => hk.2) (.int .i64 ((rd_T47 t43013 x25_2).f3))) (fun _ hk => trivial)⟩, ⟨by (with_reducible repeat (first | apply Kd.R_alloc | apply Kd.R_drewN | apply Kd.R_drew)); exact Kd.R_mono (Kd.R_far (p := ⟨gb43017, 3, none⟩) (Kd.R_far (p := ⟨gb43017, 2, none⟩) (Kd.R_far (p := ⟨gb43017, 1, none⟩) (Kd.R_far (p := ⟨gb43017, 0, none⟩) (Kd.R_mono HO_23.out (fun k_ hk => (⟨hk, hk.2⟩ : _ ∧ k_ ≠ gb43017))) (fun _ hk => hk.2) (.int .i64 ((rd_T47 t43013 x25_2).f0))) (fun _ hk => hk.2) (.int .i64 ((rd_T47 t43013 x25_2).f1))) (fun _ hk => hk.2) (.int .i64 ((rd_T47 t43013 x25_2).f2))) (fun _ hk => hk.2) (.int .i64 ((rd_T47 t43013 x25_2).f3))) (fun _ hk => ⟨hk.1.1, hk.1.2⟩)⟩, ⟨by (with_reducible repeat (first | refine blk_drewN ?_ _ | refine blk_drew ?_ | refine blk_alloc ?_ _)); refine blk_far ?_ NB43001_43017.out _; (with_reducible repeat (first | refine blk_drewN ?_ _ | refine blk_drew ?_ | refine blk_alloc ?_ _)); refine blk_far ?_ NB43001_43017.out _; (with_reducible repeat (first | refine blk_drewN ?_ _ | refine blk_drew ?_ | refine blk_alloc ?_ _)); refine blk_far ?_ NB43001_43017.out _; (with_reducible repeat (first | refine blk_drewN ?_ _ | refine blk_drew ?_ | refine blk_alloc ?_ _)); refine blk_far ?_ NB43001_43017.out _; (with_reducible repeat (first | refine blk_drewN ?_ _ | refine blk_drew ?_ | refine blk_alloc ?_ _)); exact BK43001.out⟩, ⟨by (with_reducible repeat (first | refine blk_drewN ?_ _ | refine blk_drew ?_ | refine blk_alloc ?_ _)); refine blk_far ?_ NB43002_43017.out _; (with_reducible repeat (first | refine blk_drewN ?_ _ | refine blk_drew ?_ | refine blk_alloc ?_ _)); refine blk_far ?_ NB43002_43017.out _; (with_reducible repeat (first | refine blk_drewN ?_ _ | refine blk_drew ?_ | refine blk_alloc ?_ _)); refine blk_far ?_ NB43002_43017.out _; (with_reducible repeat (first | refine blk_drewN ?_ _ | refine blk_drew ?_ | refine blk_alloc ?_ _)); refine blk_far ?_ NB43002_43017.out _; (with_reducible repeat (first | refine blk_drewN ?_ _ | refine blk_drew ?_ | refine blk_alloc ?_ _)); exact BK43002.out⟩, ⟨by (with_reducible repeat (first | refine blk_drewN ?_ _ | refine blk_drew ?_ | refine blk_alloc ?_ _)); refine blk_far ?_ NB43012_43017.out _; (with_reducible repeat (first | refine blk_drewN ?_ _ | refine blk_drew ?_ | refine blk_alloc ?_ _)); refine blk_far ?_ NB43012_43017.out _; (with_reducible repeat (first | refine blk_drewN ?_ _ | refine blk_drew ?_ | refine blk_alloc ?_ _)); refine blk_far ?_ NB43012_43017.out _; (with_reducible repeat (first | refine blk_drewN ?_ _ | refine blk_drew ?_ | refine blk_alloc ?_ _)); refine blk_far ?_ NB43012_43017.out _; (with_reducible repeat (first | refine blk_drewN ?_ _ | refine blk_drew ?_ | refine blk_alloc ?_ _)); exact BK43012.out⟩, ⟨by (with_reducible repeat (first | refine blk_drewN ?_ _ | refine blk_drew ?_ | refine blk_alloc ?_ _)); refine blk_put (cs := #[.int .i64 ((rd_T47 t43013 x25_2).f0), .int .i64 ((rd_T47 t43013 x25_2).f1), .int .i64 ((rd_T47 t43013 x25_2).f2), .int .i64 0]) ?_ 3 _ rfl; (with_reducible repeat (first | refine blk_drewN ?_ _ | refine blk_drew ?_ | refine blk_alloc ?_ _)); refine blk_put (cs := #[.int .i64 ((rd_T47 t43013 x25_2).f0), .int .i64 ((rd_T47 t43013 x25_2).f1), .int .i64 0, .int .i64 0]) ?_ 2 _ rfl; (with_reducible repeat (first | refine blk_drewN ?_ _ | refine blk_drew ?_ | refine blk_alloc ?_ _)); refine blk_put (cs := #[.int .i64 ((rd_T47 t43013 x25_2).f0), .int .i64 0, .int .i64 0, .int .i64 0]) ?_ 1 _ rfl; (with_reducible repeat (first | refine blk_drewN ?_ _ | refine blk_drew ?_ | refine blk_alloc ?_ _)); refine blk_put (cs := #[.int .i64 0, .int .i64 0, .int .i64 0, .int .i64 0]) ?_ 0 _ rfl; (with_reducible repeat (first | refine blk_drewN ?_ _ | refine blk_drew ?_ | refine blk_alloc ?_ _)); exact BK43017.out⟩, ⟨by repeat (first | (with_reducible first | exact HB.out | apply below_alloc | apply pw_below_drewN | apply below_drew1 | refine below_set ?_ GE43001.out | refine below_set ?_ GE43002.out | refine below_set ?_ GE43012.out | refine below_set ?_ GE43017.out) | exact HB.out)⟩⟩
                    · rw [if_neg c42] at H
                      have c42b0 : decide (t43008 < (wrap64 (((rd_T47 t43013 x25_2).f0) + ((rd_T47 t43013 x25_2).f2)))) = false := decide_eq_false c42
                      clear c42
                      (first | rw [c42b0] | (simp only [i64_w, i32_w]; rw [c42b0]) | skip)
                      have H' := Aside0.mk H
                      clear H
                      have hnb66 := NB43012_43001.out
                      have hnc66 := NB43001_43012.out
                      have hnb67 := NB43012_43002.out
                      have hnc67 := NB43002_43012.out
                      have hnb68 := NB43012_43017.out
                      have hnc68 := NB43017_43012.out
                      have hcz69_0 : w37.cell? ⟨gb43012, 0, none⟩ = some (.int .i64 t43008) := (blk_cell BK43012.out 0).trans rfl
                      have hcz69_1 : w37.cell? ⟨gb43012, 1, none⟩ = some (.int .i64 t43009) := (blk_cell BK43012.out 1).trans rfl
                      have hcz69_2 : w37.cell? ⟨gb43012, 2, none⟩ = some (.int .i64 t43010) := (blk_cell BK43012.out 2).trans rfl
                      have hcz69_3 : w37.cell? ⟨gb43012, 3, none⟩ = some (.int .i64 t43011) := (blk_cell BK43012.out 3).trans rfl
                      have hfz69_0 := blk_frozen BK43012.out 0
                      have hfz69_1 := blk_frozen BK43012.out 1
                      have hfz69_2 := blk_frozen BK43012.out 2
                      have hfz69_3 := blk_frozen BK43012.out 3
                      have hnb70 := NB43017_43001.out
                      have hnc70 := NB43001_43017.out
                      have hnb71 := NB43017_43002.out
                      have hnc71 := NB43002_43017.out
                      have hcz72_0 : w37.cell? ⟨gb43017, 0, none⟩ = some (.int .i64 0) := (blk_cell BK43017.out 0).trans rfl
                      have hcz72_1 : w37.cell? ⟨gb43017, 1, none⟩ = some (.int .i64 0) := (blk_cell BK43017.out 1).trans rfl
                      have hcz72_2 : w37.cell? ⟨gb43017, 2, none⟩ = some (.int .i64 0) := (blk_cell BK43017.out 2).trans rfl
                      have hcz72_3 : w37.cell? ⟨gb43017, 3, none⟩ = some (.int .i64 0) := (blk_cell BK43017.out 3).trans rfl
                      have hfz72_0 := blk_frozen BK43017.out 0
                      have hfz72_1 := blk_frozen BK43017.out 1
                      have hfz72_2 := blk_frozen BK43017.out 2
                      have hfz72_3 := blk_frozen BK43017.out 3
                      go_wp2
                      go_meet
                      case rel => exact ⟨_, (false), (by first | rfl | (simp; done) | (simp [*]; done)), H', ⟨by have := HJ2.out; have := HK2.out; first | omega | exact Nat.le_refl _⟩, ⟨by (with_reducible repeat (first | apply Kd.R_alloc | apply Kd.R_drewN | apply Kd.R_drew)); exact Kd.R_mono (Kd.R_far (p := ⟨gb43017, 3, none⟩) (Kd.R_far (p := ⟨gb43017, 2, none⟩) (Kd.R_far (p := ⟨gb43017, 1, none⟩) (Kd.R_far (p := ⟨gb43017, 0, none⟩) (Kd.R_types HO_5.out BK43017.out (by decide)) (fun _ hk => hk.2) (.int .i64 ((rd_T47 t43013 x25_2).f0))) (fun _ hk => hk.2) (.int .i64 ((rd_T47 t43013 x25_2).f1))) (fun _ hk => hk.2) (.int .i64 ((rd_T47 t43013 x25_2).f2))) (fun _ hk => hk.2) (.int .i64 ((rd_T47 t43013 x25_2).f3))) (fun _ hk => trivial)⟩, ⟨by (with_reducible repeat (first | apply Kd.R_alloc | apply Kd.R_drewN | apply Kd.R_drew)); exact Kd.R_mono (Kd.R_far (p := ⟨gb43017, 3, none⟩) (Kd.R_far (p := ⟨gb43017, 2, none⟩) (Kd.R_far (p := ⟨gb43017, 1, none⟩) (Kd.R_far (p := ⟨gb43017, 0, none⟩) (Kd.R_mono HO_23.out (fun k_ hk => (⟨hk, hk.2⟩ : _ ∧ k_ ≠ gb43017))) (fun _ hk => hk.2) (.int .i64 ((rd_T47 t43013 x25_2).f0))) (fun _ hk => hk.2) (.int .i64 ((rd_T47 t43013 x25_2).f1))) (fun _ hk => hk.2) (.int .i64 ((rd_T47 t43013 x25_2).f2))) (fun _ hk => hk.2) (.int .i64 ((rd_T47 t43013 x25_2).f3))) (fun _ hk => ⟨hk.1.1, hk.1.2⟩)⟩, ⟨by (with_reducible repeat (first | refine blk_drewN ?_ _ | refine blk_drew ?_ | refine blk_alloc ?_ _)); refine blk_far ?_ NB43001_43017.out _; (with_reducible repeat (first | refine blk_drewN ?_ _ | refine blk_drew ?_ | refine blk_alloc ?_ _)); refine blk_far ?_ NB43001_43017.out _; (with_reducible repeat (first | refine blk_drewN ?_ _ | refine blk_drew ?_ | refine blk_alloc ?_ _)); refine blk_far ?_ NB43001_43017.out _; (with_reducible repeat (first | refine blk_drewN ?_ _ | refine blk_drew ?_ | refine blk_alloc ?_ _)); refine blk_far ?_ NB43001_43017.out _; (with_reducible repeat (first | refine blk_drewN ?_ _ | refine blk_drew ?_ | refine blk_alloc ?_ _)); exact BK43001.out⟩, ⟨by (with_reducible repeat (first | refine blk_drewN ?_ _ | refine blk_drew ?_ | refine blk_alloc ?_ _)); refine blk_far ?_ NB43002_43017.out _; (with_reducible repeat (first | refine blk_drewN ?_ _ | refine blk_drew ?_ | refine blk_alloc ?_ _)); refine blk_far ?_ NB43002_43017.out _; (with_reducible repeat (first | refine blk_drewN ?_ _ | refine blk_drew ?_ | refine blk_alloc ?_ _)); refine blk_far ?_ NB43002_43017.out _; (with_reducible repeat (first | refine blk_drewN ?_ _ | refine blk_drew ?_ | refine blk_alloc ?_ _)); refine blk_far ?_ NB43002_43017.out _; (with_reducible repeat (first | refine blk_drewN ?_ _ | refine blk_drew ?_ | refine blk_alloc ?_ _)); exact BK43002.out⟩, ⟨by (with_reducible repeat (first | refine blk_drewN ?_ _ | refine blk_drew ?_ | refine blk_alloc ?_ _)); refine blk_far ?_ NB43012_43017.out _; (with_reducible repeat (first | refine blk_drewN ?_ _ | refine blk_drew ?_ | refine blk_alloc ?_ _)); refine blk_far ?_ NB43012_43017.out _; (with_reducible repeat (first | refine blk_drewN ?_ _ | refine blk_drew ?_ | refine blk_alloc ?_ _)); refine blk_far ?_ NB43012_43017.out _; (with_reducible repeat (first | refine blk_drewN ?_ _ | refine blk_drew ?_ | refine blk_alloc ?_ _)); refine blk_far ?_ NB43012_43017.out _; (with_reducible repeat (first | refine blk_drewN ?_ _ | refine blk_drew ?_ | refine blk_alloc ?_ _)); exact BK43012.out⟩, ⟨by (with_reducible repeat (first | refine blk_drewN ?_ _ | refine blk_drew ?_ | refine blk_alloc ?_ _)); refine blk_put (cs := #[.int .i64 ((rd_T47 t43013 x25_2).f0), .int .i64 ((rd_T47 t43013 x25_2).f1), .int .i64 ((rd_T47 t43013 x25_2).f2), .int .i64 0]) ?_ 3 _ rfl; (with_reducible repeat (first | refine blk_drewN ?_ _ | refine blk_drew ?_ | refine blk_alloc ?_ _)); refine blk_put (cs := #[.int .i64 ((rd_T47 t43013 x25_2).f0), .int .i64 ((rd_T47 t43013 x25_2).f1), .int .i64 0, .int .i64 0]) ?_ 2 _ rfl; (with_reducible repeat (first | refine blk_drewN ?_ _ | refine blk_drew ?_ | refine blk_alloc ?_ _)); refine blk_put (cs := #[.int .i64 ((rd_T47 t43013 x25_2).f0), .int .i64 0, .int .i64 0, .int .i64 0]) ?_ 1 _ rfl; (with_reducible repeat (first | refine blk_drewN ?_ _ | refine blk_drew ?_ | refine blk_alloc ?_ _)); refine blk_put (cs := #[.int .i64 0, .int .i64 0, .int .i64 0, .int .i64 0]) ?_ 0 _ rfl; (with_reducible repeat (first | refine blk_drewN ?_ _ | refine blk_drew ?_ | refine blk_alloc ?_ _)); exact BK43017.out⟩, ⟨by repeat (first | (with_reducible first | exact HB.out | apply below_alloc | apply pw_below_drewN | apply below_drew1 | refine below_set ?_ GE43001.out | refine below_set ?_ GE43002.out | refine below_set ?_ GE43012.out | refine below_set ?_ GE43017.out) | exact HB.out)⟩⟩
                  case rest =>
                    clear HC36
                    try clear c1
                    try clear c2
                    try clear p2
                    try clear c3
                    try clear c4
                    try clear p4
                    try clear q4
                    try clear hx4
                    try clear c5
                    try clear c6
                    try clear p6
                    try clear c7
                    try clear c8
                    try clear c9
                    try clear c10
                    try clear c15
                    try clear c18
                    try clear c23
                    try clear c27
                    try clear c28
                    try clear c33
                    try clear c33b0
                    try clear c34
                    try clear c34b0
                    try clear c35
                    try clear c35b0
                    try clear c38
                    try clear c39
                    try clear c40
                    try clear c42
                    try clear c42b0
                    try clear c43
                    try clear c43b0
                    try clear p43
                    try clear q43
                    try clear hx43
                    try clear c44
                    try clear c44b0
                    try clear c45
                    try clear c46
                    try clear c47
                    try clear c49
                    try clear c50
                    try clear c52
                    try clear c53
                    try clear c54
                    try clear c56
                    try clear c57
                    try clear c59
                    try clear c60
                    try clear c61
                    try clear c63
                    try clear c64
                    try clear p64
                    try clear c66
                    try clear c67
                    try clear c68
                    try clear c70
                    try clear c71
                    try clear hcz10_0
                    try clear hcz10_1
                    try clear hcz10_2
                    try clear hcz10_3
                    try clear hcz12_0
                    try clear hcz12_1
                    try clear hcz12_2
                    try clear hcz12_3
                    try clear hcz12_4
                    try clear hcz12_5
                    try clear hcz12_6
                    try clear hcz12_7
                    try clear hcz12_8
                    try clear hcz13_0
                    try clear hcz13_1
                    try clear hcz13_2
                    try clear hcz13_3
                    try clear hcz16_0
                    try clear hcz16_1
                    try clear hcz16_2
                    try clear hcz16_3
                    try clear hcz24_0
                    try clear hcz24_1
                    try clear hcz24_2
                    try clear hcz24_3
                    try clear hcz24_4
                    try clear hcz24_5
                    try clear hcz24_6
                    try clear hcz24_7
                    try clear hcz24_8
                    try clear hcz29_0
                    try clear hcz29_1
                    try clear hcz29_2
                    try clear hcz29_3
                    try clear hcz30_0
                    try clear hcz30_1
                    try clear hcz30_2
                    try clear hcz30_3
                    try clear hcz41_0
                    try clear hcz41_1
                    try clear hcz41_2
                    try clear hcz41_3
                    try clear hcz48_0
                    try clear hcz48_1
                    try clear hcz48_2
                    try clear hcz48_3
                    try clear hcz51_0
                    try clear hcz51_1
                    try clear hcz51_2
                    try clear hcz51_3
                    try clear hcz55_0
                    try clear hcz55_1
                    try clear hcz55_2
                    try clear hcz55_3
                    try clear hcz58_0
                    try clear hcz58_1
                    try clear hcz58_2
                    try clear hcz58_3
                    try clear hcz62_0
                    try clear hcz62_1
                    try clear hcz62_2
                    try clear hcz62_3
                    try clear hcz65_0
                    try clear hcz65_1
                    try clear hcz65_2
                    try clear hcz65_3
                    try clear hcz69_0
                    try clear hcz69_1
                    try clear hcz69_2
                    try clear hcz69_3
                    try clear hcz72_0
                    try clear hcz72_1
                    try clear hcz72_2
                    try clear hcz72_3
                    try clear hfz10_0
                    try clear hfz10_1
                    try clear hfz10_2
                    try clear hfz10_3
                    try clear hfz12_0
                    try clear hfz12_1
                    try clear hfz12_2
                    try clear hfz12_3
                    try clear hfz12_4
                    try clear hfz12_5
                    try clear hfz12_6
                    try clear hfz12_7
                    try clear hfz12_8
                    try clear hfz13_0
                    try clear hfz13_1
                    try clear hfz13_2
                    try clear hfz13_3
                    try clear hfz16_0
                    try clear hfz16_1
                    try clear hfz16_2
                    try clear hfz16_3
                    try clear hfz24_0
                    try clear hfz24_1
                    try clear hfz24_2
                    try clear hfz24_3
                    try clear hfz24_4
                    try clear hfz24_5
                    try clear hfz24_6
                    try clear hfz24_7
                    try clear hfz24_8
                    try clear hfz29_0
                    try clear hfz29_1
                    try clear hfz29_2
                    try clear hfz29_3
                    try clear hfz30_0
                    try clear hfz30_1
                    try clear hfz30_2
                    try clear hfz30_3
                    try clear hfz41_0
                    try clear hfz41_1
                    try clear hfz41_2
                    try clear hfz41_3
                    try clear hfz48_0
                    try clear hfz48_1
                    try clear hfz48_2
                    try clear hfz48_3
                    try clear hfz51_0
                    try clear hfz51_1
                    try clear hfz51_2
                    try clear hfz51_3
                    try clear hfz55_0
                    try clear hfz55_1
                    try clear hfz55_2
                    try clear hfz55_3
                    try clear hfz58_0
                    try clear hfz58_1
                    try clear hfz58_2
                    try clear hfz58_3
                    try clear hfz62_0
                    try clear hfz62_1
                    try clear hfz62_2
                    try clear hfz62_3
                    try clear hfz65_0
                    try clear hfz65_1
                    try clear hfz65_2
                    try clear hfz65_3
                    try clear hfz69_0
                    try clear hfz69_1
                    try clear hfz69_2
                    try clear hfz69_3
                    try clear hfz72_0
                    try clear hfz72_1
                    try clear hfz72_2
                    try clear hfz72_3
                    try clear hx43016_0
                    try clear hx43016_1
                    try clear hx43016_2
                    try clear hx43016_3
                    try clear p2
                    try clear p43016
                    try clear q43016
                    obtain ⟨kq, x67_35, rfl, HA, HJ35, HO_5, HO_23, BK43001, BK43002, BK43012, BK43017, HB⟩ := hcut
                    cases kq with
                    | zero => exact absurd HA.out (by simp [impl_DirtyTiles.j2])
                    | succ kj35 =>
                      have H := HA.out
                      clear HA
                      simp only [impl_DirtyTiles.j2] at H
                      by_cases c73 : x67_35 = true
                      · subst c73
                        have H1 : (if x5_2.length < 17592186044416 then (impl_DirtyTiles.l0 kj35 (x5_2 ++ [x25_2]) t43013 (t43013.length : Int) (wrap64 (x25_2 + 1)) t43008 t43009 t43010 t43011) else (none)) = some r := by rw [if_pos rfl] at H; exact H
                        clear H
                        have H := H1
                        clear H1
                        by_cases c74 : x5_2.length < 17592186044416
                        · rw [if_pos c74] at H
                          have LMc74 := Aside0.mk c74
                          clear c74
                          obtain ⟨y43018, hy43018⟩ : ∃ y_ : List Int, y_ = (x5_2 ++ [x25_2]) := ⟨_, rfl⟩
                          replace H : (impl_DirtyTiles.l0 kj35 y43018 t43013 (t43013.length : Int) (wrap64 (x25_2 + 1)) t43008 t43009 t43010 t43011) = some r := by first | (rw [hy43018]; with_reducible exact H) | (have H2_ := (Option.bind_some _ _).symm.trans H; rw [hy43018]; with_reducible exact H2_) | (have H2_ := (Option.bind_some _ _).symm.trans H; with_reducible exact H2_) | with_reducible exact H | (rw [hy43018]; exact H) | exact H
                          have Ny43018 := Aside0.mk hy43018
                          clear hy43018
                          have H' := Aside0.mk H
                          clear H
                          go_wp2_with (first | ((with_reducible refine gate_builtin (b := .append) (xs := #[.tmp 68, .tmp 70]) rfl ?_); at_builtin; refine Kd.R_append (Kd.int .i64) (w0 := w) w.heap.size rfl (.tmp 68) (.tmp 70) 22 3 (.int .i64 0) 8 rfl Try.underlying22 info3 rfl (by decide) (by omega) u5 x5_2 x25_2 [.int .i64 x25_2] (fun _ => True) (fun _ => False) rfl rfl ?aP (fun _ hk => hk.elim) ?aF ?aO ?aB ?aS ?aL ?_; (case aP => exact rfl); (case aB => exact (by repeat (first | (with_reducible first | exact HB.out | apply below_alloc | apply pw_below_drewN | apply below_drew1 | refine below_set ?_ GE43001.out | refine below_set ?_ GE43002.out | refine below_set ?_ GE43012.out | refine below_set ?_ GE43017.out) | exact HB.out))); (case aF => exact (fun _ _ => trivial)); (case aO => exact (by (with_reducible repeat (first | apply Kd.R_alloc | apply Kd.R_drewN | apply Kd.R_drew)); exact HO_5.out)); (case aS => exact (below_size (by repeat (first | (with_reducible first | exact HB.out | apply below_alloc | apply pw_below_drewN | apply below_drew1 | refine below_set ?_ GE43001.out | refine below_set ?_ GE43002.out | refine below_set ?_ GE43012.out | refine below_set ?_ GE43017.out) | exact HB.out)))); (case aL => have := LMc74.out; omega); intro v43019 w75 ho hb hg hat; rw [← Ny43018.out] at ho; have n0_ := Aside0.mk (Kd.R_over' (by (with_reducible repeat (first | apply Kd.R_alloc | apply Kd.R_drewN | apply Kd.R_drew)); exact HO_23.out) (Kd.R_typed (by (with_reducible repeat (first | apply Kd.R_alloc | apply Kd.R_drewN | apply Kd.R_drew)); exact HO_5.out)) (by decide) hg); have n1_ := Aside0.mk (blk_grown (g := gb43001) (o := .cells #[.int .i64 a0_0, .int .i64 a0_1, .int .i64 a0_2, .slice A0_3 l0_3.length c0_3] 27 (0, 0)) (by (with_reducible repeat (first | refine blk_drewN ?_ _ | refine blk_drew ?_ | refine blk_alloc ?_ _)); exact BK43001.out) hg (Kd.R_ne HO_5.out BK43001.out (by decide))); have n2_ := Aside0.mk (blk_grown (g := gb43002) (o := .cells #[.int .i64 a1_0, .int .i64 a1_1, .int .i64 a1_2, .slice A1_3 l1_3.length c1_3, .int .i64 a1_4, .int .i64 a1_5, .int .i64 a1_6, .int .i64 a1_7, .bool a1_8] 55 (0, 0)) (by (with_reducible repeat (first | refine blk_drewN ?_ _ | refine blk_drew ?_ | refine blk_alloc ?_ _)); exact BK43002.out) hg (Kd.R_ne HO_5.out BK43002.out (by decide))); have n3_ := Aside0.mk (blk_grown (g := gb43012) (o := .cells #[.int .i64 t43008, .int .i64 t43009, .int .i64 t43010, .int .i64 t43011] 47 (0, 0)) (by (with_reducible repeat (first | refine blk_drewN ?_ _ | refine blk_drew ?_ | refine blk_alloc ?_ _)); exact BK43012.out) hg (Kd.R_ne HO_5.out BK43012.out (by decide))); have n4_ := Aside0.mk (blk_grown (g := gb43017) (o := .cells #[.int .i64 ((rd_T47 t43013 x25_2).f0), .int .i64 ((rd_T47 t43013 x25_2).f1), .int .i64 ((rd_T47 t43013 x25_2).f2), .int .i64 ((rd_T47 t43013 x25_2).f3)] 47 (0, 0)) (by (with_reducible repeat (first | refine blk_drewN ?_ _ | refine blk_drew ?_ | refine blk_alloc ?_ _)); exact BK43017.out) hg (Kd.R_ne HO_5.out BK43017.out (by decide))); have n5_ := Aside0.mk (hb); have n6_ := Aside0.mk (ho); clear HO_23; clear BK43001; clear BK43002; clear BK43012; clear BK43017; clear HB; clear HO_5; have HO_23 := n0_; have BK43001 := n1_; have BK43002 := n2_; have BK43012 := n3_; have BK43017 := n4_; have HB := n5_; have HO43020 := n6_; clear n0_ n1_ n2_ n3_ n4_ n5_ n6_; clear ho hb hg hat))
                          go_roundg kj35
                          case measure => have := HJ2.out; have := HK2.out; have := HJ35.out; omega
                          case rel => exact ⟨(y43018), (wrap64 (x25_2 + 1)), (by first | rfl | (simp; done) | (simp [*]; done)), H', ⟨by have := HJ2.out; have := HK2.out; have := HJ35.out; omega⟩, ⟨by (with_reducible repeat (first | apply Kd.R_alloc | apply Kd.R_drewN | apply Kd.R_drew)); exact HO43020.out⟩, ⟨by (with_reducible repeat (first | apply Kd.R_alloc | apply Kd.R_drewN | apply Kd.R_drew)); exact Kd.R_mono HO_23.out (fun _ hk => hk.1)⟩, ⟨by (with_reducible repeat (first | refine blk_drewN ?_ _ | refine blk_drew ?_ | refine blk_alloc ?_ _)); exact BK43001.out⟩, ⟨by (with_reducible repeat (first | refine blk_drewN ?_ _ | refine blk_drew ?_ | refine blk_alloc ?_ _)); exact BK43002.out⟩, ⟨by (with_reducible repeat (first | refine blk_drewN ?_ _ | refine blk_drew ?_ | refine blk_alloc ?_ _)); exact BK43012.out⟩, ⟨by repeat (first | (with_reducible first | exact HB.out | apply below_alloc | apply pw_below_drewN | apply below_drew1 | refine below_set ?_ GE43001.out | refine below_set ?_ GE43002.out | refine below_set ?_ GE43012.out | refine below_set ?_ GE43017.out) | exact HB.out)⟩⟩
                        · rw [if_neg c74] at H
                          exact absurd H (by simp)
                      · replace c73 := Bool.eq_false_iff.mpr c73
                        subst c73
                        have H1 : (impl_DirtyTiles.l0 kj35 x5_2 t43013 (t43013.length : Int) (wrap64 (x25_2 + 1)) t43008 t43009 t43010 t43011) = some r := by rw [if_neg (show ¬ (false = true) by decide)] at H; exact H
                        clear H
                        have H := H1
                        clear H1
                        have H' := Aside0.mk H
                        clear H
                        go_wp2
                        go_roundg kj35
                        case measure => have := HJ2.out; have := HK2.out; have := HJ35.out; omega
                        case rel => exact ⟨(x5_2), (wrap64 (x25_2 + 1)), (by first | rfl | (simp; done) | (simp [*]; done)), H', ⟨by have := HJ2.out; have := HK2.out; have := HJ35.out; omega⟩, ⟨by (with_reducible repeat (first | apply Kd.R_alloc | apply Kd.R_drewN | apply Kd.R_drew)); exact HO_5.out⟩, ⟨by (with_reducible repeat (first | apply Kd.R_alloc | apply Kd.R_drewN | apply Kd.R_drew)); exact Kd.R_mono HO_23.out (fun _ hk => hk.1)⟩, ⟨by (with_reducible repeat (first | refine blk_drewN ?_ _ | refine blk_drew ?_ | refine blk_alloc ?_ _)); exact BK43001.out⟩, ⟨by (with_reducible repeat (first | refine blk_drewN ?_ _ | refine blk_drew ?_ | refine blk_alloc ?_ _)); exact BK43002.out⟩, ⟨by (with_reducible repeat (first | refine blk_drewN ?_ _ | refine blk_drew ?_ | refine blk_alloc ?_ _)); exact BK43012.out⟩, ⟨by repeat (first | (with_reducible first | exact HB.out | apply below_alloc | apply pw_below_drewN | apply below_drew1 | refine below_set ?_ GE43001.out | refine below_set ?_ GE43002.out | refine below_set ?_ GE43012.out | refine below_set ?_ GE43017.out) | exact HB.out)⟩⟩
                · rw [if_neg c35] at H
                  exact absurd H (by simp)
              · rw [if_neg c34] at H
                exact absurd H (by simp)
            · rw [if_neg c33] at H
              have c33b0 : decide (x25_2 < (t43013.length : Int)) = false := decide_eq_false c33
              clear c33
              obtain rfl := Option.some.inj H
              go_wp2
              go_ret
              exact ⟨_, by first | rfl | (simp [errW_none, errW_some] <;> rfl) | (simp [*, errW_none, errW_some] <;> rfl), by (with_reducible repeat (first | apply Kd.R_alloc | apply Kd.R_drewN | apply Kd.R_drew)); exact HO_5.out, by repeat (first | (with_reducible first | exact HB.out | apply below_alloc | apply pw_below_drewN | apply below_drew1 | refine below_set ?_ GE43001.out | refine below_set ?_ GE43002.out | refine below_set ?_ GE43012.out) | exact HB.out)⟩

end Go.Proofs.Ytnofkbbcbpjhfaa.Q

namespace Go.Proofs.Ytnofkbbcbpjhfaa.Q
open Go.RowKit Go.Proofs.YtnofkbbcbpjhfaaW.PrintWords Go.Proofs.YtnofkbbcbpjhfaaW.PrintLast Go.Proofs.YtnofkbbcbpjhfaaW.PrintMore
attribute [local go_sem] max2_int min2_int max_two min_two max_three min_three max_four min_four
set_option linter.unusedVariables false
set_option linter.unusedSimpArgs false
/-! ### laws_eqLayer: function 44 -/
def laws_eqLayer.f (k : Nat) (a0_0 : Int) (a0_1 : Int) (a0_2 : Int) (l0_3 : List Int) (a0_4 : Int) (a0_5 : Int) (a0_6 : Int) (a0_7 : Int) (a0_8 : Bool) (a1_0 : Int) (a1_1 : Int) (a1_2 : Int) (l1_3 : List Int) (a1_4 : Int) (a1_5 : Int) (a1_6 : Int) (a1_7 : Int) (a1_8 : Bool) : Option (Bool) := (laws_eqImage.f k a0_0 a0_1 a0_2 l0_3 a1_0 a1_1 a1_2 l1_3).bind fun t45003 => (if t45003 = true then (if a0_4 = a1_4 then (if a0_5 = a1_5 then (if a0_6 = a1_6 then (if a0_7 = a1_7 then (if (a0_8 != a1_8) = true then (some false) else (some true)) else (some false)) else (some false)) else (some false)) else (some false)) else (some false))
theorem laws_eqLayer.mono : ∀ a0 a1 a2 a3 a4 a5 a6 a7 a8 a9 a10 a11 a12 a13 a14 a15 a16 a17 k, LeO (laws_eqLayer.f k a0 a1 a2 a3 a4 a5 a6 a7 a8 a9 a10 a11 a12 a13 a14 a15 a16 a17) (laws_eqLayer.f (k + 1) a0 a1 a2 a3 a4 a5 a6 a7 a8 a9 a10 a11 a12 a13 a14 a15 a16 a17) := by
  intro a0 a1 a2 a3 a4 a5 a6 a7 a8 a9 a10 a11 a12 a13 a14 a15 a16 a17 k
  unfold laws_eqLayer.f
  repeat' first
      | (with_reducible exact laws_eqImage.mono _ _ _ _ _ _ _ _ _)
      | (with_reducible exact LeO.refl _)
      | (with_reducible exact LeO.none _)
      | (with_reducible refine LeO.ite ?_ ?_)
      | (with_reducible refine LeO.bind ?_ (fun _ => ?_))
      | exact laws_eqImage.mono _ _ _ _ _ _ _ _ _
      | exact LeO.none _
      | refine LeO.ite ?_ ?_
      | refine LeO.bind ?_ (fun _ => ?_)
set_option maxHeartbeats 8000000 in
set_option maxRecDepth 100000 in
theorem laws_eqLayer.calls (k : Nat) (a0_0 : Int) (a0_1 : Int) (a0_2 : Int) (A0_3 : Option Addr) (c0_3 : Nat) (l0_3 : List Int) (a0_4 : Int) (a0_5 : Int) (a0_6 : Int) (a0_7 : Int) (a0_8 : Bool) (a1_0 : Int) (a1_1 : Int) (a1_2 : Int) (A1_3 : Option Addr) (c1_3 : Nat) (l1_3 : List Int) (a1_4 : Int) (a1_5 : Int) (a1_6 : Int) (a1_7 : Int) (a1_8 : Bool) (r : Bool) (w : World) (hr0_3 : Kd.C (Kd.int .i64) w A0_3 l0_3.length l0_3) (hc0_3 : l0_3.length ≤ c0_3) (hr1_3 : Kd.C (Kd.int .i64) w A1_3 l1_3.length l1_3) (hc1_3 : l1_3.length ≤ c1_3) (h : laws_eqLayer.f k a0_0 a0_1 a0_2 l0_3 a0_4 a0_5 a0_6 a0_7 a0_8 a1_0 a1_1 a1_2 l1_3 a1_4 a1_5 a1_6 a1_7 a1_8 = some r) (hrt : r = true) :
    Calls Try.prog 44 #[.agg #[.int .i64 a0_0, .int .i64 a0_1, .int .i64 a0_2, .slice A0_3 l0_3.length c0_3, .int .i64 a0_4, .int .i64 a0_5, .int .i64 a0_6, .int .i64 a0_7, .bool a0_8], .agg #[.int .i64 a1_0, .int .i64 a1_1, .int .i64 a1_2, .slice A1_3 l1_3.length c1_3, .int .i64 a1_4, .int .i64 a1_5, .int .i64 a1_6, .int .i64 a1_7, .bool a1_8]] w fun e w' => e = .returned (.bool r) ∧ Below w.heap.size w w' := by
  have HRT := Aside0.mk hrt
  clear hrt
  have hu55 := Try.underlying55
  have hu27 := Try.underlying27
  have HR0_3 := Aside0.mk hr0_3
  have HC0_3 := Aside0.mk hc0_3
  clear hr0_3 hc0_3
  have HR1_3 := Aside0.mk hr1_3
  have HC1_3 := Aside0.mk hc1_3
  clear hr1_3 hc1_3
  have HB := Aside0.mk (Below.refl w.heap.size w)
  have H : ((laws_eqImage.f k a0_0 a0_1 a0_2 l0_3 a1_0 a1_1 a1_2 l1_3).bind fun t45003 => (if t45003 = true then (if a0_4 = a1_4 then (if a0_5 = a1_5 then (if a0_6 = a1_6 then (if a0_7 = a1_7 then (if (a0_8 != a1_8) = true then (some false) else (some true)) else (some false)) else (some false)) else (some false)) else (some false)) else (some false))) = some r := h
  clear h
  replace H := Option.bind_eq_some_iff.mp H
  obtain ⟨t45003, A30, H⟩ := H
  replace H : (if t45003 = true then (if a0_4 = a1_4 then (if a0_5 = a1_5 then (if a0_6 = a1_6 then (if a0_7 = a1_7 then (if (a0_8 != a1_8) = true then (some false) else (some true)) else (some false)) else (some false)) else (some false)) else (some false)) else (some false)) = some r := H
  have A3 := Aside0.mk A30
  clear A30
  by_cases c4 : t45003 = true
  · subst c4
    have H1 : (if a0_4 = a1_4 then (if a0_5 = a1_5 then (if a0_6 = a1_6 then (if a0_7 = a1_7 then (if (a0_8 != a1_8) = true then (some false) else (some true)) else (some false)) else (some false)) else (some false)) else (some false)) = some r := by rw [if_pos rfl] at H; exact H
    clear H
    have H := H1
    clear H1
    by_cases c5 : a0_4 = a1_4
    · rw [if_pos c5] at H
      have c5b0 : (a0_4 == a1_4) = true := beq_iff_eq.mpr c5
      have c5b1 : (a0_4 != a1_4) = false := bne_eq_false_iff_eq.mpr c5
      clear c5
      by_cases c6 : a0_5 = a1_5
      · rw [if_pos c6] at H
        have c6b0 : (a0_5 == a1_5) = true := beq_iff_eq.mpr c6
        have c6b1 : (a0_5 != a1_5) = false := bne_eq_false_iff_eq.mpr c6
        clear c6
        by_cases c7 : a0_6 = a1_6
        · rw [if_pos c7] at H
          have c7b0 : (a0_6 == a1_6) = true := beq_iff_eq.mpr c7
          have c7b1 : (a0_6 != a1_6) = false := bne_eq_false_iff_eq.mpr c7
          clear c7
          by_cases c8 : a0_7 = a1_7
          · rw [if_pos c8] at H
            have c8b0 : (a0_7 == a1_7) = true := beq_iff_eq.mpr c8
            have c8b1 : (a0_7 != a1_7) = false := bne_eq_false_iff_eq.mpr c8
            clear c8
            by_cases c9 : (a0_8 != a1_8) = true
            · rw [if_pos c9] at H
              have c9b0 : (a0_8 != a1_8) = true := c9
              (try (have c9b1 : decide (a0_8 = a1_8) = false := by simpa using c9))
              (try (have c9b2 : (a0_8 == a1_8) = false := by simpa using c9))
              (try (have c9b3 : ¬ (a0_8 = a1_8) := by simpa using c9))
              clear c9
              exact absurd ((Option.some.inj H).trans HRT.out) (by decide)
            · rw [if_neg c9] at H
              have c9b0 : (a0_8 != a1_8) = false := by simpa using c9
              (try (have c9b1 : decide (a0_8 = a1_8) = true := by simpa using c9))
              (try (have c9b2 : (a0_8 == a1_8) = true := by simpa using c9))
              clear c9
              obtain rfl := Option.some.inj H
              go_enter Try.func44, Try.ntmps44
              go_wp2_with (first | ((with_reducible refine gate_dst (N := 2) rfl ?_); refine box_event ?hg (N := 2) ?hd (cs := #[.int .i64 a0_0, .int .i64 a0_1, .int .i64 a0_2, .slice A0_3 l0_3.length c0_3, .int .i64 a0_4, .int .i64 a0_5, .int .i64 a0_6, .int .i64 a0_7, .bool a0_8]) (t := 55) ?hr ?_; (case hd => rfl); (case hg => rfl); (case hr => first | (go_simp; done) | (go_simp; rfl)); intro gb45001 hg w18 hbox hb; have n0_ := Aside0.mk (below_step (by repeat (first | (with_reducible first | exact HB.out | apply below_alloc | apply pw_below_drewN | apply below_drew1) | exact HB.out)) hb); have n1_ := Aside0.mk (hbox); have n2_ := Aside0.mk ((by rw [hg]; exact (below_size (by repeat (first | (with_reducible first | exact HB.out | apply below_alloc | apply pw_below_drewN | apply below_drew1) | exact HB.out))) : w.heap.size ≤ gb45001)); have n3_ := Aside0.mk ((by rw [hg]; exact (below_size (by repeat (first | (with_reducible first | exact HB.out | apply below_alloc | apply pw_below_drewN | apply below_drew1) | exact HB.out))) : w.heap.size ≤ gb45001)); clear HB; have HB := n0_; have BK45001 := n1_; have GW45001 := n2_; have GE45001 := n3_; clear n0_ n1_ n2_ n3_; clear hb hbox hg) | ((with_reducible refine gate_dst (N := 3) rfl ?_); refine box_event ?hg (N := 3) ?hd (cs := #[.int .i64 a1_0, .int .i64 a1_1, .int .i64 a1_2, .slice A1_3 l1_3.length c1_3, .int .i64 a1_4, .int .i64 a1_5, .int .i64 a1_6, .int .i64 a1_7, .bool a1_8]) (t := 55) ?hr ?_; (case hd => rfl); (case hg => rfl); (case hr => first | (go_simp; done) | (go_simp; rfl)); intro gb45002 hg w19 hbox hb; have n0_ := Aside0.mk (blk_below (g := gb45001) (o := .cells #[.int .i64 a0_0, .int .i64 a0_1, .int .i64 a0_2, .slice A0_3 l0_3.length c0_3, .int .i64 a0_4, .int .i64 a0_5, .int .i64 a0_6, .int .i64 a0_7, .bool a0_8] 55 (0, 0)) (by (with_reducible repeat (first | refine blk_drewN ?_ _ | refine blk_drew ?_ | refine blk_alloc ?_ _)); exact BK45001.out) hb); have n1_ := Aside0.mk (below_step (by repeat (first | (with_reducible first | exact HB.out | apply below_alloc | apply pw_below_drewN | apply below_drew1 | refine below_set ?_ GE45001.out) | exact HB.out)) hb); have n2_ := Aside0.mk (hbox); have n3_ := Aside0.mk ((by rw [hg]; exact (below_size (by repeat (first | (with_reducible first | exact HB.out | apply below_alloc | apply pw_below_drewN | apply below_drew1 | refine below_set ?_ GE45001.out) | exact HB.out))) : w.heap.size ≤ gb45002)); have n4_ := Aside0.mk ((by rw [hg]; exact (below_size (by repeat (first | (with_reducible first | exact HB.out | apply below_alloc | apply pw_below_drewN | apply below_drew1 | refine below_set ?_ GE45001.out) | exact HB.out))) : w.heap.size ≤ gb45002)); have n5_ := Aside0.mk ((by rw [hg]; exact Nat.ne_of_lt (blk_lt (g := gb45001) (o := .cells #[.int .i64 a0_0, .int .i64 a0_1, .int .i64 a0_2, .slice A0_3 l0_3.length c0_3, .int .i64 a0_4, .int .i64 a0_5, .int .i64 a0_6, .int .i64 a0_7, .bool a0_8] 55 (0, 0)) (by (with_reducible repeat (first | refine blk_drewN ?_ _ | refine blk_drew ?_ | refine blk_alloc ?_ _)); exact BK45001.out)) : gb45001 ≠ gb45002)); have n6_ := Aside0.mk ((by rw [hg]; exact Nat.ne_of_gt (blk_lt (g := gb45001) (o := .cells #[.int .i64 a0_0, .int .i64 a0_1, .int .i64 a0_2, .slice A0_3 l0_3.length c0_3, .int .i64 a0_4, .int .i64 a0_5, .int .i64 a0_6, .int .i64 a0_7, .bool a0_8] 55 (0, 0)) (by (with_reducible repeat (first | refine blk_drewN ?_ _ | refine blk_drew ?_ | refine blk_alloc ?_ _)); exact BK45001.out)) : gb45002 ≠ gb45001)); clear BK45001; clear HB; have BK45001 := n0_; have HB := n1_; have BK45002 := n2_; have GW45002 := n3_; have GE45002 := n4_; have NB45001_45002 := n5_; have NB45002_45001 := n6_; clear n0_ n1_ n2_ n3_ n4_ n5_ n6_; clear hb hbox hg; have hnb20 := NB45001_45002.out; have hnc20 := NB45002_45001.out; have hcz21_0 : w19.cell? ⟨gb45001, 0, none⟩ = some (.int .i64 a0_0) := (blk_cell BK45001.out 0).trans rfl; have hcz21_1 : w19.cell? ⟨gb45001, 1, none⟩ = some (.int .i64 a0_1) := (blk_cell BK45001.out 1).trans rfl; have hcz21_2 : w19.cell? ⟨gb45001, 2, none⟩ = some (.int .i64 a0_2) := (blk_cell BK45001.out 2).trans rfl; have hcz21_3 : w19.cell? ⟨gb45001, 3, none⟩ = some (.slice A0_3 l0_3.length c0_3) := (blk_cell BK45001.out 3).trans rfl; have hcz21_4 : w19.cell? ⟨gb45001, 4, none⟩ = some (.int .i64 a0_4) := (blk_cell BK45001.out 4).trans rfl; have hcz21_5 : w19.cell? ⟨gb45001, 5, none⟩ = some (.int .i64 a0_5) := (blk_cell BK45001.out 5).trans rfl; have hcz21_6 : w19.cell? ⟨gb45001, 6, none⟩ = some (.int .i64 a0_6) := (blk_cell BK45001.out 6).trans rfl; have hcz21_7 : w19.cell? ⟨gb45001, 7, none⟩ = some (.int .i64 a0_7) := (blk_cell BK45001.out 7).trans rfl; have hcz21_8 : w19.cell? ⟨gb45001, 8, none⟩ = some (.bool a0_8) := (blk_cell BK45001.out 8).trans rfl; have hfz21_0 := blk_frozen BK45001.out 0; have hfz21_1 := blk_frozen BK45001.out 1; have hfz21_2 := blk_frozen BK45001.out 2; have hfz21_3 := blk_frozen BK45001.out 3; have hfz21_4 := blk_frozen BK45001.out 4; have hfz21_5 := blk_frozen BK45001.out 5; have hfz21_6 := blk_frozen BK45001.out 6; have hfz21_7 := blk_frozen BK45001.out 7; have hfz21_8 := blk_frozen BK45001.out 8; have hcz22_0 : w19.cell? ⟨gb45002, 0, none⟩ = some (.int .i64 a1_0) := (blk_cell BK45002.out 0).trans rfl; have hcz22_1 : w19.cell? ⟨gb45002, 1, none⟩ = some (.int .i64 a1_1) := (blk_cell BK45002.out 1).trans rfl; have hcz22_2 : w19.cell? ⟨gb45002, 2, none⟩ = some (.int .i64 a1_2) := (blk_cell BK45002.out 2).trans rfl; have hcz22_3 : w19.cell? ⟨gb45002, 3, none⟩ = some (.slice A1_3 l1_3.length c1_3) := (blk_cell BK45002.out 3).trans rfl; have hcz22_4 : w19.cell? ⟨gb45002, 4, none⟩ = some (.int .i64 a1_4) := (blk_cell BK45002.out 4).trans rfl; have hcz22_5 : w19.cell? ⟨gb45002, 5, none⟩ = some (.int .i64 a1_5) := (blk_cell BK45002.out 5).trans rfl; have hcz22_6 : w19.cell? ⟨gb45002, 6, none⟩ = some (.int .i64 a1_6) := (blk_cell BK45002.out 6).trans rfl; have hcz22_7 : w19.cell? ⟨gb45002, 7, none⟩ = some (.int .i64 a1_7) := (blk_cell BK45002.out 7).trans rfl; have hcz22_8 : w19.cell? ⟨gb45002, 8, none⟩ = some (.bool a1_8) := (blk_cell BK45002.out 8).trans rfl; have hfz22_0 := blk_frozen BK45002.out 0; have hfz22_1 := blk_frozen BK45002.out 1; have hfz22_2 := blk_frozen BK45002.out 2; have hfz22_3 := blk_frozen BK45002.out 3; have hfz22_4 := blk_frozen BK45002.out 4; have hfz22_5 := blk_frozen BK45002.out 5; have hfz22_6 := blk_frozen BK45002.out 6; have hfz22_7 := blk_frozen BK45002.out 7; have hfz22_8 := blk_frozen BK45002.out 8) | ((with_reducible refine gate_callee (f := 24) rfl ?_); refine goesL_ (some 9) rfl rfl Try.func24 (by kernel_rfl) rfl #[.agg #[.int .i64 a0_0, .int .i64 a0_1, .int .i64 a0_2, .slice A0_3 l0_3.length c0_3], .agg #[.int .i64 a1_0, .int .i64 a1_1, .int .i64 a1_2, .slice A1_3 l1_3.length c1_3]] rfl (by (try simp only [List.map_toArray, List.map_cons, List.map_nil]); first | done | rfl | (simp only [List.length_drop, List.length_take]; rfl)) ?_; (with_reducible refine (laws_eqImage.calls k a0_0 a0_1 a0_2 _ _ l0_3 a1_0 a1_1 a1_2 _ _ l1_3 true _ ?side1 ?side2 ?side3 ?side4 A3.out rfl).mono ?_); (case side1 => repeat (first | exact (Kd.C_below HR0_3.out HB.out) | (with_reducible refine Kd.C_alloc ?_ _) | (with_reducible refine Kd.C_drewN ?_ _) | (with_reducible refine Kd.C_drew ?_))); (case side2 => exact HC0_3.out); (case side3 => repeat (first | exact (Kd.C_below HR1_3.out HB.out) | (with_reducible refine Kd.C_alloc ?_ _) | (with_reducible refine Kd.C_drewN ?_ _) | (with_reducible refine Kd.C_drew ?_))); (case side4 => exact HC1_3.out); rintro e w23 ⟨rfl, hb⟩; refine ⟨_, rfl, ?_⟩; have n0_ := Aside0.mk (blk_below (g := gb45001) (o := .cells #[.int .i64 a0_0, .int .i64 a0_1, .int .i64 a0_2, .slice A0_3 l0_3.length c0_3, .int .i64 a0_4, .int .i64 a0_5, .int .i64 a0_6, .int .i64 a0_7, .bool a0_8] 55 (0, 0)) (by (with_reducible repeat (first | refine blk_drewN ?_ _ | refine blk_drew ?_ | refine blk_alloc ?_ _)); exact BK45001.out) hb); have n1_ := Aside0.mk (blk_below (g := gb45002) (o := .cells #[.int .i64 a1_0, .int .i64 a1_1, .int .i64 a1_2, .slice A1_3 l1_3.length c1_3, .int .i64 a1_4, .int .i64 a1_5, .int .i64 a1_6, .int .i64 a1_7, .bool a1_8] 55 (0, 0)) (by (with_reducible repeat (first | refine blk_drewN ?_ _ | refine blk_drew ?_ | refine blk_alloc ?_ _)); exact BK45002.out) hb); have n2_ := Aside0.mk (below_step (by repeat (first | (with_reducible first | exact HB.out | apply below_alloc | apply pw_below_drewN | apply below_drew1 | refine below_set ?_ GE45001.out | refine below_set ?_ GE45002.out) | exact HB.out)) hb); clear BK45001; clear BK45002; clear HB; have BK45001 := n0_; have BK45002 := n1_; have HB := n2_; clear n0_ n1_ n2_; (try clear hb); (try clear hb2); (try clear hk); (try clear hi); have hcz24_0 : w23.cell? ⟨gb45001, 0, none⟩ = some (.int .i64 a0_0) := (blk_cell BK45001.out 0).trans rfl; have hcz24_1 : w23.cell? ⟨gb45001, 1, none⟩ = some (.int .i64 a0_1) := (blk_cell BK45001.out 1).trans rfl; have hcz24_2 : w23.cell? ⟨gb45001, 2, none⟩ = some (.int .i64 a0_2) := (blk_cell BK45001.out 2).trans rfl; have hcz24_3 : w23.cell? ⟨gb45001, 3, none⟩ = some (.slice A0_3 l0_3.length c0_3) := (blk_cell BK45001.out 3).trans rfl; have hcz24_4 : w23.cell? ⟨gb45001, 4, none⟩ = some (.int .i64 a0_4) := (blk_cell BK45001.out 4).trans rfl; have hcz24_5 : w23.cell? ⟨gb45001, 5, none⟩ = some (.int .i64 a0_5) := (blk_cell BK45001.out 5).trans rfl; have hcz24_6 : w23.cell? ⟨gb45001, 6, none⟩ = some (.int .i64 a0_6) := (blk_cell BK45001.out 6).trans rfl; have hcz24_7 : w23.cell? ⟨gb45001, 7, none⟩ = some (.int .i64 a0_7) := (blk_cell BK45001.out 7).trans rfl; have hcz24_8 : w23.cell? ⟨gb45001, 8, none⟩ = some (.bool a0_8) := (blk_cell BK45001.out 8).trans rfl; have hfz24_0 := blk_frozen BK45001.out 0; have hfz24_1 := blk_frozen BK45001.out 1; have hfz24_2 := blk_frozen BK45001.out 2; have hfz24_3 := blk_frozen BK45001.out 3; have hfz24_4 := blk_frozen BK45001.out 4; have hfz24_5 := blk_frozen BK45001.out 5; have hfz24_6 := blk_frozen BK45001.out 6; have hfz24_7 := blk_frozen BK45001.out 7; have hfz24_8 := blk_frozen BK45001.out 8; have hcz25_0 : w23.cell? ⟨gb45002, 0, none⟩ = some (.int .i64 a1_0) := (blk_cell BK45002.out 0).trans rfl; have hcz25_1 : w23.cell? ⟨gb45002, 1, none⟩ = some (.int .i64 a1_1) := (blk_cell BK45002.out 1).trans rfl; have hcz25_2 : w23.cell? ⟨gb45002, 2, none⟩ = some (.int .i64 a1_2) := (blk_cell BK45002.out 2).trans rfl; have hcz25_3 : w23.cell? ⟨gb45002, 3, none⟩ = some (.slice A1_3 l1_3.length c1_3) := (blk_cell BK45002.out 3).trans rfl; have hcz25_4 : w23.cell? ⟨gb45002, 4, none⟩ = some (.int .i64 a1_4) := (blk_cell BK45002.out 4).trans rfl; have hcz25_5 : w23.cell? ⟨gb45002, 5, none⟩ = some (.int .i64 a1_5) := (blk_cell BK45002.out 5).trans rfl; have hcz25_6 : w23.cell? ⟨gb45002, 6, none⟩ = some (.int .i64 a1_6) := (blk_cell BK45002.out 6).trans rfl; have hcz25_7 : w23.cell? ⟨gb45002, 7, none⟩ = some (.int .i64 a1_7) := (blk_cell BK45002.out 7).trans rfl; have hcz25_8 : w23.cell? ⟨gb45002, 8, none⟩ = some (.bool a1_8) := (blk_cell BK45002.out 8).trans rfl; have hfz25_0 := blk_frozen BK45002.out 0; have hfz25_1 := blk_frozen BK45002.out 1; have hfz25_2 := blk_frozen BK45002.out 2; have hfz25_3 := blk_frozen BK45002.out 3; have hfz25_4 := blk_frozen BK45002.out 4; have hfz25_5 := blk_frozen BK45002.out 5; have hfz25_6 := blk_frozen BK45002.out 6; have hfz25_7 := blk_frozen BK45002.out 7; have hfz25_8 := blk_frozen BK45002.out 8))
              go_ret
              exact ⟨by first | rfl | (simp [errW_none, errW_some] <;> rfl) | (simp [*, errW_none, errW_some] <;> rfl), by repeat (first | (with_reducible first | exact HB.out | apply below_alloc | apply pw_below_drewN | apply below_drew1 | refine below_set ?_ GE45001.out | refine below_set ?_ GE45002.out) | exact HB.out)⟩
          · rw [if_neg c8] at H
            have c8b0 : (a0_7 == a1_7) = false := beq_eq_false_iff_ne.mpr c8
            have c8b1 : (a0_7 != a1_7) = true := bne_iff_ne.mpr c8
            exact absurd ((Option.some.inj H).trans HRT.out) (by decide)
        · rw [if_neg c7] at H
          have c7b0 : (a0_6 == a1_6) = false := beq_eq_false_iff_ne.mpr c7
          have c7b1 : (a0_6 != a1_6) = true := bne_iff_ne.mpr c7
          exact absurd ((Option.some.inj H).trans HRT.out) (by decide)
      · rw [if_neg c6] at H
        have c6b0 : (a0_5 == a1_5) = false := beq_eq_false_iff_ne.mpr c6
        have c6b1 : (a0_5 != a1_5) = true := bne_iff_ne.mpr c6
        exact absurd ((Option.some.inj H).trans HRT.out) (by decide)
    · rw [if_neg c5] at H
      have c5b0 : (a0_4 == a1_4) = false := beq_eq_false_iff_ne.mpr c5
      have c5b1 : (a0_4 != a1_4) = true := bne_iff_ne.mpr c5
      exact absurd ((Option.some.inj H).trans HRT.out) (by decide)
  · replace c4 := Bool.eq_false_iff.mpr c4
    subst c4
    have H1 : (some false) = some r := by rw [if_neg (show ¬ (false = true) by decide)] at H; exact H
    clear H
    have H := H1
    clear H1
    exact absurd ((Option.some.inj H).trans HRT.out) (by decide)

end Go.Proofs.Ytnofkbbcbpjhfaa.Q

namespace Go.Proofs.Ytnofkbbcbpjhfaa.Q
open Go.RowKit Go.Proofs.YtnofkbbcbpjhfaaW.PrintWords Go.Proofs.YtnofkbbcbpjhfaaW.PrintLast Go.Proofs.YtnofkbbcbpjhfaaW.PrintMore
attribute [local go_sem] max2_int min2_int max_two min_two max_three min_three max_four min_four
set_option linter.unusedVariables false
set_option linter.unusedSimpArgs false
/-! ### laws_markLayer: function 45 -/
def laws_markLayer.f (k : Nat) (a0_0 : Int) (a0_1 : Int) (a0_2 : Int) (l0_3 : List Int) (a0_4 : Int) (a0_5 : Int) (a0_6 : Int) (a0_7 : Int) (a0_8 : Bool) (a1 : Int) : Option (Int × List Int) := (laws_markImage.f k a0_0 a0_1 a0_2 l0_3 a1).bind fun bt46002 => (some (bt46002.1, bt46002.2))
theorem laws_markLayer.mono : ∀ a0 a1 a2 a3 a4 a5 a6 a7 a8 a9 k, LeO (laws_markLayer.f k a0 a1 a2 a3 a4 a5 a6 a7 a8 a9) (laws_markLayer.f (k + 1) a0 a1 a2 a3 a4 a5 a6 a7 a8 a9) := by
  intro a0 a1 a2 a3 a4 a5 a6 a7 a8 a9 k
  unfold laws_markLayer.f
  repeat' first
      | (with_reducible exact laws_markImage.mono _ _ _ _ _ _)
      | (with_reducible exact LeO.refl _)
      | (with_reducible exact LeO.none _)
      | (with_reducible refine LeO.ite ?_ ?_)
      | (with_reducible refine LeO.bind ?_ (fun _ => ?_))
      | exact laws_markImage.mono _ _ _ _ _ _
      | exact LeO.none _
      | refine LeO.ite ?_ ?_
      | refine LeO.bind ?_ (fun _ => ?_)
set_option maxHeartbeats 8000000 in
set_option maxRecDepth 100000 in
theorem laws_markLayer.calls (k : Nat) (a0_0 : Int) (a0_1 : Int) (a0_2 : Int) (P0_3_ : Nat → Prop) (u9000_ : Value) (l0_3 : List Int) (a0_4 : Int) (a0_5 : Int) (a0_6 : Int) (a0_7 : Int) (a0_8 : Bool) (a1 : Int) (r1 : Int) (r2 : List Int) (w0 w : World) (hB : Below w0.heap.size w0 w) (ho0_3 : Kd.R (Kd.int .i64) 3 w w0.heap.size P0_3_ u9000_ l0_3) (h : laws_markLayer.f k a0_0 a0_1 a0_2 l0_3 a0_4 a0_5 a0_6 a0_7 a0_8 a1 = some (r1, r2)) :
    Calls Try.prog 45 #[.agg #[.int .i64 a0_0, .int .i64 a0_1, .int .i64 a0_2, u9000_, .int .i64 a0_4, .int .i64 a0_5, .int .i64 a0_6, .int .i64 a0_7, .bool a0_8], .int .i64 a1] w fun e w' => e = .returned (.int .i64 r1) ∧ Kd.R (Kd.int .i64) 3 w' w0.heap.size (fun k_ => (P0_3_ k_ ∨ w.heap.size ≤ k_)) u9000_ r2 ∧ Below w0.heap.size w0 w' ∧ Kept w w' (fun k_ => P0_3_ k_) := by
  have hu55 := Try.underlying55
  have hu27 := Try.underlying27
  have HO0_3 := Aside0.mk (show Kd.R (Kd.int .i64) 3 w w0.heap.size (fun k_ => (P0_3_ k_ ∨ w.heap.size ≤ k_)) u9000_ l0_3 from Kd.R_mono ho0_3 (fun k_ hk => (.inl hk)))
  have HK := Aside0.mk (Kept.refl w (fun k_ => P0_3_ k_))
  have HW0 := Aside0.mk hB.size
  have HB := Aside0.mk hB
  clear hB
  have H : ((laws_markImage.f k a0_0 a0_1 a0_2 l0_3 a1).bind fun bt46002 => (some (bt46002.1, bt46002.2))) = some (r1, r2) := h
  clear h
  replace H := Option.bind_eq_some_iff.mp H
  obtain ⟨⟨t46002, t46003⟩, A30, H⟩ := H
  replace H : (some (t46002, t46003)) = some (r1, r2) := H
  have A3 := Aside0.mk A30
  clear A30
  simp only [Option.some.injEq, Prod.mk.injEq] at H
  obtain ⟨rfl, rfl⟩ := H
  obtain ⟨Ao4, co4, eo4⟩ := Kd.R_slice HO0_3.out
  subst eo4
  go_enter Try.func45, Try.ntmps45
  go_wp2_with (first | ((with_reducible refine gate_dst (N := 2) rfl ?_); refine box_event ?hg (N := 2) ?hd (cs := #[.int .i64 a0_0, .int .i64 a0_1, .int .i64 a0_2, .slice Ao4 l0_3.length co4, .int .i64 a0_4, .int .i64 a0_5, .int .i64 a0_6, .int .i64 a0_7, .bool a0_8]) (t := 55) ?hr ?_; (case hd => rfl); (case hg => rfl); (case hr => first | (go_simp; done) | (go_simp; rfl)); intro gb46001 hg w5 hbox hb; have n0_ := Aside0.mk (Kd.R_below (by (with_reducible repeat (first | apply Kd.R_alloc | apply Kd.R_drewN | apply Kd.R_drew)); exact HO0_3.out) hb); have n1_ := Aside0.mk (Kept.below (S := (fun k_ => P0_3_ k_)) (by repeat (first | (with_reducible first | exact HK.out | apply Kept.alloc | apply Kept.drewN | apply Kept.drew) | exact HK.out)) hb); have n2_ := Aside0.mk (below_step (by repeat (first | (with_reducible first | exact HB.out | apply below_alloc | apply pw_below_drewN | apply below_drew1) | exact HB.out)) hb); have n3_ := Aside0.mk (hbox); have n4_ := Aside0.mk ((by rw [hg]; exact (by first | exact HK.out.1 | exact (show Kept w _ (fun k_ => P0_3_ k_) from by repeat (first | (with_reducible first | exact HK.out | apply Kept.alloc | apply Kept.drewN | apply Kept.drew) | exact HK.out)).1) : w.heap.size ≤ gb46001)); have n5_ := Aside0.mk ((by rw [hg]; exact (below_size (by repeat (first | (with_reducible first | exact HB.out | apply below_alloc | apply pw_below_drewN | apply below_drew1) | exact HB.out))) : w0.heap.size ≤ gb46001)); clear HO0_3; clear HK; clear HB; have HO0_3 := n0_; have HK := n1_; have HB := n2_; have BK46001 := n3_; have GW46001 := n4_; have GE46001 := n5_; clear n0_ n1_ n2_ n3_ n4_ n5_; clear hb hbox hg; have hcz6_0 : w5.cell? ⟨gb46001, 0, none⟩ = some (.int .i64 a0_0) := (blk_cell BK46001.out 0).trans rfl; have hcz6_1 : w5.cell? ⟨gb46001, 1, none⟩ = some (.int .i64 a0_1) := (blk_cell BK46001.out 1).trans rfl; have hcz6_2 : w5.cell? ⟨gb46001, 2, none⟩ = some (.int .i64 a0_2) := (blk_cell BK46001.out 2).trans rfl; have hcz6_3 : w5.cell? ⟨gb46001, 3, none⟩ = some (.slice Ao4 l0_3.length co4) := (blk_cell BK46001.out 3).trans rfl; have hcz6_4 : w5.cell? ⟨gb46001, 4, none⟩ = some (.int .i64 a0_4) := (blk_cell BK46001.out 4).trans rfl; have hcz6_5 : w5.cell? ⟨gb46001, 5, none⟩ = some (.int .i64 a0_5) := (blk_cell BK46001.out 5).trans rfl; have hcz6_6 : w5.cell? ⟨gb46001, 6, none⟩ = some (.int .i64 a0_6) := (blk_cell BK46001.out 6).trans rfl; have hcz6_7 : w5.cell? ⟨gb46001, 7, none⟩ = some (.int .i64 a0_7) := (blk_cell BK46001.out 7).trans rfl; have hcz6_8 : w5.cell? ⟨gb46001, 8, none⟩ = some (.bool a0_8) := (blk_cell BK46001.out 8).trans rfl; have hfz6_0 := blk_frozen BK46001.out 0; have hfz6_1 := blk_frozen BK46001.out 1; have hfz6_2 := blk_frozen BK46001.out 2; have hfz6_3 := blk_frozen BK46001.out 3; have hfz6_4 := blk_frozen BK46001.out 4; have hfz6_5 := blk_frozen BK46001.out 5; have hfz6_6 := blk_frozen BK46001.out 6; have hfz6_7 := blk_frozen BK46001.out 7; have hfz6_8 := blk_frozen BK46001.out 8) | ((with_reducible refine gate_callee (f := 31) rfl ?_); refine goesL_ (some 8) rfl rfl Try.func31 (by kernel_rfl) rfl #[.agg #[.int .i64 a0_0, .int .i64 a0_1, .int .i64 a0_2, .slice Ao4 l0_3.length co4], .int .i64 a1] rfl (by (try simp only [List.map_toArray, List.map_cons, List.map_nil]); first | done | rfl | (simp only [List.length_drop, List.length_take]; rfl)) ?_; (with_reducible refine (laws_markImage.calls k a0_0 a0_1 a0_2 (fun k_ => some k_ = (.slice Ao4 l0_3.length co4 : Value).ownBlock) (.slice Ao4 l0_3.length co4) l0_3 a1 t46002 t46003 w0 _ ?side1 ?side2 A3.out).mono ?_); (case side1 => repeat (first | (with_reducible first | exact HB.out | apply below_alloc | apply pw_below_drewN | apply below_drew1 | refine below_set ?_ GE46001.out) | exact HB.out)); (case side2 => exact Kd.R_tight rfl HO0_3.out); rintro e w7 ⟨rfl, hy0, hb, hkp⟩; refine ⟨_, rfl, ?_⟩; have n0_ := Aside0.mk (Kd.R_reok rfl hy0 (fun k_ e_ => HO0_3.out.1 k_ e_)); have n1_ := Aside0.mk (blk_kept (by (with_reducible repeat (first | refine blk_drewN ?_ _ | refine blk_drew ?_ | refine blk_alloc ?_ _)); exact BK46001.out) hkp (fun hs_ => (fun e_ => (Kd.R_ne HO0_3.out BK46001.out (by decide)) e_) hs_)); have n2_ := Aside0.mk (Kept.then_ (S := (fun k_ => P0_3_ k_)) (by repeat (first | (with_reducible first | exact HK.out | apply Kept.alloc | apply Kept.drewN | apply Kept.drew | refine Kept.setCell ?_ (.inr GW46001.out) _) | exact HK.out)) hkp (fun k_ hs_ => (fun e_ => (HO0_3.out.1 k_ e_.symm)) hs_)); have n3_ := Aside0.mk (hb); clear HO0_3; clear BK46001; clear HK; clear HB; have HO0_3 := n0_; have BK46001 := n1_; have HK := n2_; have HB := n3_; clear n0_ n1_ n2_ n3_; (try clear hb); (try clear hkp); (try clear hy0)))
  go_ret
  exact ⟨by first | rfl | (simp [errW_none, errW_some] <;> rfl) | (simp [*, errW_none, errW_some] <;> rfl), by (with_reducible repeat (first | apply Kd.R_alloc | apply Kd.R_drewN | apply Kd.R_drew)); exact HO0_3.out, by repeat (first | (with_reducible first | exact HB.out | apply below_alloc | apply pw_below_drewN | apply below_drew1 | refine below_set ?_ GE46001.out) | exact HB.out), by repeat (first | (with_reducible first | exact HK.out | apply Kept.alloc | apply Kept.drewN | apply Kept.drew | refine Kept.setCell ?_ (.inr GW46001.out) _) | exact HK.out)⟩

end Go.Proofs.Ytnofkbbcbpjhfaa.Q

namespace Go.Proofs.Ytnofkbbcbpjhfaa.Q
open Go.RowKit Go.Proofs.YtnofkbbcbpjhfaaW.PrintWords Go.Proofs.YtnofkbbcbpjhfaaW.PrintLast Go.Proofs.YtnofkbbcbpjhfaaW.PrintMore
attribute [local go_sem] max2_int min2_int max_two min_two max_three min_three max_four min_four
set_option linter.unusedVariables false
set_option linter.unusedSimpArgs false
/-! ### laws_heldIntS: function 47 -/
def laws_heldIntS.l0 : Nat → List Int → Int → Int → Option (Int)
  | 0, _, _, _ => none
  | k + 1, x0, x1, x5 => if x5 < (x0.length : Int) then (if 0 ≤ x5 then (if (rd x0 x5) = x1 then (laws_heldIntS.l0 k x0 (wrap64 (x1 + 1)) (wrap64 (x5 + 1))) else (some (-1))) else (none)) else (some x1)
def laws_heldIntS.f (k : Nat) (l0 : List Int) (a1 : Int) : Option (Int) := laws_heldIntS.l0 k l0 a1 0
theorem laws_heldIntS.mono_l : ∀ k, (∀ y0 y1 y2, LeO (laws_heldIntS.l0 k y0 y1 y2) (laws_heldIntS.l0 (k + 1) y0 y1 y2))
  | 0 => fun _ _ _ r h => by simp [laws_heldIntS.l0] at h
  | k + 1 => by
    have ih0 := laws_heldIntS.mono_l k
    · intro y0 y1 y2
      unfold laws_heldIntS.l0
      repeat' first
      | (with_reducible exact ih0 _ _ _)
      | (with_reducible exact LeO.refl _)
      | (with_reducible exact LeO.none _)
      | (with_reducible refine LeO.ite ?_ ?_)
      | (with_reducible refine LeO.bind ?_ (fun _ => ?_))
      | exact ih0 _ _ _
      | exact LeO.none _
      | refine LeO.ite ?_ ?_
      | refine LeO.bind ?_ (fun _ => ?_)
theorem laws_heldIntS.mono : ∀ a0 a1 k, LeO (laws_heldIntS.f k a0 a1) (laws_heldIntS.f (k + 1) a0 a1) := by
  intro a0 a1 k
  have ih0 := laws_heldIntS.mono_l k
  unfold laws_heldIntS.f
  repeat' first
      | (with_reducible exact ih0 _ _ _)
      | (with_reducible exact LeO.refl _)
      | (with_reducible exact LeO.none _)
      | (with_reducible refine LeO.ite ?_ ?_)
      | (with_reducible refine LeO.bind ?_ (fun _ => ?_))
      | exact ih0 _ _ _
      | exact LeO.none _
      | refine LeO.ite ?_ ?_
      | refine LeO.bind ?_ (fun _ => ?_)
set_option maxHeartbeats 8000000 in
set_option maxRecDepth 100000 in
theorem laws_heldIntS.calls (k : Nat) (A0 : Option Addr) (c0 : Nat) (l0 : List Int) (a1 : Int) (r : Int) (w : World) (hr0 : Kd.C (Kd.int .i64) w A0 l0.length l0) (hc0 : l0.length ≤ c0) (h : laws_heldIntS.f k l0 a1 = some r) :
    Calls Try.prog 47 #[.slice A0 l0.length c0, .int .i64 a1] w fun e w' => e = .returned (.int .i64 r) ∧ Drawn0 w w' := by
  have HR0 := Aside0.mk hr0
  have HC0 := Aside0.mk hc0
  clear hr0 hc0
  have H : (laws_heldIntS.l0 k l0 a1 0) = some r := h
  clear h
  have H' := Aside0.mk H
  clear H
  go_enter Try.func47, Try.ntmps47
  go_wp2
  go_loopg [1, 5] k (fun kq v1 v5 w' => ∃ (x1_1 : Int) (x5_1 : Int), v1 = .int .i64 x1_1 ∧ v5 = .int .i64 x5_1 ∧ Aside0 (laws_heldIntS.l0 kq l0 x1_1 x5_1 = some r) ∧ Aside0 (kq ≤ k) ∧ Drawn0 w w')
  case atStart => exact ⟨(a1), (0), (by first | rfl | (simp; done) | (simp [*]; done)), (by first | rfl | (simp; done) | (simp [*]; done)), H', ⟨Nat.le_refl _⟩, by repeat (first | exact Drawn0.refl _ | apply Drawn0.step)⟩
  case round =>
    clear H'
    try clear p2
    obtain ⟨x1_1, x5_1, rfl, rfl, HA, HK1, ⟨m1, rfl⟩⟩ := hrel
    cases gk with
    | zero => exact absurd HA.out (by simp [laws_heldIntS.l0])
    | succ k1 =>
      have H := HA.out
      clear HA
      simp only [laws_heldIntS.l0] at H
      by_cases c3 : x5_1 < (l0.length : Int)
      · rw [if_pos c3] at H
        have c3b0 : decide (x5_1 < (l0.length : Int)) = true := decide_eq_true c3
        clear c3
        by_cases c4 : 0 ≤ x5_1
        · rw [if_pos c4] at H
          have c4b0 : decide (0 ≤ x5_1) = true := decide_eq_true c4
          clear c4
          by_cases c5 : (rd l0 x5_1) = x1_1
          · rw [if_pos c5] at H
            have c5b0 : ((rd l0 x5_1) == x1_1) = true := beq_iff_eq.mpr c5
            have c5b1 : ((rd l0 x5_1) != x1_1) = false := bne_eq_false_iff_eq.mpr c5
            clear c5
            have H' := Aside0.mk H
            clear H
            have p48001 : 0 ≤ (x5_1 : Int) := of_decide_eq_true (by first | (with_reducible assumption) | assumption)
            have q48001 : x5_1 < (l0.length : Int) := of_decide_eq_true (by first | (with_reducible assumption) | assumption)
            obtain ⟨ad48001, e48001, hx48001_0⟩ := Kd.at_int HR0.out x5_1 p48001 q48001
            cases e48001
            replace p48001 := eq_true p48001
            replace q48001 := eq_true q48001
            go_wp2
            go_roundg k1
            case measure => have := HK1.out; omega
            case rel => exact ⟨(wrap64 (x1_1 + 1)), (wrap64 (x5_1 + 1)), (by first | rfl | (simp; done) | (simp [*]; done)), (by first | rfl | (simp; done) | (simp [*]; done)), H', ⟨by have := HK1.out; omega⟩, by repeat (first | exact Drawn0.refl _ | apply Drawn0.step)⟩
          · rw [if_neg c5] at H
            have c5b0 : ((rd l0 x5_1) == x1_1) = false := beq_eq_false_iff_ne.mpr c5
            have c5b1 : ((rd l0 x5_1) != x1_1) = true := bne_iff_ne.mpr c5
            obtain rfl := Option.some.inj H
            have p48001 : 0 ≤ (x5_1 : Int) := of_decide_eq_true (by first | (with_reducible assumption) | assumption)
            have q48001 : x5_1 < (l0.length : Int) := of_decide_eq_true (by first | (with_reducible assumption) | assumption)
            obtain ⟨ad48001, e48001, hx48001_0⟩ := Kd.at_int HR0.out x5_1 p48001 q48001
            cases e48001
            replace p48001 := eq_true p48001
            replace q48001 := eq_true q48001
            go_wp2
            go_ret
            exact ⟨by first | rfl | (simp; done) | (simp [*]; done), by repeat (first | exact Drawn0.refl _ | apply Drawn0.step)⟩
        · rw [if_neg c4] at H
          exact absurd H (by simp)
      · rw [if_neg c3] at H
        have c3b0 : decide (x5_1 < (l0.length : Int)) = false := decide_eq_false c3
        clear c3
        obtain rfl := Option.some.inj H
        go_wp2
        go_ret
        exact ⟨by first | rfl | (simp; done) | (simp [*]; done), by repeat (first | exact Drawn0.refl _ | apply Drawn0.step)⟩

end Go.Proofs.Ytnofkbbcbpjhfaa.Q
