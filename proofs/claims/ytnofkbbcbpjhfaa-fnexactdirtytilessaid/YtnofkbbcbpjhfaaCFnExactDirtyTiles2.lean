/- A part of the proof that the statement FnExactDirtyTilesSaid holds, under no condition of its own: The program's DirtyTiles and the reference's return the same, and what is returned is held by nobody else: over lists of numbers alone. -/
import Derived.Test.YtnofkbbcbpjhfaaCFnExactDirtyTiles1
import Derived.Shelf.Abstract
namespace Go.Proofs.Ytnofkbbcbpjhfaa.Q
open Go.RowKit Go.Proofs.YtnofkbbcbpjhfaaW.PrintWords Go.Proofs.YtnofkbbcbpjhfaaW.PrintLast Go.Proofs.YtnofkbbcbpjhfaaW.PrintMore
attribute [local go_sem] max2_int min2_int max_two min_two max_three min_three max_four min_four
set_option linter.unusedVariables false
set_option linter.unusedSimpArgs false
/-! ### spec_DirtyTiles: function 40 -/
mutual
def spec_DirtyTiles.j0 : Nat → List Int → Bool → Int → Int → Int → List Int → Int → Int → Int → List Int → Int → Int → Int → Int → Bool → Option (List Int)
  | 0, _, _, _, _, _, _, _, _, _, _, _, _, _, _, _ => none
  | k + 1, x5, x17, x41002000, x41002001, x41002002, x41002003, x41003000, x41003001, x41003002, x41003003, x41003004, x41003005, x41003006, x41003007, x41003008 => if x17 = true then (some ([] : List Int)) else (spec_DirtyTiles.l0 k x5 0 x41002000 x41002001 x41002002 x41002003 x41003000 x41003001 x41003002 x41003003 x41003004 x41003005 x41003006 x41003007 x41003008)
def spec_DirtyTiles.l0 : Nat → List Int → Int → Int → Int → Int → List Int → Int → Int → Int → List Int → Int → Int → Int → Int → Bool → Option (List Int)
  | 0, _, _, _, _, _, _, _, _, _, _, _, _, _, _, _ => none
  | k + 1, x5, x6, x41002000, x41002001, x41002002, x41002003, x41003000, x41003001, x41003002, x41003003, x41003004, x41003005, x41003006, x41003007, x41003008 => (spec_tileCount.f x41002000 x41002001 x41002002 x41002003).bind fun t41008 => (if x6 < t41008 then ((spec_tileBox.f x41002000 x41002001 x41002002 x41002003 x6).bind fun bt41009 => ((spec_touching.f x41003000 x41003001 x41003002 x41003003 x41003004 x41003005 x41003006 x41003007 x41003008 bt41009.1 bt41009.2.1 bt41009.2.2.1 bt41009.2.2.2).bind fun t41013 => (if t41013 = true then (if x5.length < 17592186044416 then (spec_DirtyTiles.l0 k (x5 ++ [x6]) (wrap64 (x6 + 1)) x41002000 x41002001 x41002002 x41002003 x41003000 x41003001 x41003002 x41003003 x41003004 x41003005 x41003006 x41003007 x41003008) else (none)) else (spec_DirtyTiles.l0 k x5 (wrap64 (x6 + 1)) x41002000 x41002001 x41002002 x41002003 x41003000 x41003001 x41003002 x41003003 x41003004 x41003005 x41003006 x41003007 x41003008)))) else (some x5))
end
def spec_DirtyTiles.f (k : Nat) (a0_0 : Int) (a0_1 : Int) (a0_2 : Int) (l0_3 : List Int) (a1_0 : Int) (a1_1 : Int) (a1_2 : Int) (l1_3 : List Int) (a1_4 : Int) (a1_5 : Int) (a1_6 : Int) (a1_7 : Int) (a1_8 : Bool) : Option (List Int) := (some (([] : List Int) : List Int)).bind fun y41003 => ((spec_validImage.f k a0_0 a0_1 a0_2 l0_3).bind fun t41006 => (if t41006 = true then ((spec_validLayer.f k a1_0 a1_1 a1_2 l1_3 a1_4 a1_5 a1_6 a1_7 a1_8 a0_2).bind fun t41007 => (spec_DirtyTiles.j0 k y41003 (!t41007) a0_0 a0_1 a0_2 l0_3 a1_0 a1_1 a1_2 l1_3 a1_4 a1_5 a1_6 a1_7 a1_8)) else (spec_DirtyTiles.j0 k y41003 true a0_0 a0_1 a0_2 l0_3 a1_0 a1_1 a1_2 l1_3 a1_4 a1_5 a1_6 a1_7 a1_8)))
theorem spec_DirtyTiles.mono_l : ∀ k, (∀ y0 y1 y2 y3 y4 y5 y6 y7 y8 y9 y10 y11 y12 y13 y14, LeO (spec_DirtyTiles.j0 k y0 y1 y2 y3 y4 y5 y6 y7 y8 y9 y10 y11 y12 y13 y14) (spec_DirtyTiles.j0 (k + 1) y0 y1 y2 y3 y4 y5 y6 y7 y8 y9 y10 y11 y12 y13 y14)) ∧ (∀ y0 y1 y2 y3 y4 y5 y6 y7 y8 y9 y10 y11 y12 y13 y14, LeO (spec_DirtyTiles.l0 k y0 y1 y2 y3 y4 y5 y6 y7 y8 y9 y10 y11 y12 y13 y14) (spec_DirtyTiles.l0 (k + 1) y0 y1 y2 y3 y4 y5 y6 y7 y8 y9 y10 y11 y12 y13 y14))
  | 0 => ⟨fun _ _ _ _ _ _ _ _ _ _ _ _ _ _ _ r h => by simp [spec_DirtyTiles.j0] at h, fun _ _ _ _ _ _ _ _ _ _ _ _ _ _ _ r h => by simp [spec_DirtyTiles.l0] at h⟩
  | k + 1 => by
    obtain ⟨ih0, ih1⟩ := spec_DirtyTiles.mono_l k
    refine ⟨?_, ?_⟩
    · intro y0 y1 y2 y3 y4 y5 y6 y7 y8 y9 y10 y11 y12 y13 y14
      unfold spec_DirtyTiles.j0
      repeat' first
      | (with_reducible exact ih0 _ _ _ _ _ _ _ _ _ _ _ _ _ _ _)
      | (with_reducible exact ih1 _ _ _ _ _ _ _ _ _ _ _ _ _ _ _)
      | (with_reducible exact spec_validImage.mono _ _ _ _ _)
      | (with_reducible exact spec_validLayer.mono _ _ _ _ _ _ _ _ _ _ _)
      | (with_reducible exact LeO.refl _)
      | (with_reducible exact LeO.none _)
      | (with_reducible refine LeO.ite ?_ ?_)
      | (with_reducible refine LeO.bind ?_ (fun _ => ?_))
      | exact ih0 _ _ _ _ _ _ _ _ _ _ _ _ _ _ _
      | exact ih1 _ _ _ _ _ _ _ _ _ _ _ _ _ _ _
      | exact spec_validImage.mono _ _ _ _ _
      | exact spec_validLayer.mono _ _ _ _ _ _ _ _ _ _ _
      | exact LeO.none _
      | refine LeO.ite ?_ ?_
      | refine LeO.bind ?_ (fun _ => ?_)
    · intro y0 y1 y2 y3 y4 y5 y6 y7 y8 y9 y10 y11 y12 y13 y14
      unfold spec_DirtyTiles.l0
      repeat' first
      | (with_reducible exact ih0 _ _ _ _ _ _ _ _ _ _ _ _ _ _ _)
      | (with_reducible exact ih1 _ _ _ _ _ _ _ _ _ _ _ _ _ _ _)
      | (with_reducible exact spec_validImage.mono _ _ _ _ _)
      | (with_reducible exact spec_validLayer.mono _ _ _ _ _ _ _ _ _ _ _)
      | (with_reducible exact LeO.refl _)
      | (with_reducible exact LeO.none _)
      | (with_reducible refine LeO.ite ?_ ?_)
      | (with_reducible refine LeO.bind ?_ (fun _ => ?_))
      | exact ih0 _ _ _ _ _ _ _ _ _ _ _ _ _ _ _
      | exact ih1 _ _ _ _ _ _ _ _ _ _ _ _ _ _ _
      | exact spec_validImage.mono _ _ _ _ _
      | exact spec_validLayer.mono _ _ _ _ _ _ _ _ _ _ _
      | exact LeO.none _
      | refine LeO.ite ?_ ?_
      | refine LeO.bind ?_ (fun _ => ?_)
theorem spec_DirtyTiles.mono : ∀ a0 a1 a2 a3 a4 a5 a6 a7 a8 a9 a10 a11 a12 k, LeO (spec_DirtyTiles.f k a0 a1 a2 a3 a4 a5 a6 a7 a8 a9 a10 a11 a12) (spec_DirtyTiles.f (k + 1) a0 a1 a2 a3 a4 a5 a6 a7 a8 a9 a10 a11 a12) := by
  intro a0 a1 a2 a3 a4 a5 a6 a7 a8 a9 a10 a11 a12 k
  obtain ⟨ih0, ih1⟩ := spec_DirtyTiles.mono_l k
  unfold spec_DirtyTiles.f
  repeat' first
      | (with_reducible exact ih0 _ _ _ _ _ _ _ _ _ _ _ _ _ _ _)
      | (with_reducible exact ih1 _ _ _ _ _ _ _ _ _ _ _ _ _ _ _)
      | (with_reducible exact spec_validImage.mono _ _ _ _ _)
      | (with_reducible exact spec_validLayer.mono _ _ _ _ _ _ _ _ _ _ _)
      | (with_reducible exact LeO.refl _)
      | (with_reducible exact LeO.none _)
      | (with_reducible refine LeO.ite ?_ ?_)
      | (with_reducible refine LeO.bind ?_ (fun _ => ?_))
      | exact ih0 _ _ _ _ _ _ _ _ _ _ _ _ _ _ _
      | exact ih1 _ _ _ _ _ _ _ _ _ _ _ _ _ _ _
      | exact spec_validImage.mono _ _ _ _ _
      | exact spec_validLayer.mono _ _ _ _ _ _ _ _ _ _ _
      | exact LeO.none _
      | refine LeO.ite ?_ ?_
      | refine LeO.bind ?_ (fun _ => ?_)
set_option maxHeartbeats 8000000 in
set_option maxRecDepth 100000 in
theorem spec_DirtyTiles.calls (k : Nat) (a0_0 : Int) (a0_1 : Int) (a0_2 : Int) (A0_3 : Option Addr) (c0_3 : Nat) (l0_3 : List Int) (a1_0 : Int) (a1_1 : Int) (a1_2 : Int) (A1_3 : Option Addr) (c1_3 : Nat) (l1_3 : List Int) (a1_4 : Int) (a1_5 : Int) (a1_6 : Int) (a1_7 : Int) (a1_8 : Bool) (r : List Int) (w : World) (hr0_3 : Kd.C (Kd.int .i64) w A0_3 l0_3.length l0_3) (hc0_3 : l0_3.length ≤ c0_3) (hr1_3 : Kd.C (Kd.int .i64) w A1_3 l1_3.length l1_3) (hc1_3 : l1_3.length ≤ c1_3) (h : spec_DirtyTiles.f k a0_0 a0_1 a0_2 l0_3 a1_0 a1_1 a1_2 l1_3 a1_4 a1_5 a1_6 a1_7 a1_8 = some r) :
    Calls Try.prog 40 #[.agg #[.int .i64 a0_0, .int .i64 a0_1, .int .i64 a0_2, .slice A0_3 l0_3.length c0_3], .agg #[.int .i64 a1_0, .int .i64 a1_1, .int .i64 a1_2, .slice A1_3 l1_3.length c1_3, .int .i64 a1_4, .int .i64 a1_5, .int .i64 a1_6, .int .i64 a1_7, .bool a1_8]] w fun e w' => ∃ v0_ : Value, e = .returned (v0_) ∧ Kd.R (Kd.int .i64) 3 w' w.heap.size (fun _ => True) v0_ r ∧ Below w.heap.size w w' := by
  have hu27 := Try.underlying27
  have hu55 := Try.underlying55
  have HR0_3 := Aside0.mk hr0_3
  have HC0_3 := Aside0.mk hc0_3
  clear hr0_3 hc0_3
  have HR1_3 := Aside0.mk hr1_3
  have HC1_3 := Aside0.mk hc1_3
  clear hr1_3 hc1_3
  have HB := Aside0.mk (Below.refl w.heap.size w)
  have H : ((some (([] : List Int) : List Int)).bind fun y41003 => ((spec_validImage.f k a0_0 a0_1 a0_2 l0_3).bind fun t41006 => (if t41006 = true then ((spec_validLayer.f k a1_0 a1_1 a1_2 l1_3 a1_4 a1_5 a1_6 a1_7 a1_8 a0_2).bind fun t41007 => (spec_DirtyTiles.j0 k y41003 (!t41007) a0_0 a0_1 a0_2 l0_3 a1_0 a1_1 a1_2 l1_3 a1_4 a1_5 a1_6 a1_7 a1_8)) else (spec_DirtyTiles.j0 k y41003 true a0_0 a0_1 a0_2 l0_3 a1_0 a1_1 a1_2 l1_3 a1_4 a1_5 a1_6 a1_7 a1_8)))) = some r := h
  clear h
  obtain ⟨y41003, hy41003⟩ : ∃ y_ : List Int, y_ = (([] : List Int)) := ⟨_, rfl⟩
  replace H : ((spec_validImage.f k a0_0 a0_1 a0_2 l0_3).bind fun t41006 => (if t41006 = true then ((spec_validLayer.f k a1_0 a1_1 a1_2 l1_3 a1_4 a1_5 a1_6 a1_7 a1_8 a0_2).bind fun t41007 => (spec_DirtyTiles.j0 k y41003 (!t41007) a0_0 a0_1 a0_2 l0_3 a1_0 a1_1 a1_2 l1_3 a1_4 a1_5 a1_6 a1_7 a1_8)) else (spec_DirtyTiles.j0 k y41003 true a0_0 a0_1 a0_2 l0_3 a1_0 a1_1 a1_2 l1_3 a1_4 a1_5 a1_6 a1_7 a1_8))) = some r := by first | (rw [hy41003]; with_reducible exact H) | (have H2_ := (Option.bind_some _ _).symm.trans H; rw [hy41003]; with_reducible exact H2_) | (have H2_ := (Option.bind_some _ _).symm.trans H; with_reducible exact H2_) | with_reducible exact H | (rw [hy41003]; exact H) | exact H
  have Ny41003 := Aside0.mk hy41003
  clear hy41003
  have HC3 := Aside0.mk H
  clear H
  go_enter Try.func40, Try.ntmps40
  go_upto_region 2 with (first | ((with_reducible refine gate_dst (N := 2) rfl ?_); refine box_event ?hg (N := 2) ?hd (cs := #[.int .i64 a0_0, .int .i64 a0_1, .int .i64 a0_2, .slice A0_3 l0_3.length c0_3]) (t := 27) ?hr ?_; (case hd => rfl); (case hg => rfl); (case hr => first | (go_simp; done) | (go_simp; rfl)); intro gb41001 hg w4 hbox hb; have n0_ := Aside0.mk (below_step (by repeat (first | (with_reducible first | exact HB.out | apply below_alloc | apply pw_below_drewN | apply below_drew1) | exact HB.out)) hb); have n1_ := Aside0.mk (hbox); have n2_ := Aside0.mk ((by rw [hg]; exact (below_size (by repeat (first | (with_reducible first | exact HB.out | apply below_alloc | apply pw_below_drewN | apply below_drew1) | exact HB.out))) : w.heap.size ≤ gb41001)); have n3_ := Aside0.mk ((by rw [hg]; exact (below_size (by repeat (first | (with_reducible first | exact HB.out | apply below_alloc | apply pw_below_drewN | apply below_drew1) | exact HB.out))) : w.heap.size ≤ gb41001)); clear HB; have HB := n0_; have BK41001 := n1_; have GW41001 := n2_; have GE41001 := n3_; clear n0_ n1_ n2_ n3_; clear hb hbox hg) | ((with_reducible refine gate_dst (N := 3) rfl ?_); refine box_event ?hg (N := 3) ?hd (cs := #[.int .i64 a1_0, .int .i64 a1_1, .int .i64 a1_2, .slice A1_3 l1_3.length c1_3, .int .i64 a1_4, .int .i64 a1_5, .int .i64 a1_6, .int .i64 a1_7, .bool a1_8]) (t := 55) ?hr ?_; (case hd => rfl); (case hg => rfl); (case hr => first | (go_simp; done) | (go_simp; rfl)); intro gb41002 hg w5 hbox hb; have n0_ := Aside0.mk (blk_below (g := gb41001) (o := .cells #[.int .i64 a0_0, .int .i64 a0_1, .int .i64 a0_2, .slice A0_3 l0_3.length c0_3] 27 (0, 0)) (by (with_reducible repeat (first | refine blk_drewN ?_ _ | refine blk_drew ?_ | refine blk_alloc ?_ _)); exact BK41001.out) hb); have n1_ := Aside0.mk (below_step (by repeat (first | (with_reducible first | exact HB.out | apply below_alloc | apply pw_below_drewN | apply below_drew1 | refine below_set ?_ GE41001.out) | exact HB.out)) hb); have n2_ := Aside0.mk (hbox); have n3_ := Aside0.mk ((by rw [hg]; exact (below_size (by repeat (first | (with_reducible first | exact HB.out | apply below_alloc | apply pw_below_drewN | apply below_drew1 | refine below_set ?_ GE41001.out) | exact HB.out))) : w.heap.size ≤ gb41002)); have n4_ := Aside0.mk ((by rw [hg]; exact (below_size (by repeat (first | (with_reducible first | exact HB.out | apply below_alloc | apply pw_below_drewN | apply below_drew1 | refine below_set ?_ GE41001.out) | exact HB.out))) : w.heap.size ≤ gb41002)); have n5_ := Aside0.mk ((by rw [hg]; exact Nat.ne_of_lt (blk_lt (g := gb41001) (o := .cells #[.int .i64 a0_0, .int .i64 a0_1, .int .i64 a0_2, .slice A0_3 l0_3.length c0_3] 27 (0, 0)) (by (with_reducible repeat (first | refine blk_drewN ?_ _ | refine blk_drew ?_ | refine blk_alloc ?_ _)); exact BK41001.out)) : gb41001 ≠ gb41002)); have n6_ := Aside0.mk ((by rw [hg]; exact Nat.ne_of_gt (blk_lt (g := gb41001) (o := .cells #[.int .i64 a0_0, .int .i64 a0_1, .int .i64 a0_2, .slice A0_3 l0_3.length c0_3] 27 (0, 0)) (by (with_reducible repeat (first | refine blk_drewN ?_ _ | refine blk_drew ?_ | refine blk_alloc ?_ _)); exact BK41001.out)) : gb41002 ≠ gb41001)); clear BK41001; clear HB; have BK41001 := n0_; have HB := n1_; have BK41002 := n2_; have GW41002 := n3_; have GE41002 := n4_; have NB41001_41002 := n5_; have NB41002_41001 := n6_; clear n0_ n1_ n2_ n3_ n4_ n5_ n6_; clear hb hbox hg) | ((with_reducible refine gate_dst (N := 7) rfl ?_); refine Kd.R_lit (Kd.int .i64) _ 3 ?hg (N := 7) ?hd (xs := ([] : List Int)) (inner := []) (ok := fun _ => True) (okp := fun _ => True) ?hr ?hp (fun _ hk => hk) trivial (Below.refl _ _) (Nat.le_refl _) (by simp) ?_; (case hd => rfl); (case hg => rfl); (case hr => first | (go_simp; done) | (go_simp; rfl)); (case hp => exact (Reps.none _ _)); intro v41004 w6 ho7 hb hg_ hnew_; clear hg_ hnew_; (first | rw [← Ny41003.out] at ho7 | (simp only [Int.reduceToNat] at ho7; rw [← Ny41003.out] at ho7)); have n0_ := Aside0.mk (Kd.R_lower ho7 (below_size (by repeat (first | (with_reducible first | exact HB.out | apply below_alloc | apply pw_below_drewN | apply below_drew1 | refine below_set ?_ GE41001.out | refine below_set ?_ GE41002.out) | exact HB.out)))); have n1_ := Aside0.mk (blk_below (g := gb41001) (o := .cells #[.int .i64 a0_0, .int .i64 a0_1, .int .i64 a0_2, .slice A0_3 l0_3.length c0_3] 27 (0, 0)) (by (with_reducible repeat (first | refine blk_drewN ?_ _ | refine blk_drew ?_ | refine blk_alloc ?_ _)); exact BK41001.out) hb); have n2_ := Aside0.mk (blk_below (g := gb41002) (o := .cells #[.int .i64 a1_0, .int .i64 a1_1, .int .i64 a1_2, .slice A1_3 l1_3.length c1_3, .int .i64 a1_4, .int .i64 a1_5, .int .i64 a1_6, .int .i64 a1_7, .bool a1_8] 55 (0, 0)) (by (with_reducible repeat (first | refine blk_drewN ?_ _ | refine blk_drew ?_ | refine blk_alloc ?_ _)); exact BK41002.out) hb); have n3_ := Aside0.mk (below_step (by repeat (first | (with_reducible first | exact HB.out | apply below_alloc | apply pw_below_drewN | apply below_drew1 | refine below_set ?_ GE41001.out | refine below_set ?_ GE41002.out) | exact HB.out)) hb); clear BK41001; clear BK41002; clear HB; have HO41005 := n0_; have BK41001 := n1_; have BK41002 := n2_; have HB := n3_; clear n0_ n1_ n2_ n3_; clear hb ho7))
  (try simp only [Act.put, List.setIfInBounds_toArray, List.set_cons_zero, List.set_cons_succ])
  go_cut [17] (fun v17 wc => ∃ (kq : Nat) (x17_2 : Bool), v17 = .bool x17_2 ∧ Aside0 (spec_DirtyTiles.j0 kq y41003 x17_2 a0_0 a0_1 a0_2 l0_3 a1_0 a1_1 a1_2 l1_3 a1_4 a1_5 a1_6 a1_7 a1_8 = some r) ∧ Aside0 (kq ≤ k) ∧ Aside0 (Kd.R (Kd.int .i64) 3 wc w.heap.size (fun _ => True) v41004 y41003) ∧ Aside0 (wc.heap[gb41001]? = some (.cells #[.int .i64 a0_0, .int .i64 a0_1, .int .i64 a0_2, (.slice A0_3 l0_3.length c0_3)] 27 (0, 0))) ∧ Aside0 (wc.heap[gb41002]? = some (.cells #[.int .i64 a1_0, .int .i64 a1_1, .int .i64 a1_2, (.slice A1_3 l1_3.length c1_3), .int .i64 a1_4, .int .i64 a1_5, .int .i64 a1_6, .int .i64 a1_7, .bool a1_8] 55 (0, 0))) ∧ Aside0 (Below w.heap.size w wc))
  case first =>
    have H := HC3.out
    clear HC3
    replace H := Option.bind_eq_some_iff.mp H
    obtain ⟨t41006, A80, H⟩ := H
    replace H : (if t41006 = true then ((spec_validLayer.f k a1_0 a1_1 a1_2 l1_3 a1_4 a1_5 a1_6 a1_7 a1_8 a0_2).bind fun t41007 => (spec_DirtyTiles.j0 k y41003 (!t41007) a0_0 a0_1 a0_2 l0_3 a1_0 a1_1 a1_2 l1_3 a1_4 a1_5 a1_6 a1_7 a1_8)) else (spec_DirtyTiles.j0 k y41003 true a0_0 a0_1 a0_2 l0_3 a1_0 a1_1 a1_2 l1_3 a1_4 a1_5 a1_6 a1_7 a1_8)) = some r := H
    have A8 := Aside0.mk A80
    clear A80
    by_cases c9 : t41006 = true
    · subst c9
      have H1 : ((spec_validLayer.f k a1_0 a1_1 a1_2 l1_3 a1_4 a1_5 a1_6 a1_7 a1_8 a0_2).bind fun t41007 => (spec_DirtyTiles.j0 k y41003 (!t41007) a0_0 a0_1 a0_2 l0_3 a1_0 a1_1 a1_2 l1_3 a1_4 a1_5 a1_6 a1_7 a1_8)) = some r := by rw [if_pos rfl] at H; exact H
      clear H
      have H := H1
      clear H1
      replace H := Option.bind_eq_some_iff.mp H
      obtain ⟨t41007, A100, H⟩ := H
      replace H : (spec_DirtyTiles.j0 k y41003 (!t41007) a0_0 a0_1 a0_2 l0_3 a1_0 a1_1 a1_2 l1_3 a1_4 a1_5 a1_6 a1_7 a1_8) = some r := H
      have A10 := Aside0.mk A100
      clear A100
      have H' := Aside0.mk H
      clear H
      have hnb11 := NB41001_41002.out
      have hnc11 := NB41002_41001.out
      have hcz12_0 : w6.cell? ⟨gb41001, 0, none⟩ = some (.int .i64 a0_0) := (blk_cell BK41001.out 0).trans rfl
      have hcz12_1 : w6.cell? ⟨gb41001, 1, none⟩ = some (.int .i64 a0_1) := (blk_cell BK41001.out 1).trans rfl
      have hcz12_2 : w6.cell? ⟨gb41001, 2, none⟩ = some (.int .i64 a0_2) := (blk_cell BK41001.out 2).trans rfl
      have hcz12_3 : w6.cell? ⟨gb41001, 3, none⟩ = some (.slice A0_3 l0_3.length c0_3) := (blk_cell BK41001.out 3).trans rfl
      have hfz12_0 := blk_frozen BK41001.out 0
      have hfz12_1 := blk_frozen BK41001.out 1
      have hfz12_2 := blk_frozen BK41001.out 2
      have hfz12_3 := blk_frozen BK41001.out 3
      go_wp2_with (first | ((with_reducible refine gate_callee (f := 89) rfl ?_); refine goesL_ (some 9) rfl rfl Try.func89 (by kernel_rfl) rfl #[.agg #[.int .i64 a0_0, .int .i64 a0_1, .int .i64 a0_2, .slice A0_3 l0_3.length c0_3]] rfl (by (try simp only [List.map_toArray, List.map_cons, List.map_nil]); first | done | rfl | (simp only [List.length_drop, List.length_take]; rfl)) ?_; (with_reducible refine (spec_validImage.calls k a0_0 a0_1 a0_2 _ _ l0_3 true _ ?side1 ?side2 A8.out).mono ?_); (case side1 => repeat (first | exact (Kd.C_below HR0_3.out HB.out) | (with_reducible refine Kd.C_alloc ?_ _) | (with_reducible refine Kd.C_drewN ?_ _) | (with_reducible refine Kd.C_drew ?_))); (case side2 => exact HC0_3.out); rintro e w13 ⟨rfl, hb⟩; refine ⟨_, rfl, ?_⟩; have n0_ := Aside0.mk (Kd.R_below (by (with_reducible repeat (first | apply Kd.R_alloc | apply Kd.R_drewN | apply Kd.R_drew)); exact HO41005.out) hb); have n1_ := Aside0.mk (blk_below (g := gb41001) (o := .cells #[.int .i64 a0_0, .int .i64 a0_1, .int .i64 a0_2, .slice A0_3 l0_3.length c0_3] 27 (0, 0)) (by (with_reducible repeat (first | refine blk_drewN ?_ _ | refine blk_drew ?_ | refine blk_alloc ?_ _)); exact BK41001.out) hb); have n2_ := Aside0.mk (blk_below (g := gb41002) (o := .cells #[.int .i64 a1_0, .int .i64 a1_1, .int .i64 a1_2, .slice A1_3 l1_3.length c1_3, .int .i64 a1_4, .int .i64 a1_5, .int .i64 a1_6, .int .i64 a1_7, .bool a1_8] 55 (0, 0)) (by (with_reducible repeat (first | refine blk_drewN ?_ _ | refine blk_drew ?_ | refine blk_alloc ?_ _)); exact BK41002.out) hb); have n3_ := Aside0.mk (below_step (by repeat (first | (with_reducible first | exact HB.out | apply below_alloc | apply pw_below_drewN | apply below_drew1 | refine below_set ?_ GE41001.out | refine below_set ?_ GE41002.out) | exact HB.out)) hb); clear HO41005; clear BK41001; clear BK41002; clear HB; have HO41005 := n0_; have BK41001 := n1_; have BK41002 := n2_; have HB := n3_; clear n0_ n1_ n2_ n3_; (try clear hb); (try clear hb2); (try clear hk); (try clear hi); have hcz14_0 : w13.cell? ⟨gb41002, 0, none⟩ = some (.int .i64 a1_0) := (blk_cell BK41002.out 0).trans rfl; have hcz14_1 : w13.cell? ⟨gb41002, 1, none⟩ = some (.int .i64 a1_1) := (blk_cell BK41002.out 1).trans rfl; have hcz14_2 : w13.cell? ⟨gb41002, 2, none⟩ = some (.int .i64 a1_2) := (blk_cell BK41002.out 2).trans rfl; have hcz14_3 : w13.cell? ⟨gb41002, 3, none⟩ = some (.slice A1_3 l1_3.length c1_3) := (blk_cell BK41002.out 3).trans rfl; have hcz14_4 : w13.cell? ⟨gb41002, 4, none⟩ = some (.int .i64 a1_4) := (blk_cell BK41002.out 4).trans rfl; have hcz14_5 : w13.cell? ⟨gb41002, 5, none⟩ = some (.int .i64 a1_5) := (blk_cell BK41002.out 5).trans rfl; have hcz14_6 : w13.cell? ⟨gb41002, 6, none⟩ = some (.int .i64 a1_6) := (blk_cell BK41002.out 6).trans rfl; have hcz14_7 : w13.cell? ⟨gb41002, 7, none⟩ = some (.int .i64 a1_7) := (blk_cell BK41002.out 7).trans rfl; have hcz14_8 : w13.cell? ⟨gb41002, 8, none⟩ = some (.bool a1_8) := (blk_cell BK41002.out 8).trans rfl; have hfz14_0 := blk_frozen BK41002.out 0; have hfz14_1 := blk_frozen BK41002.out 1; have hfz14_2 := blk_frozen BK41002.out 2; have hfz14_3 := blk_frozen BK41002.out 3; have hfz14_4 := blk_frozen BK41002.out 4; have hfz14_5 := blk_frozen BK41002.out 5; have hfz14_6 := blk_frozen BK41002.out 6; have hfz14_7 := blk_frozen BK41002.out 7; have hfz14_8 := blk_frozen BK41002.out 8; have hcz15_0 : w13.cell? ⟨gb41001, 0, none⟩ = some (.int .i64 a0_0) := (blk_cell BK41001.out 0).trans rfl; have hcz15_1 : w13.cell? ⟨gb41001, 1, none⟩ = some (.int .i64 a0_1) := (blk_cell BK41001.out 1).trans rfl; have hcz15_2 : w13.cell? ⟨gb41001, 2, none⟩ = some (.int .i64 a0_2) := (blk_cell BK41001.out 2).trans rfl; have hcz15_3 : w13.cell? ⟨gb41001, 3, none⟩ = some (.slice A0_3 l0_3.length c0_3) := (blk_cell BK41001.out 3).trans rfl; have hfz15_0 := blk_frozen BK41001.out 0; have hfz15_1 := blk_frozen BK41001.out 1; have hfz15_2 := blk_frozen BK41001.out 2; have hfz15_3 := blk_frozen BK41001.out 3) | (go_at_call 101; (with_reducible refine (spec_validLayer.calls k a1_0 a1_1 a1_2 _ _ l1_3 a1_4 a1_5 a1_6 a1_7 a1_8 a0_2 t41007 _ ?side1 ?side2 A10.out).mono ?_); (case side1 => repeat (first | exact (Kd.C_below HR1_3.out HB.out) | (with_reducible refine Kd.C_alloc ?_ _) | (with_reducible refine Kd.C_drewN ?_ _) | (with_reducible refine Kd.C_drew ?_))); (case side2 => exact HC1_3.out); rintro e w16 ⟨rfl, hb⟩; have n0_ := Aside0.mk (Kd.R_below (by (with_reducible repeat (first | apply Kd.R_alloc | apply Kd.R_drewN | apply Kd.R_drew)); exact HO41005.out) hb); have n1_ := Aside0.mk (blk_below (g := gb41001) (o := .cells #[.int .i64 a0_0, .int .i64 a0_1, .int .i64 a0_2, .slice A0_3 l0_3.length c0_3] 27 (0, 0)) (by (with_reducible repeat (first | refine blk_drewN ?_ _ | refine blk_drew ?_ | refine blk_alloc ?_ _)); exact BK41001.out) hb); have n2_ := Aside0.mk (blk_below (g := gb41002) (o := .cells #[.int .i64 a1_0, .int .i64 a1_1, .int .i64 a1_2, .slice A1_3 l1_3.length c1_3, .int .i64 a1_4, .int .i64 a1_5, .int .i64 a1_6, .int .i64 a1_7, .bool a1_8] 55 (0, 0)) (by (with_reducible repeat (first | refine blk_drewN ?_ _ | refine blk_drew ?_ | refine blk_alloc ?_ _)); exact BK41002.out) hb); have n3_ := Aside0.mk (below_step (by repeat (first | (with_reducible first | exact HB.out | apply below_alloc | apply pw_below_drewN | apply below_drew1 | refine below_set ?_ GE41001.out | refine below_set ?_ GE41002.out) | exact HB.out)) hb); clear HO41005; clear BK41001; clear BK41002; clear HB; have HO41005 := n0_; have BK41001 := n1_; have BK41002 := n2_; have HB := n3_; clear n0_ n1_ n2_ n3_; (try clear hb); (try clear hb2); (try clear hk); (try clear hi)))
      go_meet
      case rel => exact ⟨_, (!t41007), (by first | rfl | (simp; done) | (simp [*]; done)), H', ⟨by first | omega | exact Nat.le_refl _⟩, ⟨by (with_reducible repeat (first | apply Kd.R_alloc | apply Kd.R_drewN | apply Kd.R_drew)); exact HO41005.out⟩, ⟨by (with_reducible repeat (first | refine blk_drewN ?_ _ | refine blk_drew ?_ | refine blk_alloc ?_ _)); exact BK41001.out⟩, ⟨by (with_reducible repeat (first | refine blk_drewN ?_ _ | refine blk_drew ?_ | refine blk_alloc ?_ _)); exact BK41002.out⟩, ⟨by repeat (first | (with_reducible first | exact HB.out | apply below_alloc | apply pw_below_drewN | apply below_drew1 | refine below_set ?_ GE41001.out | refine below_set ?_ GE41002.out) | exact HB.out)⟩⟩
    · replace c9 := Bool.eq_false_iff.mpr c9
      subst c9
      have H1 : (spec_DirtyTiles.j0 k y41003 true a0_0 a0_1 a0_2 l0_3 a1_0 a1_1 a1_2 l1_3 a1_4 a1_5 a1_6 a1_7 a1_8) = some r := by rw [if_neg (show ¬ (false = true) by decide)] at H; exact H
      clear H
      have H := H1
      clear H1
      have H' := Aside0.mk H
      clear H
      have hnb17 := NB41001_41002.out
      have hnc17 := NB41002_41001.out
      have hcz18_0 : w6.cell? ⟨gb41001, 0, none⟩ = some (.int .i64 a0_0) := (blk_cell BK41001.out 0).trans rfl
      have hcz18_1 : w6.cell? ⟨gb41001, 1, none⟩ = some (.int .i64 a0_1) := (blk_cell BK41001.out 1).trans rfl
      have hcz18_2 : w6.cell? ⟨gb41001, 2, none⟩ = some (.int .i64 a0_2) := (blk_cell BK41001.out 2).trans rfl
      have hcz18_3 : w6.cell? ⟨gb41001, 3, none⟩ = some (.slice A0_3 l0_3.length c0_3) := (blk_cell BK41001.out 3).trans rfl
      have hfz18_0 := blk_frozen BK41001.out 0
      have hfz18_1 := blk_frozen BK41001.out 1
      have hfz18_2 := blk_frozen BK41001.out 2
      have hfz18_3 := blk_frozen BK41001.out 3
      go_wp2_with (first | ((with_reducible refine gate_callee (f := 89) rfl ?_); refine goesL_ (some 9) rfl rfl Try.func89 (by kernel_rfl) rfl #[.agg #[.int .i64 a0_0, .int .i64 a0_1, .int .i64 a0_2, .slice A0_3 l0_3.length c0_3]] rfl (by (try simp only [List.map_toArray, List.map_cons, List.map_nil]); first | done | rfl | (simp only [List.length_drop, List.length_take]; rfl)) ?_; (with_reducible refine (spec_validImage.calls k a0_0 a0_1 a0_2 _ _ l0_3 false _ ?side1 ?side2 A8.out).mono ?_); (case side1 => repeat (first | exact (Kd.C_below HR0_3.out HB.out) | (with_reducible refine Kd.C_alloc ?_ _) | (with_reducible refine Kd.C_drewN ?_ _) | (with_reducible refine Kd.C_drew ?_))); (case side2 => exact HC0_3.out); rintro e w19 ⟨rfl, hb⟩; refine ⟨_, rfl, ?_⟩; have n0_ := Aside0.mk (Kd.R_below (by (with_reducible repeat (first | apply Kd.R_alloc | apply Kd.R_drewN | apply Kd.R_drew)); exact HO41005.out) hb); have n1_ := Aside0.mk (blk_below (g := gb41001) (o := .cells #[.int .i64 a0_0, .int .i64 a0_1, .int .i64 a0_2, .slice A0_3 l0_3.length c0_3] 27 (0, 0)) (by (with_reducible repeat (first | refine blk_drewN ?_ _ | refine blk_drew ?_ | refine blk_alloc ?_ _)); exact BK41001.out) hb); have n2_ := Aside0.mk (blk_below (g := gb41002) (o := .cells #[.int .i64 a1_0, .int .i64 a1_1, .int .i64 a1_2, .slice A1_3 l1_3.length c1_3, .int .i64 a1_4, .int .i64 a1_5, .int .i64 a1_6, .int .i64 a1_7, .bool a1_8] 55 (0, 0)) (by (with_reducible repeat (first | refine blk_drewN ?_ _ | refine blk_drew ?_ | refine blk_alloc ?_ _)); exact BK41002.out) hb); have n3_ := Aside0.mk (below_step (by repeat (first | (with_reducible first | exact HB.out | apply below_alloc | apply pw_below_drewN | apply below_drew1 | refine below_set ?_ GE41001.out | refine below_set ?_ GE41002.out) | exact HB.out)) hb); clear HO41005; clear BK41001; clear BK41002; clear HB; have HO41005 := n0_; have BK41001 := n1_; have BK41002 := n2_; have HB := n3_; clear n0_ n1_ n2_ n3_; (try clear hb); (try clear hb2); (try clear hk); (try clear hi)))
      go_meet
      case rel => exact ⟨_, (true), (by first | rfl | (simp; done) | (simp [*]; done)), H', ⟨by first | omega | exact Nat.le_refl _⟩, ⟨by (with_reducible repeat (first | apply Kd.R_alloc | apply Kd.R_drewN | apply Kd.R_drew)); exact HO41005.out⟩, ⟨by (with_reducible repeat (first | refine blk_drewN ?_ _ | refine blk_drew ?_ | refine blk_alloc ?_ _)); exact BK41001.out⟩, ⟨by (with_reducible repeat (first | refine blk_drewN ?_ _ | refine blk_drew ?_ | refine blk_alloc ?_ _)); exact BK41002.out⟩, ⟨by repeat (first | (with_reducible first | exact HB.out | apply below_alloc | apply pw_below_drewN | apply below_drew1 | refine below_set ?_ GE41001.out | refine below_set ?_ GE41002.out) | exact HB.out)⟩⟩
  case rest =>
    clear HC3
    try clear c1
    try clear p2
    try clear c4
    try clear c8
    try clear c9
    try clear c11
    try clear c17
    try clear hcz12_0
    try clear hcz12_1
    try clear hcz12_2
    try clear hcz12_3
    try clear hcz14_0
    try clear hcz14_1
    try clear hcz14_2
    try clear hcz14_3
    try clear hcz14_4
    try clear hcz14_5
    try clear hcz14_6
    try clear hcz14_7
    try clear hcz14_8
    try clear hcz15_0
    try clear hcz15_1
    try clear hcz15_2
    try clear hcz15_3
    try clear hcz18_0
    try clear hcz18_1
    try clear hcz18_2
    try clear hcz18_3
    try clear hfz12_0
    try clear hfz12_1
    try clear hfz12_2
    try clear hfz12_3
    try clear hfz14_0
    try clear hfz14_1
    try clear hfz14_2
    try clear hfz14_3
    try clear hfz14_4
    try clear hfz14_5
    try clear hfz14_6
    try clear hfz14_7
    try clear hfz14_8
    try clear hfz15_0
    try clear hfz15_1
    try clear hfz15_2
    try clear hfz15_3
    try clear hfz18_0
    try clear hfz18_1
    try clear hfz18_2
    try clear hfz18_3
    obtain ⟨kq, x17_2, rfl, HA, HJ2, HO_5, BK41001, BK41002, HB⟩ := hcut
    cases kq with
    | zero => exact absurd HA.out (by simp [spec_DirtyTiles.j0])
    | succ kj2 =>
      have H := HA.out
      clear HA
      simp only [spec_DirtyTiles.j0] at H
      by_cases c20 : x17_2 = true
      · subst c20
        have H1 : (some ([] : List Int)) = some r := by rw [if_pos rfl] at H; exact H
        clear H
        have H := H1
        clear H1
        obtain rfl := Option.some.inj H
        go_wp2
        go_ret
        exact ⟨_, by first | rfl | (simp [errW_none, errW_some] <;> rfl) | (simp [*, errW_none, errW_some] <;> rfl), by first | exact Kd.R_nil _ _ _ _ _ | exact Kd.N_nil _ _ _ _ _ | exact Kd.V_nil _ _ _ _ _ | exact Kd.Q_nil _ _ _ _ _ | exact Kd.S_nil _ _ _ _ _, by repeat (first | (with_reducible first | exact HB.out | apply below_alloc | apply pw_below_drewN | apply below_drew1 | refine below_set ?_ GE41001.out | refine below_set ?_ GE41002.out) | exact HB.out)⟩
      · replace c20 := Bool.eq_false_iff.mpr c20
        subst c20
        have H1 : (spec_DirtyTiles.l0 kj2 y41003 0 a0_0 a0_1 a0_2 l0_3 a1_0 a1_1 a1_2 l1_3 a1_4 a1_5 a1_6 a1_7 a1_8) = some r := by rw [if_neg (show ¬ (false = true) by decide)] at H; exact H
        clear H
        have H := H1
        clear H1
        have H' := Aside0.mk H
        clear H
        go_wp2
        go_loopg [5, 6] kj2 (fun kq v5 v6 w' => ∃ (x5_2 : List Int) (x6_2 : Int), v6 = .int .i64 x6_2 ∧ Aside0 (spec_DirtyTiles.l0 kq x5_2 x6_2 a0_0 a0_1 a0_2 l0_3 a1_0 a1_1 a1_2 l1_3 a1_4 a1_5 a1_6 a1_7 a1_8 = some r) ∧ Aside0 (kq ≤ kj2) ∧ Aside0 (Kd.R (Kd.int .i64) 3 w' w.heap.size (fun _ => True) v5 x5_2) ∧ Aside0 (w'.heap[gb41001]? = some (.cells #[.int .i64 a0_0, .int .i64 a0_1, .int .i64 a0_2, (.slice A0_3 l0_3.length c0_3)] 27 (0, 0))) ∧ Aside0 (w'.heap[gb41002]? = some (.cells #[.int .i64 a1_0, .int .i64 a1_1, .int .i64 a1_2, (.slice A1_3 l1_3.length c1_3), .int .i64 a1_4, .int .i64 a1_5, .int .i64 a1_6, .int .i64 a1_7, .bool a1_8] 55 (0, 0))) ∧ Aside0 (Below w.heap.size w w'))
        case atStart => exact ⟨(y41003), (0), (by first | rfl | (simp; done) | (simp [*]; done)), H', ⟨Nat.le_refl _⟩, ⟨by (with_reducible repeat (first | apply Kd.R_alloc | apply Kd.R_drewN | apply Kd.R_drew)); exact HO_5.out⟩, ⟨by (with_reducible repeat (first | refine blk_drewN ?_ _ | refine blk_drew ?_ | refine blk_alloc ?_ _)); exact BK41001.out⟩, ⟨by (with_reducible repeat (first | refine blk_drewN ?_ _ | refine blk_drew ?_ | refine blk_alloc ?_ _)); exact BK41002.out⟩, ⟨by repeat (first | (with_reducible first | exact HB.out | apply below_alloc | apply pw_below_drewN | apply below_drew1 | refine below_set ?_ GE41001.out | refine below_set ?_ GE41002.out) | exact HB.out)⟩⟩
        case round =>
          clear H'
          try clear c1
          try clear c2
          try clear p2
          try clear c4
          try clear c8
          try clear c9
          try clear c11
          try clear c17
          try clear c20
          try clear hcz12_0
          try clear hcz12_1
          try clear hcz12_2
          try clear hcz12_3
          try clear hcz14_0
          try clear hcz14_1
          try clear hcz14_2
          try clear hcz14_3
          try clear hcz14_4
          try clear hcz14_5
          try clear hcz14_6
          try clear hcz14_7
          try clear hcz14_8
          try clear hcz15_0
          try clear hcz15_1
          try clear hcz15_2
          try clear hcz15_3
          try clear hcz18_0
          try clear hcz18_1
          try clear hcz18_2
          try clear hcz18_3
          try clear hfz12_0
          try clear hfz12_1
          try clear hfz12_2
          try clear hfz12_3
          try clear hfz14_0
          try clear hfz14_1
          try clear hfz14_2
          try clear hfz14_3
          try clear hfz14_4
          try clear hfz14_5
          try clear hfz14_6
          try clear hfz14_7
          try clear hfz14_8
          try clear hfz15_0
          try clear hfz15_1
          try clear hfz15_2
          try clear hfz15_3
          try clear hfz18_0
          try clear hfz18_1
          try clear hfz18_2
          try clear hfz18_3
          try clear p2
          obtain ⟨x5_2, x6_2, rfl, HA, HK2, HO_5, BK41001, BK41002, HB⟩ := hrel
          cases gk with
          | zero => exact absurd HA.out (by simp [spec_DirtyTiles.l0])
          | succ k2 =>
            have H := HA.out
            clear HA
            simp only [spec_DirtyTiles.l0] at H
            replace H := Option.bind_eq_some_iff.mp H
            obtain ⟨t41008, A210, H⟩ := H
            replace H : (if x6_2 < t41008 then ((spec_tileBox.f a0_0 a0_1 a0_2 l0_3 x6_2).bind fun bt41009 => ((spec_touching.f a1_0 a1_1 a1_2 l1_3 a1_4 a1_5 a1_6 a1_7 a1_8 bt41009.1 bt41009.2.1 bt41009.2.2.1 bt41009.2.2.2).bind fun t41013 => (if t41013 = true then (if x5_2.length < 17592186044416 then (spec_DirtyTiles.l0 k2 (x5_2 ++ [x6_2]) (wrap64 (x6_2 + 1)) a0_0 a0_1 a0_2 l0_3 a1_0 a1_1 a1_2 l1_3 a1_4 a1_5 a1_6 a1_7 a1_8) else (none)) else (spec_DirtyTiles.l0 k2 x5_2 (wrap64 (x6_2 + 1)) a0_0 a0_1 a0_2 l0_3 a1_0 a1_1 a1_2 l1_3 a1_4 a1_5 a1_6 a1_7 a1_8)))) else (some x5_2)) = some r := H
            have A21 := Aside0.mk A210
            clear A210
            by_cases c22 : x6_2 < t41008
            · rw [if_pos c22] at H
              have c22b0 : decide (x6_2 < t41008) = true := decide_eq_true c22
              clear c22
              replace H := Option.bind_eq_some_iff.mp H
              obtain ⟨⟨t41009, t41010, t41011, t41012⟩, A230, H⟩ := H
              replace H : ((spec_touching.f a1_0 a1_1 a1_2 l1_3 a1_4 a1_5 a1_6 a1_7 a1_8 t41009 t41010 t41011 t41012).bind fun t41013 => (if t41013 = true then (if x5_2.length < 17592186044416 then (spec_DirtyTiles.l0 k2 (x5_2 ++ [x6_2]) (wrap64 (x6_2 + 1)) a0_0 a0_1 a0_2 l0_3 a1_0 a1_1 a1_2 l1_3 a1_4 a1_5 a1_6 a1_7 a1_8) else (none)) else (spec_DirtyTiles.l0 k2 x5_2 (wrap64 (x6_2 + 1)) a0_0 a0_1 a0_2 l0_3 a1_0 a1_1 a1_2 l1_3 a1_4 a1_5 a1_6 a1_7 a1_8))) = some r := H
              have A23 := Aside0.mk A230
              clear A230
              replace H := Option.bind_eq_some_iff.mp H
              obtain ⟨t41013, A240, H⟩ := H
              replace H : (if t41013 = true then (if x5_2.length < 17592186044416 then (spec_DirtyTiles.l0 k2 (x5_2 ++ [x6_2]) (wrap64 (x6_2 + 1)) a0_0 a0_1 a0_2 l0_3 a1_0 a1_1 a1_2 l1_3 a1_4 a1_5 a1_6 a1_7 a1_8) else (none)) else (spec_DirtyTiles.l0 k2 x5_2 (wrap64 (x6_2 + 1)) a0_0 a0_1 a0_2 l0_3 a1_0 a1_1 a1_2 l1_3 a1_4 a1_5 a1_6 a1_7 a1_8)) = some r := H
              have A24 := Aside0.mk A240
              clear A240
              by_cases c25 : t41013 = true
              · subst c25
                have H1 : (if x5_2.length < 17592186044416 then (spec_DirtyTiles.l0 k2 (x5_2 ++ [x6_2]) (wrap64 (x6_2 + 1)) a0_0 a0_1 a0_2 l0_3 a1_0 a1_1 a1_2 l1_3 a1_4 a1_5 a1_6 a1_7 a1_8) else (none)) = some r := by rw [if_pos rfl] at H; exact H
                clear H
                have H := H1
                clear H1
                by_cases c26 : x5_2.length < 17592186044416
                · rw [if_pos c26] at H
                  have LMc26 := Aside0.mk c26
                  clear c26
                  obtain ⟨y41014, hy41014⟩ : ∃ y_ : List Int, y_ = (x5_2 ++ [x6_2]) := ⟨_, rfl⟩
                  replace H : (spec_DirtyTiles.l0 k2 y41014 (wrap64 (x6_2 + 1)) a0_0 a0_1 a0_2 l0_3 a1_0 a1_1 a1_2 l1_3 a1_4 a1_5 a1_6 a1_7 a1_8) = some r := by first | (rw [hy41014]; with_reducible exact H) | (have H2_ := (Option.bind_some _ _).symm.trans H; rw [hy41014]; with_reducible exact H2_) | (have H2_ := (Option.bind_some _ _).symm.trans H; with_reducible exact H2_) | with_reducible exact H | (rw [hy41014]; exact H) | exact H
                  have Ny41014 := Aside0.mk hy41014
                  clear hy41014
                  have H' := Aside0.mk H
                  clear H
                  have hnb27 := NB41001_41002.out
                  have hnc27 := NB41002_41001.out
                  have hcz28_0 : wr.cell? ⟨gb41001, 0, none⟩ = some (.int .i64 a0_0) := (blk_cell BK41001.out 0).trans rfl
                  have hcz28_1 : wr.cell? ⟨gb41001, 1, none⟩ = some (.int .i64 a0_1) := (blk_cell BK41001.out 1).trans rfl
                  have hcz28_2 : wr.cell? ⟨gb41001, 2, none⟩ = some (.int .i64 a0_2) := (blk_cell BK41001.out 2).trans rfl
                  have hcz28_3 : wr.cell? ⟨gb41001, 3, none⟩ = some (.slice A0_3 l0_3.length c0_3) := (blk_cell BK41001.out 3).trans rfl
                  have hfz28_0 := blk_frozen BK41001.out 0
                  have hfz28_1 := blk_frozen BK41001.out 1
                  have hfz28_2 := blk_frozen BK41001.out 2
                  have hfz28_3 := blk_frozen BK41001.out 3
                  try go_wp2_with (first | ((with_reducible refine gate_callee (f := 90) rfl ?_); refine goesL_ (some 20) rfl rfl Try.func90 (by kernel_rfl) rfl #[.agg #[.int .i64 a0_0, .int .i64 a0_1, .int .i64 a0_2, .slice A0_3 l0_3.length c0_3]] rfl (by (try simp only [List.map_toArray, List.map_cons, List.map_nil]); first | done | rfl | (simp only [List.length_drop, List.length_take]; rfl)) ?_; (with_reducible refine (spec_tileCount.calls a0_0 a0_1 a0_2 _ _ l0_3 t41008 _ ?side1 ?side2 A21.out).mono ?_); (case side1 => repeat (first | exact (Kd.C_below HR0_3.out HB.out) | (with_reducible refine Kd.C_alloc ?_ _) | (with_reducible refine Kd.C_drewN ?_ _) | (with_reducible refine Kd.C_drew ?_))); (case side2 => exact HC0_3.out); rintro e w29 ⟨rfl, hb⟩; refine ⟨_, rfl, ?_⟩; have n0_ := Aside0.mk (Kd.R_below (by (with_reducible repeat (first | apply Kd.R_alloc | apply Kd.R_drewN | apply Kd.R_drew)); exact HO_5.out) hb); have n1_ := Aside0.mk (blk_below (g := gb41001) (o := .cells #[.int .i64 a0_0, .int .i64 a0_1, .int .i64 a0_2, .slice A0_3 l0_3.length c0_3] 27 (0, 0)) (by (with_reducible repeat (first | refine blk_drewN ?_ _ | refine blk_drew ?_ | refine blk_alloc ?_ _)); exact BK41001.out) hb); have n2_ := Aside0.mk (blk_below (g := gb41002) (o := .cells #[.int .i64 a1_0, .int .i64 a1_1, .int .i64 a1_2, .slice A1_3 l1_3.length c1_3, .int .i64 a1_4, .int .i64 a1_5, .int .i64 a1_6, .int .i64 a1_7, .bool a1_8] 55 (0, 0)) (by (with_reducible repeat (first | refine blk_drewN ?_ _ | refine blk_drew ?_ | refine blk_alloc ?_ _)); exact BK41002.out) hb); have n3_ := Aside0.mk (below_step (by repeat (first | (with_reducible first | exact HB.out | apply below_alloc | apply pw_below_drewN | apply below_drew1 | refine below_set ?_ GE41001.out | refine below_set ?_ GE41002.out) | exact HB.out)) hb); clear HO_5; clear BK41001; clear BK41002; clear HB; have HO_5 := n0_; have BK41001 := n1_; have BK41002 := n2_; have HB := n3_; clear n0_ n1_ n2_ n3_; (try clear hb); (try clear hb2); (try clear hk); (try clear hi)))
                  have n0_ := Aside0.mk (Kd.R_drew HO_5.out)
                  have n1_ := Aside0.mk (blk_drew BK41001.out)
                  have n2_ := Aside0.mk (blk_drew BK41002.out)
                  have n3_ := Aside0.mk (below_drew1 HB.out)
                  clear HO_5
                  clear BK41001
                  clear BK41002
                  clear HB
                  have HO_5 := n0_
                  have BK41001 := n1_
                  have BK41002 := n2_
                  have HB := n3_
                  clear n0_ n1_ n2_ n3_
                  refine start_ (n := 5) (S := fun w' => w'.cell? ⟨gb41002, 0, none⟩ = some (.int .i64 a1_0) ∧ w'.cell? ⟨gb41002, 1, none⟩ = some (.int .i64 a1_1) ∧ w'.cell? ⟨gb41002, 2, none⟩ = some (.int .i64 a1_2) ∧ w'.cell? ⟨gb41002, 3, none⟩ = some (.slice A1_3 l1_3.length c1_3) ∧ w'.cell? ⟨gb41002, 4, none⟩ = some (.int .i64 a1_4) ∧ w'.cell? ⟨gb41002, 5, none⟩ = some (.int .i64 a1_5) ∧ w'.cell? ⟨gb41002, 6, none⟩ = some (.int .i64 a1_6) ∧ w'.cell? ⟨gb41002, 7, none⟩ = some (.int .i64 a1_7) ∧ w'.cell? ⟨gb41002, 8, none⟩ = some (.bool a1_8) ∧ w'.cell? ⟨gb41001, 0, none⟩ = some (.int .i64 a0_0) ∧ w'.cell? ⟨gb41001, 1, none⟩ = some (.int .i64 a0_1) ∧ w'.cell? ⟨gb41001, 2, none⟩ = some (.int .i64 a0_2) ∧ w'.cell? ⟨gb41001, 3, none⟩ = some (.slice A0_3 l0_3.length c0_3)) (ds := []) #[false, false, false, false, false] (by kernel_rfl) rfl rfl ⟨(blk_cell BK41002.out 0).trans rfl, (blk_cell BK41002.out 1).trans rfl, (blk_cell BK41002.out 2).trans rfl, (blk_cell BK41002.out 3).trans rfl, (blk_cell BK41002.out 4).trans rfl, (blk_cell BK41002.out 5).trans rfl, (blk_cell BK41002.out 6).trans rfl, (blk_cell BK41002.out 7).trans rfl, (blk_cell BK41002.out 8).trans rfl, (blk_cell BK41001.out 0).trans rfl, (blk_cell BK41001.out 1).trans rfl, (blk_cell BK41001.out 2).trans rfl, (blk_cell BK41001.out 3).trans rfl⟩ (fun hHeld => ?_)
                  generalize w29.drew = w30 at HO_5 BK41001 BK41002 HB hHeld ⊢
                  refine pure_ (i := 2) (N := some 26) (v := ?_) (a' := ?_) #[false, false, true, false, false] rfl rfl (by kernel_rfl) (fun _ _ _ h => h) (Or.inl ⟨by rfl, ?_⟩) ?_ ?_
                  rotate_left
                  · intro w'
                    go_simp
                    with_reducible rfl
                  rotate_left
                  · simp only [Act.put, List.setIfInBounds_toArray, List.set_cons_zero, List.set_cons_succ, i64_w, i32_w]
                    rfl
                  refine take_ (i := 0) (N := some 24) (v := ?_) (a' := ?_) #[true, false, true, false, false] rfl rfl (by kernel_rfl) (fun _ _ _ h => h) (Or.inl ⟨by rfl, ?_⟩) hHeld ?_ ?_
                  rotate_left
                  · rintro w' ⟨s0, s1, s2, s3, s4, s5, s6, s7, s8, s9, s10, s11, s12⟩
                    go_simp
                    with_reducible rfl
                  rotate_left
                  · simp only [Act.put, List.setIfInBounds_toArray, List.set_cons_zero, List.set_cons_succ, i64_w, i32_w]
                    rfl
                  refine take_ (i := 1) (N := some 25) (v := ?_) (a' := ?_) #[true, true, true, false, false] rfl rfl (by kernel_rfl) (fun _ _ _ h => h) (Or.inl ⟨by rfl, ?_⟩) hHeld ?_ ?_
                  rotate_left
                  · rintro w' ⟨s0, s1, s2, s3, s4, s5, s6, s7, s8, s9, s10, s11, s12⟩
                    go_simp
                    with_reducible rfl
                  rotate_left
                  · simp only [Act.put, List.setIfInBounds_toArray, List.set_cons_zero, List.set_cons_succ, i64_w, i32_w]
                    rfl
                  refine one_ (i := 3) (N := some 27) #[true, true, true, true, false] rfl rfl (by kernel_rfl) (by decide) (fun K hK => ?_)
                  refine goes_ Try.func91 (by kernel_rfl) rfl #[.agg #[.int .i64 a0_0, .int .i64 a0_1, .int .i64 a0_2, .slice A0_3 l0_3.length c0_3], .int .i64 x6_2] (by rfl) rfl rfl (by (try simp only [List.map_toArray, List.map_cons, List.map_nil]); first | done | rfl | (simp only [List.length_drop, List.length_take]; rfl)) ?_
                  with_reducible refine (spec_tileBox.calls a0_0 a0_1 a0_2 _ _ l0_3 x6_2 t41009 t41010 t41011 t41012 _ ?side1 ?side2 A23.out).mono ?_
                  (case side1 => repeat (first | exact (Kd.C_below HR0_3.out HB.out) | (with_reducible refine Kd.C_alloc ?_ _) | (with_reducible refine Kd.C_drewN ?_ _) | (with_reducible refine Kd.C_drew ?_)))
                  (case side2 => exact HC0_3.out)
                  rintro e w31 ⟨rfl, hb⟩
                  refine ⟨_, rfl, ?_⟩
                  have n0_ := Aside0.mk (Kd.R_below (by (with_reducible repeat (first | apply Kd.R_alloc | apply Kd.R_drewN | apply Kd.R_drew)); exact HO_5.out) hb)
                  have n1_ := Aside0.mk (blk_below (g := gb41001) (o := .cells #[.int .i64 a0_0, .int .i64 a0_1, .int .i64 a0_2, .slice A0_3 l0_3.length c0_3] 27 (0, 0)) (by (with_reducible repeat (first | refine blk_drewN ?_ _ | refine blk_drew ?_ | refine blk_alloc ?_ _)); exact BK41001.out) hb)
                  have n2_ := Aside0.mk (blk_below (g := gb41002) (o := .cells #[.int .i64 a1_0, .int .i64 a1_1, .int .i64 a1_2, .slice A1_3 l1_3.length c1_3, .int .i64 a1_4, .int .i64 a1_5, .int .i64 a1_6, .int .i64 a1_7, .bool a1_8] 55 (0, 0)) (by (with_reducible repeat (first | refine blk_drewN ?_ _ | refine blk_drew ?_ | refine blk_alloc ?_ _)); exact BK41002.out) hb)
                  have n3_ := Aside0.mk (below_step (by repeat (first | (with_reducible first | exact HB.out | apply below_alloc | apply pw_below_drewN | apply below_drew1 | refine below_set ?_ GE41001.out | refine below_set ?_ GE41002.out) | exact HB.out)) hb)
                  clear HO_5
                  clear BK41001
                  clear BK41002
                  clear HB
                  have HO_5 := n0_
                  have BK41001 := n1_
                  have BK41002 := n2_
                  have HB := n3_
                  clear n0_ n1_ n2_ n3_
                  (try clear hb)
                  (try clear hb2)
                  (try clear hk)
                  (try clear hi)
                  refine hK.out _ _ ⟨(blk_cell BK41002.out 0).trans rfl, (blk_cell BK41002.out 1).trans rfl, (blk_cell BK41002.out 2).trans rfl, (blk_cell BK41002.out 3).trans rfl, (blk_cell BK41002.out 4).trans rfl, (blk_cell BK41002.out 5).trans rfl, (blk_cell BK41002.out 6).trans rfl, (blk_cell BK41002.out 7).trans rfl, (blk_cell BK41002.out 8).trans rfl, (blk_cell BK41001.out 0).trans rfl, (blk_cell BK41001.out 1).trans rfl, (blk_cell BK41001.out 2).trans rfl, (blk_cell BK41001.out 3).trans rfl⟩ (fun hHeld => ?_)
                  clear hK K
                  refine norm_ (a' := ?_) ?_ ?_
                  rotate_left
                  · show Act.put _ (some 27) _ = _
                    simp only [Act.put, List.setIfInBounds_toArray, List.set_cons_zero, List.set_cons_succ, i64_w, i32_w]
                    rfl
                  refine one_ (i := 4) (N := some 28) #[true, true, true, true, true] rfl rfl (by kernel_rfl) (by decide) (fun K hK => ?_)
                  refine goes_ Try.func102 (by kernel_rfl) rfl #[.agg #[.int .i64 a1_0, .int .i64 a1_1, .int .i64 a1_2, .slice A1_3 l1_3.length c1_3, .int .i64 a1_4, .int .i64 a1_5, .int .i64 a1_6, .int .i64 a1_7, .bool a1_8], .agg #[.int .i64 t41009, .int .i64 t41010, .int .i64 t41011, .int .i64 t41012]] (by rfl) rfl rfl (by (try simp only [List.map_toArray, List.map_cons, List.map_nil]); first | done | rfl | (simp only [List.length_drop, List.length_take]; rfl)) ?_
                  with_reducible refine (spec_touching.calls a1_0 a1_1 a1_2 _ _ l1_3 a1_4 a1_5 a1_6 a1_7 a1_8 t41009 t41010 t41011 t41012 true _ ?side1 ?side2 A24.out).mono ?_
                  (case side1 => repeat (first | exact (Kd.C_below HR1_3.out HB.out) | (with_reducible refine Kd.C_alloc ?_ _) | (with_reducible refine Kd.C_drewN ?_ _) | (with_reducible refine Kd.C_drew ?_)))
                  (case side2 => exact HC1_3.out)
                  rintro e w32 ⟨rfl, hb⟩
                  refine ⟨_, rfl, ?_⟩
                  have n0_ := Aside0.mk (Kd.R_below (by (with_reducible repeat (first | apply Kd.R_alloc | apply Kd.R_drewN | apply Kd.R_drew)); exact HO_5.out) hb)
                  have n1_ := Aside0.mk (blk_below (g := gb41001) (o := .cells #[.int .i64 a0_0, .int .i64 a0_1, .int .i64 a0_2, .slice A0_3 l0_3.length c0_3] 27 (0, 0)) (by (with_reducible repeat (first | refine blk_drewN ?_ _ | refine blk_drew ?_ | refine blk_alloc ?_ _)); exact BK41001.out) hb)
                  have n2_ := Aside0.mk (blk_below (g := gb41002) (o := .cells #[.int .i64 a1_0, .int .i64 a1_1, .int .i64 a1_2, .slice A1_3 l1_3.length c1_3, .int .i64 a1_4, .int .i64 a1_5, .int .i64 a1_6, .int .i64 a1_7, .bool a1_8] 55 (0, 0)) (by (with_reducible repeat (first | refine blk_drewN ?_ _ | refine blk_drew ?_ | refine blk_alloc ?_ _)); exact BK41002.out) hb)
                  have n3_ := Aside0.mk (below_step (by repeat (first | (with_reducible first | exact HB.out | apply below_alloc | apply pw_below_drewN | apply below_drew1 | refine below_set ?_ GE41001.out | refine below_set ?_ GE41002.out) | exact HB.out)) hb)
                  clear HO_5
                  clear BK41001
                  clear BK41002
                  clear HB
                  have HO_5 := n0_
                  have BK41001 := n1_
                  have BK41002 := n2_
                  have HB := n3_
                  clear n0_ n1_ n2_ n3_
                  (try clear hb)
                  (try clear hb2)
                  (try clear hk)
                  (try clear hi)
                  refine hK.out _ _ ⟨(blk_cell BK41002.out 0).trans rfl, (blk_cell BK41002.out 1).trans rfl, (blk_cell BK41002.out 2).trans rfl, (blk_cell BK41002.out 3).trans rfl, (blk_cell BK41002.out 4).trans rfl, (blk_cell BK41002.out 5).trans rfl, (blk_cell BK41002.out 6).trans rfl, (blk_cell BK41002.out 7).trans rfl, (blk_cell BK41002.out 8).trans rfl, (blk_cell BK41001.out 0).trans rfl, (blk_cell BK41001.out 1).trans rfl, (blk_cell BK41001.out 2).trans rfl, (blk_cell BK41001.out 3).trans rfl⟩ (fun hHeld => ?_)
                  clear hK K
                  refine norm_ (a' := ?_) ?_ ?_
                  rotate_left
                  · show Act.put _ (some 28) _ = _
                    simp only [Act.put, List.setIfInBounds_toArray, List.set_cons_zero, List.set_cons_succ, i64_w, i32_w]
                    rfl
                  refine done_ (by kernel_rfl) ?_
                  try go_wp2_with (first | ((with_reducible refine gate_builtin (b := .append) (xs := #[.tmp 29, .tmp 31]) rfl ?_); at_builtin; refine Kd.R_append (Kd.int .i64) (w0 := w) w.heap.size rfl (.tmp 29) (.tmp 31) 22 3 (.int .i64 0) 8 rfl Try.underlying22 info3 rfl (by decide) (by omega) u5 x5_2 x6_2 [.int .i64 x6_2] (fun _ => True) (fun _ => False) rfl rfl ?aP (fun _ hk => hk.elim) ?aF ?aO ?aB ?aS ?aL ?_; (case aP => exact rfl); (case aB => exact (by repeat (first | (with_reducible first | exact HB.out | apply below_alloc | apply pw_below_drewN | apply below_drew1 | refine below_set ?_ GE41001.out | refine below_set ?_ GE41002.out) | exact HB.out))); (case aF => exact (fun _ _ => trivial)); (case aO => exact (by (with_reducible repeat (first | apply Kd.R_alloc | apply Kd.R_drewN | apply Kd.R_drew)); exact HO_5.out)); (case aS => exact (below_size (by repeat (first | (with_reducible first | exact HB.out | apply below_alloc | apply pw_below_drewN | apply below_drew1 | refine below_set ?_ GE41001.out | refine below_set ?_ GE41002.out) | exact HB.out)))); (case aL => have := LMc26.out; omega); intro v41015 w33 ho hb hg hat; rw [← Ny41014.out] at ho; have n0_ := Aside0.mk (blk_grown (g := gb41001) (o := .cells #[.int .i64 a0_0, .int .i64 a0_1, .int .i64 a0_2, .slice A0_3 l0_3.length c0_3] 27 (0, 0)) (by (with_reducible repeat (first | refine blk_drewN ?_ _ | refine blk_drew ?_ | refine blk_alloc ?_ _)); exact BK41001.out) hg (Kd.R_ne HO_5.out BK41001.out (by decide))); have n1_ := Aside0.mk (blk_grown (g := gb41002) (o := .cells #[.int .i64 a1_0, .int .i64 a1_1, .int .i64 a1_2, .slice A1_3 l1_3.length c1_3, .int .i64 a1_4, .int .i64 a1_5, .int .i64 a1_6, .int .i64 a1_7, .bool a1_8] 55 (0, 0)) (by (with_reducible repeat (first | refine blk_drewN ?_ _ | refine blk_drew ?_ | refine blk_alloc ?_ _)); exact BK41002.out) hg (Kd.R_ne HO_5.out BK41002.out (by decide))); have n2_ := Aside0.mk (hb); have n3_ := Aside0.mk (ho); clear BK41001; clear BK41002; clear HB; clear HO_5; have BK41001 := n0_; have BK41002 := n1_; have HB := n2_; have HO41016 := n3_; clear n0_ n1_ n2_ n3_; clear ho hb hg hat))
                  go_roundg k2
                  case measure => have := HJ2.out; have := HK2.out; omega
                  case rel => exact ⟨(y41014), (wrap64 (x6_2 + 1)), (by first | rfl | (simp; done) | (simp [*]; done)), H', ⟨by have := HJ2.out; have := HK2.out; omega⟩, ⟨by (with_reducible repeat (first | apply Kd.R_alloc | apply Kd.R_drewN | apply Kd.R_drew)); exact HO41016.out⟩, ⟨by (with_reducible repeat (first | refine blk_drewN ?_ _ | refine blk_drew ?_ | refine blk_alloc ?_ _)); exact BK41001.out⟩, ⟨by (with_reducible repeat (first | refine blk_drewN ?_ _ | refine blk_drew ?_ | refine blk_alloc ?_ _)); exact BK41002.out⟩, ⟨by repeat (first | (with_reducible first | exact HB.out | apply below_alloc | apply pw_below_drewN | apply below_drew1 | refine below_set ?_ GE41001.out | refine below_set ?_ GE41002.out) | exact HB.out)⟩⟩
                · rw [if_neg c26] at H
                  exact absurd H (by simp)
              · replace c25 := Bool.eq_false_iff.mpr c25
                subst c25
                have H1 : (spec_DirtyTiles.l0 k2 x5_2 (wrap64 (x6_2 + 1)) a0_0 a0_1 a0_2 l0_3 a1_0 a1_1 a1_2 l1_3 a1_4 a1_5 a1_6 a1_7 a1_8) = some r := by rw [if_neg (show ¬ (false = true) by decide)] at H; exact H
                clear H
                have H := H1
                clear H1
                have H' := Aside0.mk H
                clear H
                have hnb34 := NB41001_41002.out
                have hnc34 := NB41002_41001.out
                have hcz35_0 : wr.cell? ⟨gb41001, 0, none⟩ = some (.int .i64 a0_0) := (blk_cell BK41001.out 0).trans rfl
                have hcz35_1 : wr.cell? ⟨gb41001, 1, none⟩ = some (.int .i64 a0_1) := (blk_cell BK41001.out 1).trans rfl
                have hcz35_2 : wr.cell? ⟨gb41001, 2, none⟩ = some (.int .i64 a0_2) := (blk_cell BK41001.out 2).trans rfl
                have hcz35_3 : wr.cell? ⟨gb41001, 3, none⟩ = some (.slice A0_3 l0_3.length c0_3) := (blk_cell BK41001.out 3).trans rfl
                have hfz35_0 := blk_frozen BK41001.out 0
                have hfz35_1 := blk_frozen BK41001.out 1
                have hfz35_2 := blk_frozen BK41001.out 2
                have hfz35_3 := blk_frozen BK41001.out 3
                try go_wp2_with (first | ((with_reducible refine gate_callee (f := 90) rfl ?_); refine goesL_ (some 20) rfl rfl Try.func90 (by kernel_rfl) rfl #[.agg #[.int .i64 a0_0, .int .i64 a0_1, .int .i64 a0_2, .slice A0_3 l0_3.length c0_3]] rfl (by (try simp only [List.map_toArray, List.map_cons, List.map_nil]); first | done | rfl | (simp only [List.length_drop, List.length_take]; rfl)) ?_; (with_reducible refine (spec_tileCount.calls a0_0 a0_1 a0_2 _ _ l0_3 t41008 _ ?side1 ?side2 A21.out).mono ?_); (case side1 => repeat (first | exact (Kd.C_below HR0_3.out HB.out) | (with_reducible refine Kd.C_alloc ?_ _) | (with_reducible refine Kd.C_drewN ?_ _) | (with_reducible refine Kd.C_drew ?_))); (case side2 => exact HC0_3.out); rintro e w36 ⟨rfl, hb⟩; refine ⟨_, rfl, ?_⟩; have n0_ := Aside0.mk (Kd.R_below (by (with_reducible repeat (first | apply Kd.R_alloc | apply Kd.R_drewN | apply Kd.R_drew)); exact HO_5.out) hb); have n1_ := Aside0.mk (blk_below (g := gb41001) (o := .cells #[.int .i64 a0_0, .int .i64 a0_1, .int .i64 a0_2, .slice A0_3 l0_3.length c0_3] 27 (0, 0)) (by (with_reducible repeat (first | refine blk_drewN ?_ _ | refine blk_drew ?_ | refine blk_alloc ?_ _)); exact BK41001.out) hb); have n2_ := Aside0.mk (blk_below (g := gb41002) (o := .cells #[.int .i64 a1_0, .int .i64 a1_1, .int .i64 a1_2, .slice A1_3 l1_3.length c1_3, .int .i64 a1_4, .int .i64 a1_5, .int .i64 a1_6, .int .i64 a1_7, .bool a1_8] 55 (0, 0)) (by (with_reducible repeat (first | refine blk_drewN ?_ _ | refine blk_drew ?_ | refine blk_alloc ?_ _)); exact BK41002.out) hb); have n3_ := Aside0.mk (below_step (by repeat (first | (with_reducible first | exact HB.out | apply below_alloc | apply pw_below_drewN | apply below_drew1 | refine below_set ?_ GE41001.out | refine below_set ?_ GE41002.out) | exact HB.out)) hb); clear HO_5; clear BK41001; clear BK41002; clear HB; have HO_5 := n0_; have BK41001 := n1_; have BK41002 := n2_; have HB := n3_; clear n0_ n1_ n2_ n3_; (try clear hb); (try clear hb2); (try clear hk); (try clear hi)))
                have n0_ := Aside0.mk (Kd.R_drew HO_5.out)
                have n1_ := Aside0.mk (blk_drew BK41001.out)
                have n2_ := Aside0.mk (blk_drew BK41002.out)
                have n3_ := Aside0.mk (below_drew1 HB.out)
                clear HO_5
                clear BK41001
                clear BK41002
                clear HB
                have HO_5 := n0_
                have BK41001 := n1_
                have BK41002 := n2_
                have HB := n3_
                clear n0_ n1_ n2_ n3_
                refine start_ (n := 5) (S := fun w' => w'.cell? ⟨gb41002, 0, none⟩ = some (.int .i64 a1_0) ∧ w'.cell? ⟨gb41002, 1, none⟩ = some (.int .i64 a1_1) ∧ w'.cell? ⟨gb41002, 2, none⟩ = some (.int .i64 a1_2) ∧ w'.cell? ⟨gb41002, 3, none⟩ = some (.slice A1_3 l1_3.length c1_3) ∧ w'.cell? ⟨gb41002, 4, none⟩ = some (.int .i64 a1_4) ∧ w'.cell? ⟨gb41002, 5, none⟩ = some (.int .i64 a1_5) ∧ w'.cell? ⟨gb41002, 6, none⟩ = some (.int .i64 a1_6) ∧ w'.cell? ⟨gb41002, 7, none⟩ = some (.int .i64 a1_7) ∧ w'.cell? ⟨gb41002, 8, none⟩ = some (.bool a1_8) ∧ w'.cell? ⟨gb41001, 0, none⟩ = some (.int .i64 a0_0) ∧ w'.cell? ⟨gb41001, 1, none⟩ = some (.int .i64 a0_1) ∧ w'.cell? ⟨gb41001, 2, none⟩ = some (.int .i64 a0_2) ∧ w'.cell? ⟨gb41001, 3, none⟩ = some (.slice A0_3 l0_3.length c0_3)) (ds := []) #[false, false, false, false, false] (by kernel_rfl) rfl rfl ⟨(blk_cell BK41002.out 0).trans rfl, (blk_cell BK41002.out 1).trans rfl, (blk_cell BK41002.out 2).trans rfl, (blk_cell BK41002.out 3).trans rfl, (blk_cell BK41002.out 4).trans rfl, (blk_cell BK41002.out 5).trans rfl, (blk_cell BK41002.out 6).trans rfl, (blk_cell BK41002.out 7).trans rfl, (blk_cell BK41002.out 8).trans rfl, (blk_cell BK41001.out 0).trans rfl, (blk_cell BK41001.out 1).trans rfl, (blk_cell BK41001.out 2).trans rfl, (blk_cell BK41001.out 3).trans rfl⟩ (fun hHeld => ?_)
                generalize w36.drew = w37 at HO_5 BK41001 BK41002 HB hHeld ⊢
                refine pure_ (i := 2) (N := some 26) (v := ?_) (a' := ?_) #[false, false, true, false, false] rfl rfl (by kernel_rfl) (fun _ _ _ h => h) (Or.inl ⟨by rfl, ?_⟩) ?_ ?_
                rotate_left
                · intro w'
                  go_simp
                  with_reducible rfl
                rotate_left
                · simp only [Act.put, List.setIfInBounds_toArray, List.set_cons_zero, List.set_cons_succ, i64_w, i32_w]
                  rfl
                refine take_ (i := 0) (N := some 24) (v := ?_) (a' := ?_) #[true, false, true, false, false] rfl rfl (by kernel_rfl) (fun _ _ _ h => h) (Or.inl ⟨by rfl, ?_⟩) hHeld ?_ ?_
                rotate_left
                · rintro w' ⟨s0, s1, s2, s3, s4, s5, s6, s7, s8, s9, s10, s11, s12⟩
                  go_simp
                  with_reducible rfl
                rotate_left
                · simp only [Act.put, List.setIfInBounds_toArray, List.set_cons_zero, List.set_cons_succ, i64_w, i32_w]
                  rfl
                refine take_ (i := 1) (N := some 25) (v := ?_) (a' := ?_) #[true, true, true, false, false] rfl rfl (by kernel_rfl) (fun _ _ _ h => h) (Or.inl ⟨by rfl, ?_⟩) hHeld ?_ ?_
                rotate_left
                · rintro w' ⟨s0, s1, s2, s3, s4, s5, s6, s7, s8, s9, s10, s11, s12⟩
                  go_simp
                  with_reducible rfl
                rotate_left
                · simp only [Act.put, List.setIfInBounds_toArray, List.set_cons_zero, List.set_cons_succ, i64_w, i32_w]
                  rfl
                refine one_ (i := 3) (N := some 27) #[true, true, true, true, false] rfl rfl (by kernel_rfl) (by decide) (fun K hK => ?_)
                refine goes_ Try.func91 (by kernel_rfl) rfl #[.agg #[.int .i64 a0_0, .int .i64 a0_1, .int .i64 a0_2, .slice A0_3 l0_3.length c0_3], .int .i64 x6_2] (by rfl) rfl rfl (by (try simp only [List.map_toArray, List.map_cons, List.map_nil]); first | done | rfl | (simp only [List.length_drop, List.length_take]; rfl)) ?_
                with_reducible refine (spec_tileBox.calls a0_0 a0_1 a0_2 _ _ l0_3 x6_2 t41009 t41010 t41011 t41012 _ ?side1 ?side2 A23.out).mono ?_
                (case side1 => repeat (first | exact (Kd.C_below HR0_3.out HB.out) | (with_reducible refine Kd.C_alloc ?_ _) | (with_reducible refine Kd.C_drewN ?_ _) | (with_reducible refine Kd.C_drew ?_)))
                (case side2 => exact HC0_3.out)
                rintro e w38 ⟨rfl, hb⟩
                refine ⟨_, rfl, ?_⟩
                have n0_ := Aside0.mk (Kd.R_below (by (with_reducible repeat (first | apply Kd.R_alloc | apply Kd.R_drewN | apply Kd.R_drew)); exact HO_5.out) hb)
                have n1_ := Aside0.mk (blk_below (g := gb41001) (o := .cells #[.int .i64 a0_0, .int .i64 a0_1, .int .i64 a0_2, .slice A0_3 l0_3.length c0_3] 27 (0, 0)) (by (with_reducible repeat (first | refine blk_drewN ?_ _ | refine blk_drew ?_ | refine blk_alloc ?_ _)); exact BK41001.out) hb)
                have n2_ := Aside0.mk (blk_below (g := gb41002) (o := .cells #[.int .i64 a1_0, .int .i64 a1_1, .int .i64 a1_2, .slice A1_3 l1_3.length c1_3, .int .i64 a1_4, .int .i64 a1_5, .int .i64 a1_6, .int .i64 a1_7, .bool a1_8] 55 (0, 0)) (by (with_reducible repeat (first | refine blk_drewN ?_ _ | refine blk_drew ?_ | refine blk_alloc ?_ _)); exact BK41002.out) hb)
                have n3_ := Aside0.mk (below_step (by repeat (first | (with_reducible first | exact HB.out | apply below_alloc | apply pw_below_drewN | apply below_drew1 | refine below_set ?_ GE41001.out | refine below_set ?_ GE41002.out) | exact HB.out)) hb)
                clear HO_5
                clear BK41001
                clear BK41002
                clear HB
                have HO_5 := n0_
                have BK41001 := n1_
                have BK41002 := n2_
                have HB := n3_
                clear n0_ n1_ n2_ n3_
                (try clear hb)
                (try clear hb2)
                (try clear hk)
                (try clear hi)
                refine hK.out _ _ ⟨(blk_cell BK41002.out 0).trans rfl, (blk_cell BK41002.out 1).trans rfl, (blk_cell BK41002.out 2).trans rfl, (blk_cell BK41002.out 3).trans rfl, (blk_cell BK41002.out 4).trans rfl, (blk_cell BK41002.out 5).trans rfl, (blk_cell BK41002.out 6).trans rfl, (blk_cell BK41002.out 7).trans rfl, (blk_cell BK41002.out 8).trans rfl, (blk_cell BK41001.out 0).trans rfl, (blk_cell BK41001.out 1).trans rfl, (blk_cell BK41001.out 2).trans rfl, (blk_cell BK41001.out 3).trans rfl⟩ (fun hHeld => ?_)
                clear hK K
                refine norm_ (a' := ?_) ?_ ?_
                rotate_left
                · show Act.put _ (some 27) _ = _
                  simp only [Act.put, List.setIfInBounds_toArray, List.set_cons_zero, List.set_cons_succ, i64_w, i32_w]
                  rfl
                refine one_ (i := 4) (N := some 28) #[true, true, true, true, true] rfl rfl (by kernel_rfl) (by decide) (fun K hK => ?_)
                refine goes_ Try.func102 (by kernel_rfl) rfl #[.agg #[.int .i64 a1_0, .int .i64 a1_1, .int .i64 a1_2, .slice A1_3 l1_3.length c1_3, .int .i64 a1_4, .int .i64 a1_5, .int .i64 a1_6, .int .i64 a1_7, .bool a1_8], .agg #[.int .i64 t41009, .int .i64 t41010, .int .i64 t41011, .int .i64 t41012]] (by rfl) rfl rfl (by (try simp only [List.map_toArray, List.map_cons, List.map_nil]); first | done | rfl | (simp only [List.length_drop, List.length_take]; rfl)) ?_
                with_reducible refine (spec_touching.calls a1_0 a1_1 a1_2 _ _ l1_3 a1_4 a1_5 a1_6 a1_7 a1_8 t41009 t41010 t41011 t41012 false _ ?side1 ?side2 A24.out).mono ?_
                (case side1 => repeat (first | exact (Kd.C_below HR1_3.out HB.out) | (with_reducible refine Kd.C_alloc ?_ _) | (with_reducible refine Kd.C_drewN ?_ _) | (with_reducible refine Kd.C_drew ?_)))
                (case side2 => exact HC1_3.out)
                rintro e w39 ⟨rfl, hb⟩
                refine ⟨_, rfl, ?_⟩
                have n0_ := Aside0.mk (Kd.R_below (by (with_reducible repeat (first | apply Kd.R_alloc | apply Kd.R_drewN | apply Kd.R_drew)); exact HO_5.out) hb)
                have n1_ := Aside0.mk (blk_below (g := gb41001) (o := .cells #[.int .i64 a0_0, .int .i64 a0_1, .int .i64 a0_2, .slice A0_3 l0_3.length c0_3] 27 (0, 0)) (by (with_reducible repeat (first | refine blk_drewN ?_ _ | refine blk_drew ?_ | refine blk_alloc ?_ _)); exact BK41001.out) hb)
                have n2_ := Aside0.mk (blk_below (g := gb41002) (o := .cells #[.int .i64 a1_0, .int .i64 a1_1, .int .i64 a1_2, .slice A1_3 l1_3.length c1_3, .int .i64 a1_4, .int .i64 a1_5, .int .i64 a1_6, .int .i64 a1_7, .bool a1_8] 55 (0, 0)) (by (with_reducible repeat (first | refine blk_drewN ?_ _ | refine blk_drew ?_ | refine blk_alloc ?_ _)); exact BK41002.out) hb)
                have n3_ := Aside0.mk (below_step (by repeat (first | (with_reducible first | exact HB.out | apply below_alloc | apply pw_below_drewN | apply below_drew1 | refine below_set ?_ GE41001.out | refine below_set ?_ GE41002.out) | exact HB.out)) hb)
                clear HO_5
                clear BK41001
                clear BK41002
                clear HB
                have HO_5 := n0_
                have BK41001 := n1_
                have BK41002 := n2_
                have HB := n3_
                clear n0_ n1_ n2_ n3_
                (try clear hb)
                (try clear hb2)
                (try clear hk)
                (try clear hi)
                refine hK.out _ _ ⟨(blk_cell BK41002.out 0).trans rfl, (blk_cell BK41002.out 1).trans rfl, (blk_cell BK41002.out 2).trans rfl, (blk_cell BK41002.out 3).trans rfl, (blk_cell BK41002.out 4).trans rfl, (blk_cell BK41002.out 5).trans rfl, (blk_cell BK41002.out 6).trans rfl, (blk_cell BK41002.out 7).trans rfl, (blk_cell BK41002.out 8).trans rfl, (blk_cell BK41001.out 0).trans rfl, (blk_cell BK41001.out 1).trans rfl, (blk_cell BK41001.out 2).trans rfl, (blk_cell BK41001.out 3).trans rfl⟩ (fun hHeld => ?_)
                clear hK K
                refine norm_ (a' := ?_) ?_ ?_
                rotate_left
                · show Act.put _ (some 28) _ = _
                  simp only [Act.put, List.setIfInBounds_toArray, List.set_cons_zero, List.set_cons_succ, i64_w, i32_w]
                  rfl
                refine done_ (by kernel_rfl) ?_
                try go_wp2
                go_roundg k2
                case measure => have := HJ2.out; have := HK2.out; omega
                case rel => exact ⟨(x5_2), (wrap64 (x6_2 + 1)), (by first | rfl | (simp; done) | (simp [*]; done)), H', ⟨by have := HJ2.out; have := HK2.out; omega⟩, ⟨by (with_reducible repeat (first | apply Kd.R_alloc | apply Kd.R_drewN | apply Kd.R_drew)); exact HO_5.out⟩, ⟨by (with_reducible repeat (first | refine blk_drewN ?_ _ | refine blk_drew ?_ | refine blk_alloc ?_ _)); exact BK41001.out⟩, ⟨by (with_reducible repeat (first | refine blk_drewN ?_ _ | refine blk_drew ?_ | refine blk_alloc ?_ _)); exact BK41002.out⟩, ⟨by repeat (first | (with_reducible first | exact HB.out | apply below_alloc | apply pw_below_drewN | apply below_drew1 | refine below_set ?_ GE41001.out | refine below_set ?_ GE41002.out) | exact HB.out)⟩⟩
            · rw [if_neg c22] at H
              have c22b0 : decide (x6_2 < t41008) = false := decide_eq_false c22
              clear c22
              obtain rfl := Option.some.inj H
              have hnb40 := NB41001_41002.out
              have hnc40 := NB41002_41001.out
              have hcz41_0 : wr.cell? ⟨gb41001, 0, none⟩ = some (.int .i64 a0_0) := (blk_cell BK41001.out 0).trans rfl
              have hcz41_1 : wr.cell? ⟨gb41001, 1, none⟩ = some (.int .i64 a0_1) := (blk_cell BK41001.out 1).trans rfl
              have hcz41_2 : wr.cell? ⟨gb41001, 2, none⟩ = some (.int .i64 a0_2) := (blk_cell BK41001.out 2).trans rfl
              have hcz41_3 : wr.cell? ⟨gb41001, 3, none⟩ = some (.slice A0_3 l0_3.length c0_3) := (blk_cell BK41001.out 3).trans rfl
              have hfz41_0 := blk_frozen BK41001.out 0
              have hfz41_1 := blk_frozen BK41001.out 1
              have hfz41_2 := blk_frozen BK41001.out 2
              have hfz41_3 := blk_frozen BK41001.out 3
              go_wp2_with (first | ((with_reducible refine gate_callee (f := 90) rfl ?_); refine goesL_ (some 20) rfl rfl Try.func90 (by kernel_rfl) rfl #[.agg #[.int .i64 a0_0, .int .i64 a0_1, .int .i64 a0_2, .slice A0_3 l0_3.length c0_3]] rfl (by (try simp only [List.map_toArray, List.map_cons, List.map_nil]); first | done | rfl | (simp only [List.length_drop, List.length_take]; rfl)) ?_; (with_reducible refine (spec_tileCount.calls a0_0 a0_1 a0_2 _ _ l0_3 t41008 _ ?side1 ?side2 A21.out).mono ?_); (case side1 => repeat (first | exact (Kd.C_below HR0_3.out HB.out) | (with_reducible refine Kd.C_alloc ?_ _) | (with_reducible refine Kd.C_drewN ?_ _) | (with_reducible refine Kd.C_drew ?_))); (case side2 => exact HC0_3.out); rintro e w42 ⟨rfl, hb⟩; refine ⟨_, rfl, ?_⟩; have n0_ := Aside0.mk (Kd.R_below (by (with_reducible repeat (first | apply Kd.R_alloc | apply Kd.R_drewN | apply Kd.R_drew)); exact HO_5.out) hb); have n1_ := Aside0.mk (blk_below (g := gb41001) (o := .cells #[.int .i64 a0_0, .int .i64 a0_1, .int .i64 a0_2, .slice A0_3 l0_3.length c0_3] 27 (0, 0)) (by (with_reducible repeat (first | refine blk_drewN ?_ _ | refine blk_drew ?_ | refine blk_alloc ?_ _)); exact BK41001.out) hb); have n2_ := Aside0.mk (blk_below (g := gb41002) (o := .cells #[.int .i64 a1_0, .int .i64 a1_1, .int .i64 a1_2, .slice A1_3 l1_3.length c1_3, .int .i64 a1_4, .int .i64 a1_5, .int .i64 a1_6, .int .i64 a1_7, .bool a1_8] 55 (0, 0)) (by (with_reducible repeat (first | refine blk_drewN ?_ _ | refine blk_drew ?_ | refine blk_alloc ?_ _)); exact BK41002.out) hb); have n3_ := Aside0.mk (below_step (by repeat (first | (with_reducible first | exact HB.out | apply below_alloc | apply pw_below_drewN | apply below_drew1 | refine below_set ?_ GE41001.out | refine below_set ?_ GE41002.out) | exact HB.out)) hb); clear HO_5; clear BK41001; clear BK41002; clear HB; have HO_5 := n0_; have BK41001 := n1_; have BK41002 := n2_; have HB := n3_; clear n0_ n1_ n2_ n3_; (try clear hb); (try clear hb2); (try clear hk); (try clear hi)))
              go_ret
              exact ⟨_, by first | rfl | (simp [errW_none, errW_some] <;> rfl) | (simp [*, errW_none, errW_some] <;> rfl), by (with_reducible repeat (first | apply Kd.R_alloc | apply Kd.R_drewN | apply Kd.R_drew)); exact HO_5.out, by repeat (first | (with_reducible first | exact HB.out | apply below_alloc | apply pw_below_drewN | apply below_drew1 | refine below_set ?_ GE41001.out | refine below_set ?_ GE41002.out) | exact HB.out)⟩

end Go.Proofs.Ytnofkbbcbpjhfaa.Q

namespace Go.Proofs.Ytnofkbbcbpjhfaa.Q
open Go.RowKit Go.Proofs.YtnofkbbcbpjhfaaW.PrintWords Go.Proofs.YtnofkbbcbpjhfaaW.PrintLast Go.Proofs.YtnofkbbcbpjhfaaW.PrintMore
attribute [local go_sem] max2_int min2_int max_two min_two max_three min_three max_four min_four
set_option linter.unusedVariables false
set_option linter.unusedSimpArgs false
/-! ### laws_toLayer: function 41 -/
def laws_toLayer.f (k : Nat) (a0_0 : Int) (a0_1 : Int) (a0_2 : Int) (l0_3 : List Int) (a0_4 : Int) (a0_5 : Int) (a0_6 : Int) (a0_7 : Int) (a0_8 : Bool) : Option (Int × Int × Int × List Int × Int × Int × Int × Int × Bool) := (laws_toImage.f k a0_0 a0_1 a0_2 l0_3).bind fun bt42004 => (some (bt42004.1, bt42004.2.1, bt42004.2.2.1, bt42004.2.2.2, a0_4, a0_5, a0_6, a0_7, a0_8))
theorem laws_toLayer.mono : ∀ a0 a1 a2 a3 a4 a5 a6 a7 a8 k, LeO (laws_toLayer.f k a0 a1 a2 a3 a4 a5 a6 a7 a8) (laws_toLayer.f (k + 1) a0 a1 a2 a3 a4 a5 a6 a7 a8) := by
  intro a0 a1 a2 a3 a4 a5 a6 a7 a8 k
  unfold laws_toLayer.f
  repeat' first
      | (with_reducible exact laws_toImage.mono _ _ _ _ _)
      | (with_reducible exact LeO.refl _)
      | (with_reducible exact LeO.none _)
      | (with_reducible refine LeO.ite ?_ ?_)
      | (with_reducible refine LeO.bind ?_ (fun _ => ?_))
      | exact laws_toImage.mono _ _ _ _ _
      | exact LeO.none _
      | refine LeO.ite ?_ ?_
      | refine LeO.bind ?_ (fun _ => ?_)
set_option maxHeartbeats 8000000 in
set_option maxRecDepth 100000 in
theorem laws_toLayer.calls (k : Nat) (a0_0 : Int) (a0_1 : Int) (a0_2 : Int) (A0_3 : Option Addr) (c0_3 : Nat) (l0_3 : List Int) (a0_4 : Int) (a0_5 : Int) (a0_6 : Int) (a0_7 : Int) (a0_8 : Bool) (r1 : Int) (r2 : Int) (r3 : Int) (r4 : List Int) (r5 : Int) (r6 : Int) (r7 : Int) (r8 : Int) (r9 : Bool) (w : World) (hr0_3 : Kd.C (Kd.int .i64) w A0_3 l0_3.length l0_3) (hc0_3 : l0_3.length ≤ c0_3) (h : laws_toLayer.f k a0_0 a0_1 a0_2 l0_3 a0_4 a0_5 a0_6 a0_7 a0_8 = some (r1, r2, r3, r4, r5, r6, r7, r8, r9)) :
    Calls Try.prog 41 #[.agg #[.int .i64 a0_0, .int .i64 a0_1, .int .i64 a0_2, .slice A0_3 l0_3.length c0_3, .int .i64 a0_4, .int .i64 a0_5, .int .i64 a0_6, .int .i64 a0_7, .bool a0_8]] w fun e w' => ∃ v3_ : Value, e = .returned (.agg #[.int .i64 r1, .int .i64 r2, .int .i64 r3, v3_, .int .i64 r5, .int .i64 r6, .int .i64 r7, .int .i64 r8, .bool r9]) ∧ Kd.R (Kd.int .i64) 3 w' w.heap.size (fun _ => True) v3_ r4 ∧ Below w.heap.size w w' := by
  have hu51 := Try.underlying51
  have hu55 := Try.underlying55
  have hu24 := Try.underlying24
  have hu27 := Try.underlying27
  have HR0_3 := Aside0.mk hr0_3
  have HC0_3 := Aside0.mk hc0_3
  clear hr0_3 hc0_3
  have HB := Aside0.mk (Below.refl w.heap.size w)
  have H : ((laws_toImage.f k a0_0 a0_1 a0_2 l0_3).bind fun bt42004 => (some (bt42004.1, bt42004.2.1, bt42004.2.2.1, bt42004.2.2.2, a0_4, a0_5, a0_6, a0_7, a0_8))) = some (r1, r2, r3, r4, r5, r6, r7, r8, r9) := h
  clear h
  replace H := Option.bind_eq_some_iff.mp H
  obtain ⟨⟨t42004, t42005, t42006, t42007⟩, A20, H⟩ := H
  replace H : (some (t42004, t42005, t42006, t42007, a0_4, a0_5, a0_6, a0_7, a0_8)) = some (r1, r2, r3, r4, r5, r6, r7, r8, r9) := H
  have A2 := Aside0.mk A20
  clear A20
  simp only [Option.some.injEq, Prod.mk.injEq] at H
  obtain ⟨rfl, rfl, rfl, rfl, rfl, rfl, rfl, rfl, rfl⟩ := H
  go_enter Try.func41, Try.ntmps41
  go_wp2_with (first | ((with_reducible refine gate_dst (N := 1) rfl ?_); refine box_event ?hg (N := 1) ?hd (cs := #[.int .i64 a0_0, .int .i64 a0_1, .int .i64 a0_2, .slice A0_3 l0_3.length c0_3, .int .i64 a0_4, .int .i64 a0_5, .int .i64 a0_6, .int .i64 a0_7, .bool a0_8]) (t := 51) ?hr ?_; (case hd => rfl); (case hg => rfl); (case hr => first | (go_simp; done) | (go_simp; rfl)); intro gb42001 hg w3 hbox hb; have n0_ := Aside0.mk (below_step (by repeat (first | (with_reducible first | exact HB.out | apply below_alloc | apply pw_below_drewN | apply below_drew1) | exact HB.out)) hb); have n1_ := Aside0.mk (hbox); have n2_ := Aside0.mk ((by rw [hg]; exact (below_size (by repeat (first | (with_reducible first | exact HB.out | apply below_alloc | apply pw_below_drewN | apply below_drew1) | exact HB.out))) : w.heap.size ≤ gb42001)); have n3_ := Aside0.mk ((by rw [hg]; exact (below_size (by repeat (first | (with_reducible first | exact HB.out | apply below_alloc | apply pw_below_drewN | apply below_drew1) | exact HB.out))) : w.heap.size ≤ gb42001)); clear HB; have HB := n0_; have BK42001 := n1_; have GW42001 := n2_; have GE42001 := n3_; clear n0_ n1_ n2_ n3_; clear hb hbox hg) | ((with_reducible refine gate_dst (N := 2) rfl ?_); refine box_event ?hg (N := 2) ?hd (cs := #[.int .i64 0, .int .i64 0, .int .i64 0, .slice none 0 0, .int .i64 0, .int .i64 0, .int .i64 0, .int .i64 0, .bool false]) (t := 55) ?hr ?_; (case hd => rfl); (case hg => rfl); (case hr => first | (go_simp; done) | (go_simp; rfl)); intro gb42002 hg w4 hbox hb; have n0_ := Aside0.mk (blk_below (g := gb42001) (o := .cells #[.int .i64 a0_0, .int .i64 a0_1, .int .i64 a0_2, .slice A0_3 l0_3.length c0_3, .int .i64 a0_4, .int .i64 a0_5, .int .i64 a0_6, .int .i64 a0_7, .bool a0_8] 51 (0, 0)) (by (with_reducible repeat (first | refine blk_drewN ?_ _ | refine blk_drew ?_ | refine blk_alloc ?_ _)); exact BK42001.out) hb); have n1_ := Aside0.mk (below_step (by repeat (first | (with_reducible first | exact HB.out | apply below_alloc | apply pw_below_drewN | apply below_drew1 | refine below_set ?_ GE42001.out) | exact HB.out)) hb); have n2_ := Aside0.mk (hbox); have n3_ := Aside0.mk ((by rw [hg]; exact (below_size (by repeat (first | (with_reducible first | exact HB.out | apply below_alloc | apply pw_below_drewN | apply below_drew1 | refine below_set ?_ GE42001.out) | exact HB.out))) : w.heap.size ≤ gb42002)); have n4_ := Aside0.mk ((by rw [hg]; exact (below_size (by repeat (first | (with_reducible first | exact HB.out | apply below_alloc | apply pw_below_drewN | apply below_drew1 | refine below_set ?_ GE42001.out) | exact HB.out))) : w.heap.size ≤ gb42002)); have n5_ := Aside0.mk ((by rw [hg]; exact Nat.ne_of_lt (blk_lt (g := gb42001) (o := .cells #[.int .i64 a0_0, .int .i64 a0_1, .int .i64 a0_2, .slice A0_3 l0_3.length c0_3, .int .i64 a0_4, .int .i64 a0_5, .int .i64 a0_6, .int .i64 a0_7, .bool a0_8] 51 (0, 0)) (by (with_reducible repeat (first | refine blk_drewN ?_ _ | refine blk_drew ?_ | refine blk_alloc ?_ _)); exact BK42001.out)) : gb42001 ≠ gb42002)); have n6_ := Aside0.mk ((by rw [hg]; exact Nat.ne_of_gt (blk_lt (g := gb42001) (o := .cells #[.int .i64 a0_0, .int .i64 a0_1, .int .i64 a0_2, .slice A0_3 l0_3.length c0_3, .int .i64 a0_4, .int .i64 a0_5, .int .i64 a0_6, .int .i64 a0_7, .bool a0_8] 51 (0, 0)) (by (with_reducible repeat (first | refine blk_drewN ?_ _ | refine blk_drew ?_ | refine blk_alloc ?_ _)); exact BK42001.out)) : gb42002 ≠ gb42001)); clear BK42001; clear HB; have BK42001 := n0_; have HB := n1_; have BK42002 := n2_; have GW42002 := n3_; have GE42002 := n4_; have NB42001_42002 := n5_; have NB42002_42001 := n6_; clear n0_ n1_ n2_ n3_ n4_ n5_ n6_; clear hb hbox hg) | ((with_reducible refine gate_dst (N := 3) rfl ?_); refine box_event ?hg (N := 3) ?hd (cs := #[.int .i64 0, .int .i64 0, .int .i64 0, .slice none 0 0, .int .i64 0, .int .i64 0, .int .i64 0, .int .i64 0, .bool false]) (t := 55) ?hr ?_; (case hd => rfl); (case hg => rfl); (case hr => first | (go_simp; done) | (go_simp; rfl)); intro gb42003 hg w5 hbox hb; have n0_ := Aside0.mk (blk_below (g := gb42001) (o := .cells #[.int .i64 a0_0, .int .i64 a0_1, .int .i64 a0_2, .slice A0_3 l0_3.length c0_3, .int .i64 a0_4, .int .i64 a0_5, .int .i64 a0_6, .int .i64 a0_7, .bool a0_8] 51 (0, 0)) (by (with_reducible repeat (first | refine blk_drewN ?_ _ | refine blk_drew ?_ | refine blk_alloc ?_ _)); exact BK42001.out) hb); have n1_ := Aside0.mk (blk_below (g := gb42002) (o := .cells #[.int .i64 0, .int .i64 0, .int .i64 0, .slice none 0 0, .int .i64 0, .int .i64 0, .int .i64 0, .int .i64 0, .bool false] 55 (0, 0)) (by (with_reducible repeat (first | refine blk_drewN ?_ _ | refine blk_drew ?_ | refine blk_alloc ?_ _)); exact BK42002.out) hb); have n2_ := Aside0.mk (below_step (by repeat (first | (with_reducible first | exact HB.out | apply below_alloc | apply pw_below_drewN | apply below_drew1 | refine below_set ?_ GE42001.out | refine below_set ?_ GE42002.out) | exact HB.out)) hb); have n3_ := Aside0.mk (hbox); have n4_ := Aside0.mk ((by rw [hg]; exact (below_size (by repeat (first | (with_reducible first | exact HB.out | apply below_alloc | apply pw_below_drewN | apply below_drew1 | refine below_set ?_ GE42001.out | refine below_set ?_ GE42002.out) | exact HB.out))) : w.heap.size ≤ gb42003)); have n5_ := Aside0.mk ((by rw [hg]; exact (below_size (by repeat (first | (with_reducible first | exact HB.out | apply below_alloc | apply pw_below_drewN | apply below_drew1 | refine below_set ?_ GE42001.out | refine below_set ?_ GE42002.out) | exact HB.out))) : w.heap.size ≤ gb42003)); have n6_ := Aside0.mk ((by rw [hg]; exact Nat.ne_of_lt (blk_lt (g := gb42001) (o := .cells #[.int .i64 a0_0, .int .i64 a0_1, .int .i64 a0_2, .slice A0_3 l0_3.length c0_3, .int .i64 a0_4, .int .i64 a0_5, .int .i64 a0_6, .int .i64 a0_7, .bool a0_8] 51 (0, 0)) (by (with_reducible repeat (first | refine blk_drewN ?_ _ | refine blk_drew ?_ | refine blk_alloc ?_ _)); exact BK42001.out)) : gb42001 ≠ gb42003)); have n7_ := Aside0.mk ((by rw [hg]; exact Nat.ne_of_gt (blk_lt (g := gb42001) (o := .cells #[.int .i64 a0_0, .int .i64 a0_1, .int .i64 a0_2, .slice A0_3 l0_3.length c0_3, .int .i64 a0_4, .int .i64 a0_5, .int .i64 a0_6, .int .i64 a0_7, .bool a0_8] 51 (0, 0)) (by (with_reducible repeat (first | refine blk_drewN ?_ _ | refine blk_drew ?_ | refine blk_alloc ?_ _)); exact BK42001.out)) : gb42003 ≠ gb42001)); have n8_ := Aside0.mk ((by rw [hg]; exact Nat.ne_of_lt (blk_lt (g := gb42002) (o := .cells #[.int .i64 0, .int .i64 0, .int .i64 0, .slice none 0 0, .int .i64 0, .int .i64 0, .int .i64 0, .int .i64 0, .bool false] 55 (0, 0)) (by (with_reducible repeat (first | refine blk_drewN ?_ _ | refine blk_drew ?_ | refine blk_alloc ?_ _)); exact BK42002.out)) : gb42002 ≠ gb42003)); have n9_ := Aside0.mk ((by rw [hg]; exact Nat.ne_of_gt (blk_lt (g := gb42002) (o := .cells #[.int .i64 0, .int .i64 0, .int .i64 0, .slice none 0 0, .int .i64 0, .int .i64 0, .int .i64 0, .int .i64 0, .bool false] 55 (0, 0)) (by (with_reducible repeat (first | refine blk_drewN ?_ _ | refine blk_drew ?_ | refine blk_alloc ?_ _)); exact BK42002.out)) : gb42003 ≠ gb42002)); clear BK42001; clear BK42002; clear HB; have BK42001 := n0_; have BK42002 := n1_; have HB := n2_; have BK42003 := n3_; have GW42003 := n4_; have GE42003 := n5_; have NB42001_42003 := n6_; have NB42003_42001 := n7_; have NB42002_42003 := n8_; have NB42003_42002 := n9_; clear n0_ n1_ n2_ n3_ n4_ n5_ n6_ n7_ n8_ n9_; clear hb hbox hg; have hnb6 := NB42001_42002.out; have hnc6 := NB42002_42001.out; have hnb7 := NB42001_42003.out; have hnc7 := NB42003_42001.out; have hcz8_0 : w5.cell? ⟨gb42001, 0, none⟩ = some (.int .i64 a0_0) := (blk_cell BK42001.out 0).trans rfl; have hcz8_1 : w5.cell? ⟨gb42001, 1, none⟩ = some (.int .i64 a0_1) := (blk_cell BK42001.out 1).trans rfl; have hcz8_2 : w5.cell? ⟨gb42001, 2, none⟩ = some (.int .i64 a0_2) := (blk_cell BK42001.out 2).trans rfl; have hcz8_3 : w5.cell? ⟨gb42001, 3, none⟩ = some (.slice A0_3 l0_3.length c0_3) := (blk_cell BK42001.out 3).trans rfl; have hcz8_4 : w5.cell? ⟨gb42001, 4, none⟩ = some (.int .i64 a0_4) := (blk_cell BK42001.out 4).trans rfl; have hcz8_5 : w5.cell? ⟨gb42001, 5, none⟩ = some (.int .i64 a0_5) := (blk_cell BK42001.out 5).trans rfl; have hcz8_6 : w5.cell? ⟨gb42001, 6, none⟩ = some (.int .i64 a0_6) := (blk_cell BK42001.out 6).trans rfl; have hcz8_7 : w5.cell? ⟨gb42001, 7, none⟩ = some (.int .i64 a0_7) := (blk_cell BK42001.out 7).trans rfl; have hcz8_8 : w5.cell? ⟨gb42001, 8, none⟩ = some (.bool a0_8) := (blk_cell BK42001.out 8).trans rfl; have hfz8_0 := blk_frozen BK42001.out 0; have hfz8_1 := blk_frozen BK42001.out 1; have hfz8_2 := blk_frozen BK42001.out 2; have hfz8_3 := blk_frozen BK42001.out 3; have hfz8_4 := blk_frozen BK42001.out 4; have hfz8_5 := blk_frozen BK42001.out 5; have hfz8_6 := blk_frozen BK42001.out 6; have hfz8_7 := blk_frozen BK42001.out 7; have hfz8_8 := blk_frozen BK42001.out 8) | ((with_reducible refine gate_callee (f := 22) rfl ?_); refine goesL_ (some 6) rfl rfl Try.func22 (by kernel_rfl) rfl #[.agg #[.int .i64 a0_0, .int .i64 a0_1, .int .i64 a0_2, .slice A0_3 l0_3.length c0_3]] rfl (by (try simp only [List.map_toArray, List.map_cons, List.map_nil]); first | done | rfl | (simp only [List.length_drop, List.length_take]; rfl)) ?_; (with_reducible refine (laws_toImage.calls k a0_0 a0_1 a0_2 _ _ l0_3 t42004 t42005 t42006 t42007 _ ?side1 ?side2 A2.out).mono ?_); (case side1 => repeat (first | exact (Kd.C_below HR0_3.out HB.out) | (with_reducible refine Kd.C_alloc ?_ _) | (with_reducible refine Kd.C_drewN ?_ _) | (with_reducible refine Kd.C_drew ?_))); (case side2 => exact HC0_3.out); rintro e w9 ⟨v42008, rfl, ho0, hb⟩; refine ⟨_, rfl, ?_⟩; have n0_ := Aside0.mk (Kd.R_lower ho0 (below_size (by repeat (first | (with_reducible first | exact HB.out | apply below_alloc | apply pw_below_drewN | apply below_drew1 | refine below_set ?_ GE42001.out | refine below_set ?_ GE42002.out | refine below_set ?_ GE42003.out) | exact HB.out)))); have n1_ := Aside0.mk (blk_below (g := gb42001) (o := .cells #[.int .i64 a0_0, .int .i64 a0_1, .int .i64 a0_2, .slice A0_3 l0_3.length c0_3, .int .i64 a0_4, .int .i64 a0_5, .int .i64 a0_6, .int .i64 a0_7, .bool a0_8] 51 (0, 0)) (by (with_reducible repeat (first | refine blk_drewN ?_ _ | refine blk_drew ?_ | refine blk_alloc ?_ _)); exact BK42001.out) hb); have n2_ := Aside0.mk (blk_below (g := gb42002) (o := .cells #[.int .i64 0, .int .i64 0, .int .i64 0, .slice none 0 0, .int .i64 0, .int .i64 0, .int .i64 0, .int .i64 0, .bool false] 55 (0, 0)) (by (with_reducible repeat (first | refine blk_drewN ?_ _ | refine blk_drew ?_ | refine blk_alloc ?_ _)); exact BK42002.out) hb); have n3_ := Aside0.mk (blk_below (g := gb42003) (o := .cells #[.int .i64 0, .int .i64 0, .int .i64 0, .slice none 0 0, .int .i64 0, .int .i64 0, .int .i64 0, .int .i64 0, .bool false] 55 (0, 0)) (by (with_reducible repeat (first | refine blk_drewN ?_ _ | refine blk_drew ?_ | refine blk_alloc ?_ _)); exact BK42003.out) hb); have n4_ := Aside0.mk (below_step (by repeat (first | (with_reducible first | exact HB.out | apply below_alloc | apply pw_below_drewN | apply below_drew1 | refine below_set ?_ GE42001.out | refine below_set ?_ GE42002.out | refine below_set ?_ GE42003.out) | exact HB.out)) hb); clear BK42001; clear BK42002; clear BK42003; clear HB; have HO42009 := n0_; have BK42001 := n1_; have BK42002 := n2_; have BK42003 := n3_; have HB := n4_; clear n0_ n1_ n2_ n3_ n4_; (try clear hb); (try clear hb2); (try clear hk); (try clear hi); (try clear ho0); have hnb10 := NB42003_42002.out; have hnc10 := NB42002_42003.out; have hcz11_0 : w9.cell? ⟨gb42003, 0, none⟩ = some (.int .i64 0) := (blk_cell BK42003.out 0).trans rfl; have hcz11_1 : w9.cell? ⟨gb42003, 1, none⟩ = some (.int .i64 0) := (blk_cell BK42003.out 1).trans rfl; have hcz11_2 : w9.cell? ⟨gb42003, 2, none⟩ = some (.int .i64 0) := (blk_cell BK42003.out 2).trans rfl; have hcz11_3 : w9.cell? ⟨gb42003, 3, none⟩ = some (.slice none 0 0) := (blk_cell BK42003.out 3).trans rfl; have hcz11_4 : w9.cell? ⟨gb42003, 4, none⟩ = some (.int .i64 0) := (blk_cell BK42003.out 4).trans rfl; have hcz11_5 : w9.cell? ⟨gb42003, 5, none⟩ = some (.int .i64 0) := (blk_cell BK42003.out 5).trans rfl; have hcz11_6 : w9.cell? ⟨gb42003, 6, none⟩ = some (.int .i64 0) := (blk_cell BK42003.out 6).trans rfl; have hcz11_7 : w9.cell? ⟨gb42003, 7, none⟩ = some (.int .i64 0) := (blk_cell BK42003.out 7).trans rfl; have hcz11_8 : w9.cell? ⟨gb42003, 8, none⟩ = some (.bool false) := (blk_cell BK42003.out 8).trans rfl; have hfz11_0 := blk_frozen BK42003.out 0; have hfz11_1 := blk_frozen BK42003.out 1; have hfz11_2 := blk_frozen BK42003.out 2; have hfz11_3 := blk_frozen BK42003.out 3; have hfz11_4 := blk_frozen BK42003.out 4; have hfz11_5 := blk_frozen BK42003.out 5; have hfz11_6 := blk_frozen BK42003.out 6; have hfz11_7 := blk_frozen BK42003.out 7; have hfz11_8 := blk_frozen BK42003.out 8; obtain ⟨Ao12, co12, eo12⟩ := Kd.R_slice HO42009.out; subst eo12; have hcz13_0 : w9.cell? ⟨gb42001, 0, none⟩ = some (.int .i64 a0_0) := (blk_cell BK42001.out 0).trans rfl; have hcz13_1 : w9.cell? ⟨gb42001, 1, none⟩ = some (.int .i64 a0_1) := (blk_cell BK42001.out 1).trans rfl; have hcz13_2 : w9.cell? ⟨gb42001, 2, none⟩ = some (.int .i64 a0_2) := (blk_cell BK42001.out 2).trans rfl; have hcz13_3 : w9.cell? ⟨gb42001, 3, none⟩ = some (.slice A0_3 l0_3.length c0_3) := (blk_cell BK42001.out 3).trans rfl; have hcz13_4 : w9.cell? ⟨gb42001, 4, none⟩ = some (.int .i64 a0_4) := (blk_cell BK42001.out 4).trans rfl; have hcz13_5 : w9.cell? ⟨gb42001, 5, none⟩ = some (.int .i64 a0_5) := (blk_cell BK42001.out 5).trans rfl; have hcz13_6 : w9.cell? ⟨gb42001, 6, none⟩ = some (.int .i64 a0_6) := (blk_cell BK42001.out 6).trans rfl; have hcz13_7 : w9.cell? ⟨gb42001, 7, none⟩ = some (.int .i64 a0_7) := (blk_cell BK42001.out 7).trans rfl; have hcz13_8 : w9.cell? ⟨gb42001, 8, none⟩ = some (.bool a0_8) := (blk_cell BK42001.out 8).trans rfl; have hfz13_0 := blk_frozen BK42001.out 0; have hfz13_1 := blk_frozen BK42001.out 1; have hfz13_2 := blk_frozen BK42001.out 2; have hfz13_3 := blk_frozen BK42001.out 3; have hfz13_4 := blk_frozen BK42001.out 4; have hfz13_5 := blk_frozen BK42001.out 5; have hfz13_6 := blk_frozen BK42001.out 6; have hfz13_7 := blk_frozen BK42001.out 7; have hfz13_8 := blk_frozen BK42001.out 8; have hcz14_0 : w9.cell? ⟨gb42002, 0, none⟩ = some (.int .i64 0) := (blk_cell BK42002.out 0).trans rfl; have hcz14_1 : w9.cell? ⟨gb42002, 1, none⟩ = some (.int .i64 0) := (blk_cell BK42002.out 1).trans rfl; have hcz14_2 : w9.cell? ⟨gb42002, 2, none⟩ = some (.int .i64 0) := (blk_cell BK42002.out 2).trans rfl; have hcz14_3 : w9.cell? ⟨gb42002, 3, none⟩ = some (.slice none 0 0) := (blk_cell BK42002.out 3).trans rfl; have hcz14_4 : w9.cell? ⟨gb42002, 4, none⟩ = some (.int .i64 0) := (blk_cell BK42002.out 4).trans rfl; have hcz14_5 : w9.cell? ⟨gb42002, 5, none⟩ = some (.int .i64 0) := (blk_cell BK42002.out 5).trans rfl; have hcz14_6 : w9.cell? ⟨gb42002, 6, none⟩ = some (.int .i64 0) := (blk_cell BK42002.out 6).trans rfl; have hcz14_7 : w9.cell? ⟨gb42002, 7, none⟩ = some (.int .i64 0) := (blk_cell BK42002.out 7).trans rfl; have hcz14_8 : w9.cell? ⟨gb42002, 8, none⟩ = some (.bool false) := (blk_cell BK42002.out 8).trans rfl; have hfz14_0 := blk_frozen BK42002.out 0; have hfz14_1 := blk_frozen BK42002.out 1; have hfz14_2 := blk_frozen BK42002.out 2; have hfz14_3 := blk_frozen BK42002.out 3; have hfz14_4 := blk_frozen BK42002.out 4; have hfz14_5 := blk_frozen BK42002.out 5; have hfz14_6 := blk_frozen BK42002.out 6; have hfz14_7 := blk_frozen BK42002.out 7; have hfz14_8 := blk_frozen BK42002.out 8))
  refine bodyPost_ret (results_cell_row rfl _ _ gb42002 55 #[.int .i64 t42004, .int .i64 t42005, .int .i64 t42006, .slice Ao12 t42007.length co12, .int .i64 a0_4, .int .i64 a0_5, .int .i64 a0_6, .int .i64 a0_7, .bool a0_8] (0, 0) _ rfl (by (with_reducible repeat (first | refine blk_drewN ?_ _ | refine blk_drew ?_ | refine blk_alloc ?_ _)); refine blk_put (cs := #[.int .i64 t42004, .int .i64 t42005, .int .i64 t42006, .slice Ao12 t42007.length co12, .int .i64 a0_4, .int .i64 a0_5, .int .i64 a0_6, .int .i64 a0_7, .bool false]) ?_ 8 _ rfl; (with_reducible repeat (first | refine blk_drewN ?_ _ | refine blk_drew ?_ | refine blk_alloc ?_ _)); refine blk_put (cs := #[.int .i64 t42004, .int .i64 t42005, .int .i64 t42006, .slice Ao12 t42007.length co12, .int .i64 a0_4, .int .i64 a0_5, .int .i64 a0_6, .int .i64 0, .bool false]) ?_ 7 _ rfl; (with_reducible repeat (first | refine blk_drewN ?_ _ | refine blk_drew ?_ | refine blk_alloc ?_ _)); refine blk_put (cs := #[.int .i64 t42004, .int .i64 t42005, .int .i64 t42006, .slice Ao12 t42007.length co12, .int .i64 a0_4, .int .i64 a0_5, .int .i64 0, .int .i64 0, .bool false]) ?_ 6 _ rfl; (with_reducible repeat (first | refine blk_drewN ?_ _ | refine blk_drew ?_ | refine blk_alloc ?_ _)); refine blk_put (cs := #[.int .i64 t42004, .int .i64 t42005, .int .i64 t42006, .slice Ao12 t42007.length co12, .int .i64 a0_4, .int .i64 0, .int .i64 0, .int .i64 0, .bool false]) ?_ 5 _ rfl; (with_reducible repeat (first | refine blk_drewN ?_ _ | refine blk_drew ?_ | refine blk_alloc ?_ _)); refine blk_put (cs := #[.int .i64 t42004, .int .i64 t42005, .int .i64 t42006, .slice Ao12 t42007.length co12, .int .i64 0, .int .i64 0, .int .i64 0, .int .i64 0, .bool false]) ?_ 4 _ rfl; (with_reducible repeat (first | refine blk_drewN ?_ _ | refine blk_drew ?_ | refine blk_alloc ?_ _)); refine blk_put (cs := #[.int .i64 t42004, .int .i64 t42005, .int .i64 t42006, .slice none 0 0, .int .i64 0, .int .i64 0, .int .i64 0, .int .i64 0, .bool false]) ?_ 3 _ rfl; (with_reducible repeat (first | refine blk_drewN ?_ _ | refine blk_drew ?_ | refine blk_alloc ?_ _)); refine blk_put (cs := #[.int .i64 t42004, .int .i64 t42005, .int .i64 0, .slice none 0 0, .int .i64 0, .int .i64 0, .int .i64 0, .int .i64 0, .bool false]) ?_ 2 _ rfl; (with_reducible repeat (first | refine blk_drewN ?_ _ | refine blk_drew ?_ | refine blk_alloc ?_ _)); refine blk_put (cs := #[.int .i64 t42004, .int .i64 0, .int .i64 0, .slice none 0 0, .int .i64 0, .int .i64 0, .int .i64 0, .int .i64 0, .bool false]) ?_ 1 _ rfl; (with_reducible repeat (first | refine blk_drewN ?_ _ | refine blk_drew ?_ | refine blk_alloc ?_ _)); refine blk_put (cs := #[.int .i64 0, .int .i64 0, .int .i64 0, .slice none 0 0, .int .i64 0, .int .i64 0, .int .i64 0, .int .i64 0, .bool false]) ?_ 0 _ rfl; (with_reducible repeat (first | refine blk_drewN ?_ _ | refine blk_drew ?_ | refine blk_alloc ?_ _)); refine blk_far ?_ NB42002_42003.out _; (with_reducible repeat (first | refine blk_drewN ?_ _ | refine blk_drew ?_ | refine blk_alloc ?_ _)); refine blk_far ?_ NB42002_42003.out _; (with_reducible repeat (first | refine blk_drewN ?_ _ | refine blk_drew ?_ | refine blk_alloc ?_ _)); refine blk_far ?_ NB42002_42003.out _; (with_reducible repeat (first | refine blk_drewN ?_ _ | refine blk_drew ?_ | refine blk_alloc ?_ _)); refine blk_far ?_ NB42002_42003.out _; (with_reducible repeat (first | refine blk_drewN ?_ _ | refine blk_drew ?_ | refine blk_alloc ?_ _)); refine blk_far ?_ NB42002_42003.out _; (with_reducible repeat (first | refine blk_drewN ?_ _ | refine blk_drew ?_ | refine blk_alloc ?_ _)); refine blk_far ?_ NB42002_42003.out _; (with_reducible repeat (first | refine blk_drewN ?_ _ | refine blk_drew ?_ | refine blk_alloc ?_ _)); refine blk_far ?_ NB42002_42003.out _; (with_reducible repeat (first | refine blk_drewN ?_ _ | refine blk_drew ?_ | refine blk_alloc ?_ _)); refine blk_far ?_ NB42002_42003.out _; (with_reducible repeat (first | refine blk_drewN ?_ _ | refine blk_drew ?_ | refine blk_alloc ?_ _)); refine blk_far ?_ NB42002_42003.out _; (with_reducible repeat (first | refine blk_drewN ?_ _ | refine blk_drew ?_ | refine blk_alloc ?_ _)); exact BK42002.out) Try.underlying55 rfl (by kernel_rfl)) rfl ?_
  exact ⟨_, by first | rfl | (simp [errW_none, errW_some] <;> rfl) | (simp [*, errW_none, errW_some] <;> rfl), by (with_reducible repeat (first | apply Kd.R_alloc | apply Kd.R_drewN | apply Kd.R_drew)); exact Kd.R_mono (Kd.R_far (p := ⟨gb42002, 8, none⟩) (Kd.R_far (p := ⟨gb42002, 7, none⟩) (Kd.R_far (p := ⟨gb42002, 6, none⟩) (Kd.R_far (p := ⟨gb42002, 5, none⟩) (Kd.R_far (p := ⟨gb42002, 4, none⟩) (Kd.R_far (p := ⟨gb42002, 3, none⟩) (Kd.R_far (p := ⟨gb42002, 2, none⟩) (Kd.R_far (p := ⟨gb42002, 1, none⟩) (Kd.R_far (p := ⟨gb42002, 0, none⟩) (Kd.R_far (p := ⟨gb42003, 8, none⟩) (Kd.R_far (p := ⟨gb42003, 7, none⟩) (Kd.R_far (p := ⟨gb42003, 6, none⟩) (Kd.R_far (p := ⟨gb42003, 5, none⟩) (Kd.R_far (p := ⟨gb42003, 4, none⟩) (Kd.R_far (p := ⟨gb42003, 3, none⟩) (Kd.R_far (p := ⟨gb42003, 2, none⟩) (Kd.R_far (p := ⟨gb42003, 1, none⟩) (Kd.R_far (p := ⟨gb42003, 0, none⟩) (Kd.R_types (Kd.R_types HO42009.out BK42003.out (by decide)) BK42002.out (by decide)) (fun _ hk => hk.1.2) (.int .i64 t42004)) (fun _ hk => hk.1.2) (.int .i64 t42005)) (fun _ hk => hk.1.2) (.int .i64 t42006)) (fun _ hk => hk.1.2) (.slice Ao12 t42007.length co12)) (fun _ hk => hk.1.2) (.int .i64 a0_4)) (fun _ hk => hk.1.2) (.int .i64 a0_5)) (fun _ hk => hk.1.2) (.int .i64 a0_6)) (fun _ hk => hk.1.2) (.int .i64 a0_7)) (fun _ hk => hk.1.2) (.bool a0_8)) (fun _ hk => hk.2) (.int .i64 t42004)) (fun _ hk => hk.2) (.int .i64 t42005)) (fun _ hk => hk.2) (.int .i64 t42006)) (fun _ hk => hk.2) (.slice Ao12 t42007.length co12)) (fun _ hk => hk.2) (.int .i64 a0_4)) (fun _ hk => hk.2) (.int .i64 a0_5)) (fun _ hk => hk.2) (.int .i64 a0_6)) (fun _ hk => hk.2) (.int .i64 a0_7)) (fun _ hk => hk.2) (.bool a0_8)) (fun _ hk => trivial), by repeat (first | (with_reducible first | exact HB.out | apply below_alloc | apply pw_below_drewN | apply below_drew1 | refine below_set ?_ GE42001.out | refine below_set ?_ GE42002.out | refine below_set ?_ GE42003.out) | exact HB.out)⟩

end Go.Proofs.Ytnofkbbcbpjhfaa.Q

namespace Go.Proofs.Ytnofkbbcbpjhfaa.Q
open Go.RowKit Go.Proofs.YtnofkbbcbpjhfaaW.PrintWords Go.Proofs.YtnofkbbcbpjhfaaW.PrintLast Go.Proofs.YtnofkbbcbpjhfaaW.PrintMore
attribute [local go_sem] max2_int min2_int max_two min_two max_three min_three max_four min_four
set_option linter.unusedVariables false
set_option linter.unusedSimpArgs false
/-! ### impl_isSide: function 153 -/
def impl_isSide.f (a0 : Int) : Option (Bool) := if a0 ≥ 1 then (some (decide (a0 ≤ 16))) else (some false)
set_option maxHeartbeats 8000000 in
set_option maxRecDepth 100000 in
theorem impl_isSide.calls (a0 : Int) (r : Bool) (w : World) (h : impl_isSide.f a0 = some r) :
    Calls Try.prog 153 #[.int .i64 a0] w fun e w' => e = .returned (.bool r) ∧ Drawn0 w w' := by
  have H : (if a0 ≥ 1 then (some (decide (a0 ≤ 16))) else (some false)) = some r := h
  clear h
  by_cases c2 : a0 ≥ 1
  · rw [if_pos c2] at H
    have c2b0 : decide (1 ≤ a0) = true := decide_eq_true c2
    clear c2
    obtain rfl := Option.some.inj H
    go_enter Try.func153, Try.ntmps153
    go_wp2
    go_ret
    exact ⟨by first | rfl | (simp; done) | (simp [*]; done), by repeat (first | exact Drawn0.refl _ | apply Drawn0.step)⟩
  · rw [if_neg c2] at H
    have c2b0 : decide (1 ≤ a0) = false := decide_eq_false c2
    clear c2
    obtain rfl := Option.some.inj H
    go_enter Try.func153, Try.ntmps153
    go_wp2
    go_ret
    exact ⟨by first | rfl | (simp; done) | (simp [*]; done), by repeat (first | exact Drawn0.refl _ | apply Drawn0.step)⟩

end Go.Proofs.Ytnofkbbcbpjhfaa.Q

namespace Go.Proofs.Ytnofkbbcbpjhfaa.Q
open Go.RowKit Go.Proofs.YtnofkbbcbpjhfaaW.PrintWords Go.Proofs.YtnofkbbcbpjhfaaW.PrintLast Go.Proofs.YtnofkbbcbpjhfaaW.PrintMore
attribute [local go_sem] max2_int min2_int max_two min_two max_three min_three max_four min_four
set_option linter.unusedVariables false
set_option linter.unusedSimpArgs false
/-! ### impl_isShape: function 131 -/
def impl_isShape.f (a0 : Int) (a1 : Int) (a2 : Int) : Option (Bool) := (impl_isSide.f a0).bind fun t132001 => (if t132001 = true then ((impl_isSide.f a1).bind fun t132002 => (if t132002 = true then (if a2 ≥ 1 then (some (decide (a2 ≤ 4))) else (some false)) else (some false))) else (some false))
set_option maxHeartbeats 8000000 in
set_option maxRecDepth 100000 in
theorem impl_isShape.calls (a0 : Int) (a1 : Int) (a2 : Int) (r : Bool) (w : World) (h : impl_isShape.f a0 a1 a2 = some r) :
    Calls Try.prog 131 #[.int .i64 a0, .int .i64 a1, .int .i64 a2] w fun e w' => e = .returned (.bool r) ∧ Drawn0 w w' := by
  have H : ((impl_isSide.f a0).bind fun t132001 => (if t132001 = true then ((impl_isSide.f a1).bind fun t132002 => (if t132002 = true then (if a2 ≥ 1 then (some (decide (a2 ≤ 4))) else (some false)) else (some false))) else (some false))) = some r := h
  clear h
  replace H := Option.bind_eq_some_iff.mp H
  obtain ⟨t132001, A40, H⟩ := H
  replace H : (if t132001 = true then ((impl_isSide.f a1).bind fun t132002 => (if t132002 = true then (if a2 ≥ 1 then (some (decide (a2 ≤ 4))) else (some false)) else (some false))) else (some false)) = some r := H
  have A4 := Aside0.mk A40
  clear A40
  by_cases c5 : t132001 = true
  · subst c5
    have H1 : ((impl_isSide.f a1).bind fun t132002 => (if t132002 = true then (if a2 ≥ 1 then (some (decide (a2 ≤ 4))) else (some false)) else (some false))) = some r := by rw [if_pos rfl] at H; exact H
    clear H
    have H := H1
    clear H1
    replace H := Option.bind_eq_some_iff.mp H
    obtain ⟨t132002, A60, H⟩ := H
    replace H : (if t132002 = true then (if a2 ≥ 1 then (some (decide (a2 ≤ 4))) else (some false)) else (some false)) = some r := H
    have A6 := Aside0.mk A60
    clear A60
    by_cases c7 : t132002 = true
    · subst c7
      have H1 : (if a2 ≥ 1 then (some (decide (a2 ≤ 4))) else (some false)) = some r := by rw [if_pos rfl] at H; exact H
      clear H
      have H := H1
      clear H1
      by_cases c8 : a2 ≥ 1
      · rw [if_pos c8] at H
        have c8b0 : decide (1 ≤ a2) = true := decide_eq_true c8
        clear c8
        obtain rfl := Option.some.inj H
        go_enter Try.func131, Try.ntmps131
        go_wp2_with (first | ((with_reducible refine gate_callee (f := 153) rfl ?_); refine goesL_ (some 8) rfl rfl Try.func153 (by kernel_rfl) rfl #[.int .i64 a0] rfl (by (try simp only [List.map_toArray, List.map_cons, List.map_nil]); first | done | rfl | (simp only [List.length_drop, List.length_take]; rfl)) ?_; (with_reducible refine (impl_isSide.calls a0 true _ A4.out).mono ?_); rintro e w' ⟨rfl, ⟨nd, rfl⟩⟩; refine ⟨_, rfl, ?_⟩) | (go_at_call 153; (with_reducible refine (impl_isSide.calls a1 true _ A6.out).mono ?_); rintro e w' ⟨rfl, ⟨nd, rfl⟩⟩))
        go_ret
        exact ⟨by first | rfl | (simp; done) | (simp [*]; done), by repeat (first | exact Drawn0.refl _ | apply Drawn0.step)⟩
      · rw [if_neg c8] at H
        have c8b0 : decide (1 ≤ a2) = false := decide_eq_false c8
        clear c8
        obtain rfl := Option.some.inj H
        go_enter Try.func131, Try.ntmps131
        go_wp2_with (first | ((with_reducible refine gate_callee (f := 153) rfl ?_); refine goesL_ (some 8) rfl rfl Try.func153 (by kernel_rfl) rfl #[.int .i64 a0] rfl (by (try simp only [List.map_toArray, List.map_cons, List.map_nil]); first | done | rfl | (simp only [List.length_drop, List.length_take]; rfl)) ?_; (with_reducible refine (impl_isSide.calls a0 true _ A4.out).mono ?_); rintro e w' ⟨rfl, ⟨nd, rfl⟩⟩; refine ⟨_, rfl, ?_⟩) | (go_at_call 153; (with_reducible refine (impl_isSide.calls a1 true _ A6.out).mono ?_); rintro e w' ⟨rfl, ⟨nd, rfl⟩⟩))
        go_ret
        exact ⟨by first | rfl | (simp; done) | (simp [*]; done), by repeat (first | exact Drawn0.refl _ | apply Drawn0.step)⟩
    · replace c7 := Bool.eq_false_iff.mpr c7
      subst c7
      have H1 : (some false) = some r := by rw [if_neg (show ¬ (false = true) by decide)] at H; exact H
      clear H
      have H := H1
      clear H1
      obtain rfl := Option.some.inj H
      go_enter Try.func131, Try.ntmps131
      go_wp2_with (first | ((with_reducible refine gate_callee (f := 153) rfl ?_); refine goesL_ (some 8) rfl rfl Try.func153 (by kernel_rfl) rfl #[.int .i64 a0] rfl (by (try simp only [List.map_toArray, List.map_cons, List.map_nil]); first | done | rfl | (simp only [List.length_drop, List.length_take]; rfl)) ?_; (with_reducible refine (impl_isSide.calls a0 true _ A4.out).mono ?_); rintro e w' ⟨rfl, ⟨nd, rfl⟩⟩; refine ⟨_, rfl, ?_⟩) | (go_at_call 153; (with_reducible refine (impl_isSide.calls a1 false _ A6.out).mono ?_); rintro e w' ⟨rfl, ⟨nd, rfl⟩⟩))
      go_ret
      exact ⟨by first | rfl | (simp; done) | (simp [*]; done), by repeat (first | exact Drawn0.refl _ | apply Drawn0.step)⟩
  · replace c5 := Bool.eq_false_iff.mpr c5
    subst c5
    have H1 : (some false) = some r := by rw [if_neg (show ¬ (false = true) by decide)] at H; exact H
    clear H
    have H := H1
    clear H1
    obtain rfl := Option.some.inj H
    go_enter Try.func131, Try.ntmps131
    go_wp2_with (first | ((with_reducible refine gate_callee (f := 153) rfl ?_); refine goesL_ (some 8) rfl rfl Try.func153 (by kernel_rfl) rfl #[.int .i64 a0] rfl (by (try simp only [List.map_toArray, List.map_cons, List.map_nil]); first | done | rfl | (simp only [List.length_drop, List.length_take]; rfl)) ?_; (with_reducible refine (impl_isSide.calls a0 false _ A4.out).mono ?_); rintro e w' ⟨rfl, ⟨nd, rfl⟩⟩; refine ⟨_, rfl, ?_⟩))
    go_ret
    exact ⟨by first | rfl | (simp; done) | (simp [*]; done), by repeat (first | exact Drawn0.refl _ | apply Drawn0.step)⟩

end Go.Proofs.Ytnofkbbcbpjhfaa.Q

/- Words of this session's own hand-made walks: where the first element lies for which a test holds; draws that follow each other. -/
namespace Go.Proofs.Ytnofkbbcbpjhfaa.Q
open Go.RowKit Go.Proofs.YtnofkbbcbpjhfaaW.PrintWords Go.Proofs.YtnofkbbcbpjhfaaW.PrintLast Go.Proofs.YtnofkbbcbpjhfaaW.PrintMore
attribute [local go_sem] max2_int min2_int max_two min_two max_three min_three max_four min_four
set_option linter.unusedVariables false
set_option linter.unusedSimpArgs false

theorem dtrans {a b c : World} (h : Drawn0 a b) (k : Drawn0 b c) : Drawn0 a c := by
  obtain ⟨n, rfl⟩ := k
  exact h.step n

/-- where the first element is for which p holds; -1 -/
def idxF {α : Type} (p : α → Bool) : List α → Int
  | [] => -1
  | x :: xs => if p x then 0 else (let r := idxF p xs; if r < 0 then -1 else r + 1)
theorem idxF_any {α : Type} (p : α → Bool) (l : List α) : decide (idxF p l ≥ 0) = l.any p := by
  induction l with
  | nil => simp [idxF]
  | cons x xs ih =>
    unfold idxF
    by_cases h : p x = true
    · simp [h]
    · simp only [h, List.any_cons, Bool.false_or, ← ih]
      simp only [Bool.false_eq_true, if_false]
      split
      · simp; omega
      · simp; omega
/-- p fails at all that lies before k -/
def SawNone {α : Type} (p : α → Bool) (l : List α) (k : Nat) : Prop := ∀ j, j < k → ∀ h : j < l.length, p l[j] = false
theorem SawNone.succ {α : Type} {p : α → Bool} {l : List α} {k : Nat} (h : SawNone p l k) (hk : k < l.length) (hp : p l[k] = false) : SawNone p l (k + 1) := by
  intro j hj hl
  by_cases e : j = k
  · subst e; exact hp
  · exact h j (by omega) hl
theorem idxF_at {α : Type} (p : α → Bool) (l : List α) (k : Nat) (hk : k < l.length) (hs : SawNone p l k) (hp : p l[k] = true) : idxF p l = k := by
  induction l generalizing k with
  | nil => simp at hk
  | cons x xs ih =>
    unfold idxF
    cases k with
    | zero => simp at hp; simp [hp]
    | succ k =>
      have h0 : p x = false := hs 0 (by omega) (by simp)
      have := ih k (by simpa using hk) (fun j hj h => hs (j + 1) (by omega) (by simpa using h)) (by simpa using hp)
      simp [h0, this]; omega
theorem idxF_none {α : Type} (p : α → Bool) (l : List α) (hs : SawNone p l l.length) : idxF p l = -1 := by
  induction l with
  | nil => rfl
  | cons x xs ih =>
    unfold idxF
    have h0 : p x = false := hs 0 (by simp) (by simp)
    have := ih (fun j hj h => hs (j + 1) (by simpa using hj) (by simpa using h))
    simp [h0, this]
theorem rd_get (l : List Int) (k : Nat) (hk : k < l.length) : rd l k = l[k] := by simp [rd, hk]
theorem ret_bool {a b : Bool} (h : a = b) : Ending.returned (.bool a) = .returned (.bool b) := by rw [h]
end Go.Proofs.Ytnofkbbcbpjhfaa.Q

/- slices.IndexFunc over whole numbers: where the first element lies for which the function value's answer is true. -/
namespace Go.Proofs.Ytnofkbbcbpjhfaa.Q
open Go.RowKit Go.Proofs.YtnofkbbcbpjhfaaW.PrintWords Go.Proofs.YtnofkbbcbpjhfaaW.PrintLast Go.Proofs.YtnofkbbcbpjhfaaW.PrintMore
attribute [local go_sem] max2_int min2_int max_two min_two max_three min_three max_four min_four
set_option linter.unusedVariables false
set_option linter.unusedSimpArgs false

set_option maxHeartbeats 1000000 in
theorem idxFunc_int (g : Nat) (lb : Array Value) (p : Int → Bool) (A : Option Addr) (c : Nat) (l : List Int) (w : World)
    (eg : ∀ args W, (callFunc g args).run Try.prog W = .ok (.enter g args) W)
    (hp : ∀ (W : World) (x : Int), Below w.heap.size w W → Calls Try.prog g (#[.int .i64 x] ++ lb) W fun e W' => e = .returned (.bool (p x)) ∧ Drawn0 W W')
    (hr : Kd.C (Kd.int .i64) w A l.length l) :
    Calls Try.prog 162 #[.slice A l.length c, .func (.func g) #[] lb] w fun e w' => e = .returned (.int .i64 (idxF p l)) ∧ Drawn0 w w' := by
  have hm : l.length ≤ 9223372036854775807 := hr.2.1
  have HP := Aside0.mk hp
  have HR := Aside0.mk hr
  clear hp hr
  go_enter Try.func162, Try.ntmps162
  go_wp2
  go_loopw [8] (fun v8 W => ∃ k : Nat, v8 = .int .i64 k ∧ k ≤ l.length ∧ SawNone p l k ∧ Drawn0 w W) (fun v8 _ => l.length - (intOf v8).toNat)
  case atStart => exact ⟨0, rfl, by omega, fun j hj => by omega, Drawn0.refl _⟩
  case round =>
    obtain ⟨k, rfl, hk, hs, hd⟩ := hrel
    by_cases hlt : k < l.length
    · obtain ⟨ad, e, hx⟩ := Kd.at_int HR.out (k : Int) (by omega) (by omega)
      cases e
      rw [rd_get l k hlt, Int.toNat_natCast] at hx
      replace hx := (hd.below.cell (World.block_lt_of_cell? w _ hx)).trans hx
      by_cases hv : p l[k] = true
      · have HV := Aside0.mk hv
        clear hv
        go_wp2_with (first | (go_at_fn g; refine (HP.out _ _ hd.below).mono ?_; rintro e w' ⟨rfl, hd2⟩; rw [HV.out]))
        go_ret
        exact ⟨by rw [idxF_at p l k hlt hs HV.out]; rfl, dtrans hd hd2⟩
      · replace hv : p l[k] = false := by simpa using hv
        have hs' := hs.succ hlt hv
        have HV := Aside0.mk hv
        clear hv
        go_wp2_with (first | (go_at_fn g; refine (HP.out _ _ hd.below).mono ?_; rintro e w' ⟨rfl, hd2⟩; rw [HV.out]))
        go_roundw
        case rel => exact ⟨k + 1, by go_num, by omega, hs', dtrans hd hd2⟩
        case measure => simp [intOf]; omega
    · go_wp2
      go_ret
      have : k = l.length := by omega
      subst this
      exact ⟨by rw [idxF_none p l hs]; rfl, hd⟩
end Go.Proofs.Ytnofkbbcbpjhfaa.Q

/- slices.ContainsFunc over whole numbers. -/
namespace Go.Proofs.Ytnofkbbcbpjhfaa.Q
open Go.RowKit Go.Proofs.YtnofkbbcbpjhfaaW.PrintWords Go.Proofs.YtnofkbbcbpjhfaaW.PrintLast Go.Proofs.YtnofkbbcbpjhfaaW.PrintMore
attribute [local go_sem] max2_int min2_int max_two min_two max_three min_three max_four min_four
set_option linter.unusedVariables false
set_option linter.unusedSimpArgs false

set_option maxHeartbeats 1000000 in
theorem containsFunc_int (g : Nat) (lb : Array Value) (p : Int → Bool) (A : Option Addr) (c : Nat) (l : List Int) (w : World)
    (eg : ∀ args W, (callFunc g args).run Try.prog W = .ok (.enter g args) W)
    (hp : ∀ (W : World) (x : Int), Below w.heap.size w W → Calls Try.prog g (#[.int .i64 x] ++ lb) W fun e W' => e = .returned (.bool (p x)) ∧ Drawn0 W W')
    (hr : Kd.C (Kd.int .i64) w A l.length l) :
    Calls Try.prog 154 #[.slice A l.length c, .func (.func g) #[] lb] w fun e w' => e = .returned (.bool (l.any p)) ∧ Drawn0 w w' := by
  have HP := Aside0.mk hp
  have HR := Aside0.mk hr
  clear hp hr
  go_enter Try.func154, Try.ntmps154
  go_wp2_with (first | (go_at_call 162; refine (idxFunc_int g lb p _ _ _ _ eg HP.out HR.out).mono ?_; rintro e w' ⟨rfl, hd⟩))
  go_ret
  exact ⟨ret_bool (by first | exact idxF_any p l | (rw [← idxF_any p l])), hd⟩
end Go.Proofs.Ytnofkbbcbpjhfaa.Q

/- impl.areBytes: every number is in 0..255. -/
namespace Go.Proofs.Ytnofkbbcbpjhfaa.Q
open Go.RowKit Go.Proofs.YtnofkbbcbpjhfaaW.PrintWords Go.Proofs.YtnofkbbcbpjhfaaW.PrintLast Go.Proofs.YtnofkbbcbpjhfaaW.PrintMore
attribute [local go_sem] max2_int min2_int max_two min_two max_three min_three max_four min_four
set_option linter.unusedVariables false
set_option linter.unusedSimpArgs false

def notByte (n : Int) : Bool := decide (n < 0) || decide (n > 255)
def impl_areBytes.f (l0 : List Int) : Option Bool := some (!l0.any notByte)

theorem areBytes1 (n : Int) (w : World) : Calls Try.prog 155 #[.int .i64 n] w fun e w' => e = .returned (.bool (notByte n)) ∧ Drawn0 w w' := by
  by_cases h1 : n < 0 <;> by_cases h2 : n > 255
  all_goals
    go_enter Try.func155, Try.ntmps155
    go_wp2
    go_ret
    exact ⟨by simp [notByte, *], Drawn0.refl _⟩

set_option maxHeartbeats 1000000 in
theorem impl_areBytes.calls (A0 : Option Addr) (c0 : Nat) (l0 : List Int) (r : Bool) (w : World) (hr0 : Kd.C (Kd.int .i64) w A0 l0.length l0) (hc0 : l0.length ≤ c0) (h : impl_areBytes.f l0 = some r) :
    Calls Try.prog 132 #[.slice A0 l0.length c0] w fun e w' => e = .returned (.bool r) ∧ Drawn0 w w' := by
  obtain rfl := Option.some.inj h
  clear h
  have HR := Aside0.mk hr0
  clear hr0
  have eg : ∀ args W, (callFunc 155 args).run Try.prog W = .ok (.enter 155 args) W := enters_of Try.func155 (by kernel_rfl) rfl
  go_enter Try.func132, Try.ntmps132
  go_wp2_with (first | (go_at_call 154; refine (containsFunc_int 155 #[] notByte _ _ _ _ eg (fun W x _ => areBytes1 x W) HR.out).mono ?_; rintro e w' ⟨rfl, hd⟩))
  go_ret
  exact ⟨rfl, hd⟩
end Go.Proofs.Ytnofkbbcbpjhfaa.Q

namespace Go.Proofs.Ytnofkbbcbpjhfaa.Q
open Go.RowKit Go.Proofs.YtnofkbbcbpjhfaaW.PrintWords Go.Proofs.YtnofkbbcbpjhfaaW.PrintLast Go.Proofs.YtnofkbbcbpjhfaaW.PrintMore
attribute [local go_sem] max2_int min2_int max_two min_two max_three min_three max_four min_four
set_option linter.unusedVariables false
set_option linter.unusedSimpArgs false
/-! ### impl_isImage: function 83 -/
def impl_isImage.f (a0_0 : Int) (a0_1 : Int) (a0_2 : Int) (l0_3 : List Int) : Option (Bool) := (impl_isShape.f a0_0 a0_1 a0_2).bind fun t84002 => (if t84002 = true then (if (l0_3.length : Int) = (wrap64 ((wrap64 (a0_0 * a0_1)) * a0_2)) then ((impl_areBytes.f l0_3).bind fun t84003 => (some t84003)) else (some false)) else (some false))
set_option maxHeartbeats 8000000 in
set_option maxRecDepth 100000 in
theorem impl_isImage.calls (a0_0 : Int) (a0_1 : Int) (a0_2 : Int) (A0_3 : Option Addr) (c0_3 : Nat) (l0_3 : List Int) (r : Bool) (w : World) (hr0_3 : Kd.C (Kd.int .i64) w A0_3 l0_3.length l0_3) (hc0_3 : l0_3.length ≤ c0_3) (h : impl_isImage.f a0_0 a0_1 a0_2 l0_3 = some r) :
    Calls Try.prog 83 #[.agg #[.int .i64 a0_0, .int .i64 a0_1, .int .i64 a0_2, .slice A0_3 l0_3.length c0_3]] w fun e w' => e = .returned (.bool r) ∧ Below w.heap.size w w' := by
  have hu27 := Try.underlying27
  have HR0_3 := Aside0.mk hr0_3
  have HC0_3 := Aside0.mk hc0_3
  clear hr0_3 hc0_3
  have HB := Aside0.mk (Below.refl w.heap.size w)
  have H : ((impl_isShape.f a0_0 a0_1 a0_2).bind fun t84002 => (if t84002 = true then (if (l0_3.length : Int) = (wrap64 ((wrap64 (a0_0 * a0_1)) * a0_2)) then ((impl_areBytes.f l0_3).bind fun t84003 => (some t84003)) else (some false)) else (some false))) = some r := h
  clear h
  replace H := Option.bind_eq_some_iff.mp H
  obtain ⟨t84002, A20, H⟩ := H
  replace H : (if t84002 = true then (if (l0_3.length : Int) = (wrap64 ((wrap64 (a0_0 * a0_1)) * a0_2)) then ((impl_areBytes.f l0_3).bind fun t84003 => (some t84003)) else (some false)) else (some false)) = some r := H
  have A2 := Aside0.mk A20
  clear A20
  by_cases c3 : t84002 = true
  · subst c3
    have H1 : (if (l0_3.length : Int) = (wrap64 ((wrap64 (a0_0 * a0_1)) * a0_2)) then ((impl_areBytes.f l0_3).bind fun t84003 => (some t84003)) else (some false)) = some r := by rw [if_pos rfl] at H; exact H
    clear H
    have H := H1
    clear H1
    by_cases c4 : (l0_3.length : Int) = (wrap64 ((wrap64 (a0_0 * a0_1)) * a0_2))
    · rw [if_pos c4] at H
      have c4b0 : ((l0_3.length : Int) == (wrap64 ((wrap64 (a0_0 * a0_1)) * a0_2))) = true := beq_iff_eq.mpr c4
      have c4b1 : ((l0_3.length : Int) != (wrap64 ((wrap64 (a0_0 * a0_1)) * a0_2))) = false := bne_eq_false_iff_eq.mpr c4
      clear c4
      replace H := Option.bind_eq_some_iff.mp H
      obtain ⟨t84003, A50, H⟩ := H
      replace H : (some t84003) = some r := H
      have A5 := Aside0.mk A50
      clear A50
      obtain rfl := Option.some.inj H
      go_enter Try.func83, Try.ntmps83
      go_wp2_with (first | ((with_reducible refine gate_dst (N := 1) rfl ?_); (try (refine gate_guard (by rfl) ?_; dsimp only)); refine box_event ?hg (N := 1) ?hd (cs := #[.int .i64 a0_0, .int .i64 a0_1, .int .i64 a0_2, .slice A0_3 l0_3.length c0_3]) (t := 27) ?hr ?_; (case hd => rfl); (case hg => rfl); (case hr => first | (go_simp; done) | (go_simp; rfl)); intro gb84001 hg w6 hbox hb; have n0_ := Aside0.mk (below_step (by repeat (first | (with_reducible first | exact HB.out | apply below_alloc | apply pw_below_drewN | apply below_drew1) | exact HB.out)) hb); have n1_ := Aside0.mk (hbox); have n2_ := Aside0.mk ((by rw [hg]; exact (below_size (by repeat (first | (with_reducible first | exact HB.out | apply below_alloc | apply pw_below_drewN | apply below_drew1) | exact HB.out))) : w.heap.size ≤ gb84001)); have n3_ := Aside0.mk ((by rw [hg]; exact (below_size (by repeat (first | (with_reducible first | exact HB.out | apply below_alloc | apply pw_below_drewN | apply below_drew1) | exact HB.out))) : w.heap.size ≤ gb84001)); clear HB; have HB := n0_; have BK84001 := n1_; have GW84001 := n2_; have GE84001 := n3_; clear n0_ n1_ n2_ n3_; clear hb hbox hg; have hcz7_0 : w6.cell? ⟨gb84001, 0, none⟩ = some (.int .i64 a0_0) := (blk_cell BK84001.out 0).trans rfl; have hcz7_1 : w6.cell? ⟨gb84001, 1, none⟩ = some (.int .i64 a0_1) := (blk_cell BK84001.out 1).trans rfl; have hcz7_2 : w6.cell? ⟨gb84001, 2, none⟩ = some (.int .i64 a0_2) := (blk_cell BK84001.out 2).trans rfl; have hcz7_3 : w6.cell? ⟨gb84001, 3, none⟩ = some (.slice A0_3 l0_3.length c0_3) := (blk_cell BK84001.out 3).trans rfl; have hfz7_0 := blk_frozen BK84001.out 0; have hfz7_1 := blk_frozen BK84001.out 1; have hfz7_2 := blk_frozen BK84001.out 2; have hfz7_3 := blk_frozen BK84001.out 3) | ((with_reducible refine gate_callee (f := 131) rfl ?_); refine goesL_ (some 9) rfl rfl Try.func131 (by kernel_rfl) rfl #[.int .i64 a0_0, .int .i64 a0_1, .int .i64 a0_2] rfl (by (try simp only [List.map_toArray, List.map_cons, List.map_nil]); first | done | rfl | (simp only [List.length_drop, List.length_take]; rfl)) ?_; (with_reducible refine (impl_isShape.calls a0_0 a0_1 a0_2 true _ A2.out).mono ?_); rintro e w' ⟨rfl, ⟨nd, rfl⟩⟩; refine ⟨_, rfl, ?_⟩) | (go_at_call 132; (with_reducible refine (impl_areBytes.calls _ _ l0_3 t84003 _ ?side1 ?side2 A5.out).mono ?_); (case side1 => repeat (first | exact (Kd.C_below HR0_3.out (by repeat (first | (with_reducible first | exact HB.out | apply below_alloc | apply pw_below_drewN | apply below_drew1 | refine below_set ?_ GE84001.out) | exact HB.out))) | (with_reducible refine Kd.C_alloc ?_ _) | (with_reducible refine Kd.C_drewN ?_ _) | (with_reducible refine Kd.C_drew ?_))); (case side2 => exact HC0_3.out); rintro e w' ⟨rfl, ⟨nd, rfl⟩⟩))
      go_ret
      exact ⟨by first | rfl | (simp [errW_none, errW_some] <;> rfl) | (simp [*, errW_none, errW_some] <;> rfl), by repeat (first | (with_reducible first | exact HB.out | apply below_alloc | apply pw_below_drewN | apply below_drew1 | refine below_set ?_ GE84001.out) | exact HB.out)⟩
    · rw [if_neg c4] at H
      have c4b0 : ((l0_3.length : Int) == (wrap64 ((wrap64 (a0_0 * a0_1)) * a0_2))) = false := beq_eq_false_iff_ne.mpr c4
      have c4b1 : ((l0_3.length : Int) != (wrap64 ((wrap64 (a0_0 * a0_1)) * a0_2))) = true := bne_iff_ne.mpr c4
      obtain rfl := Option.some.inj H
      go_enter Try.func83, Try.ntmps83
      go_wp2_with (first | ((with_reducible refine gate_dst (N := 1) rfl ?_); (try (refine gate_guard (by rfl) ?_; dsimp only)); refine box_event ?hg (N := 1) ?hd (cs := #[.int .i64 a0_0, .int .i64 a0_1, .int .i64 a0_2, .slice A0_3 l0_3.length c0_3]) (t := 27) ?hr ?_; (case hd => rfl); (case hg => rfl); (case hr => first | (go_simp; done) | (go_simp; rfl)); intro gb84001 hg w8 hbox hb; have n0_ := Aside0.mk (below_step (by repeat (first | (with_reducible first | exact HB.out | apply below_alloc | apply pw_below_drewN | apply below_drew1) | exact HB.out)) hb); have n1_ := Aside0.mk (hbox); have n2_ := Aside0.mk ((by rw [hg]; exact (below_size (by repeat (first | (with_reducible first | exact HB.out | apply below_alloc | apply pw_below_drewN | apply below_drew1) | exact HB.out))) : w.heap.size ≤ gb84001)); have n3_ := Aside0.mk ((by rw [hg]; exact (below_size (by repeat (first | (with_reducible first | exact HB.out | apply below_alloc | apply pw_below_drewN | apply below_drew1) | exact HB.out))) : w.heap.size ≤ gb84001)); clear HB; have HB := n0_; have BK84001 := n1_; have GW84001 := n2_; have GE84001 := n3_; clear n0_ n1_ n2_ n3_; clear hb hbox hg; have hcz9_0 : w8.cell? ⟨gb84001, 0, none⟩ = some (.int .i64 a0_0) := (blk_cell BK84001.out 0).trans rfl; have hcz9_1 : w8.cell? ⟨gb84001, 1, none⟩ = some (.int .i64 a0_1) := (blk_cell BK84001.out 1).trans rfl; have hcz9_2 : w8.cell? ⟨gb84001, 2, none⟩ = some (.int .i64 a0_2) := (blk_cell BK84001.out 2).trans rfl; have hcz9_3 : w8.cell? ⟨gb84001, 3, none⟩ = some (.slice A0_3 l0_3.length c0_3) := (blk_cell BK84001.out 3).trans rfl; have hfz9_0 := blk_frozen BK84001.out 0; have hfz9_1 := blk_frozen BK84001.out 1; have hfz9_2 := blk_frozen BK84001.out 2; have hfz9_3 := blk_frozen BK84001.out 3) | ((with_reducible refine gate_callee (f := 131) rfl ?_); refine goesL_ (some 9) rfl rfl Try.func131 (by kernel_rfl) rfl #[.int .i64 a0_0, .int .i64 a0_1, .int .i64 a0_2] rfl (by (try simp only [List.map_toArray, List.map_cons, List.map_nil]); first | done | rfl | (simp only [List.length_drop, List.length_take]; rfl)) ?_; (with_reducible refine (impl_isShape.calls a0_0 a0_1 a0_2 true _ A2.out).mono ?_); rintro e w' ⟨rfl, ⟨nd, rfl⟩⟩; refine ⟨_, rfl, ?_⟩))
      go_ret
      exact ⟨by first | rfl | (simp [errW_none, errW_some] <;> rfl) | (simp [*, errW_none, errW_some] <;> rfl), by repeat (first | (with_reducible first | exact HB.out | apply below_alloc | apply pw_below_drewN | apply below_drew1 | refine below_set ?_ GE84001.out) | exact HB.out)⟩
  · replace c3 := Bool.eq_false_iff.mpr c3
    subst c3
    have H1 : (some false) = some r := by rw [if_neg (show ¬ (false = true) by decide)] at H; exact H
    clear H
    have H := H1
    clear H1
    obtain rfl := Option.some.inj H
    go_enter Try.func83, Try.ntmps83
    go_wp2_with (first | ((with_reducible refine gate_dst (N := 1) rfl ?_); (try (refine gate_guard (by rfl) ?_; dsimp only)); refine box_event ?hg (N := 1) ?hd (cs := #[.int .i64 a0_0, .int .i64 a0_1, .int .i64 a0_2, .slice A0_3 l0_3.length c0_3]) (t := 27) ?hr ?_; (case hd => rfl); (case hg => rfl); (case hr => first | (go_simp; done) | (go_simp; rfl)); intro gb84001 hg w10 hbox hb; have n0_ := Aside0.mk (below_step (by repeat (first | (with_reducible first | exact HB.out | apply below_alloc | apply pw_below_drewN | apply below_drew1) | exact HB.out)) hb); have n1_ := Aside0.mk (hbox); have n2_ := Aside0.mk ((by rw [hg]; exact (below_size (by repeat (first | (with_reducible first | exact HB.out | apply below_alloc | apply pw_below_drewN | apply below_drew1) | exact HB.out))) : w.heap.size ≤ gb84001)); have n3_ := Aside0.mk ((by rw [hg]; exact (below_size (by repeat (first | (with_reducible first | exact HB.out | apply below_alloc | apply pw_below_drewN | apply below_drew1) | exact HB.out))) : w.heap.size ≤ gb84001)); clear HB; have HB := n0_; have BK84001 := n1_; have GW84001 := n2_; have GE84001 := n3_; clear n0_ n1_ n2_ n3_; clear hb hbox hg; have hcz11_0 : w10.cell? ⟨gb84001, 0, none⟩ = some (.int .i64 a0_0) := (blk_cell BK84001.out 0).trans rfl; have hcz11_1 : w10.cell? ⟨gb84001, 1, none⟩ = some (.int .i64 a0_1) := (blk_cell BK84001.out 1).trans rfl; have hcz11_2 : w10.cell? ⟨gb84001, 2, none⟩ = some (.int .i64 a0_2) := (blk_cell BK84001.out 2).trans rfl; have hcz11_3 : w10.cell? ⟨gb84001, 3, none⟩ = some (.slice A0_3 l0_3.length c0_3) := (blk_cell BK84001.out 3).trans rfl; have hfz11_0 := blk_frozen BK84001.out 0; have hfz11_1 := blk_frozen BK84001.out 1; have hfz11_2 := blk_frozen BK84001.out 2; have hfz11_3 := blk_frozen BK84001.out 3) | ((with_reducible refine gate_callee (f := 131) rfl ?_); refine goesL_ (some 9) rfl rfl Try.func131 (by kernel_rfl) rfl #[.int .i64 a0_0, .int .i64 a0_1, .int .i64 a0_2] rfl (by (try simp only [List.map_toArray, List.map_cons, List.map_nil]); first | done | rfl | (simp only [List.length_drop, List.length_take]; rfl)) ?_; (with_reducible refine (impl_isShape.calls a0_0 a0_1 a0_2 false _ A2.out).mono ?_); rintro e w' ⟨rfl, ⟨nd, rfl⟩⟩; refine ⟨_, rfl, ?_⟩))
    go_ret
    exact ⟨by first | rfl | (simp [errW_none, errW_some] <;> rfl) | (simp [*, errW_none, errW_some] <;> rfl), by repeat (first | (with_reducible first | exact HB.out | apply below_alloc | apply pw_below_drewN | apply below_drew1 | refine below_set ?_ GE84001.out) | exact HB.out)⟩

end Go.Proofs.Ytnofkbbcbpjhfaa.Q

namespace Go.Proofs.Ytnofkbbcbpjhfaa.Q
open Go.RowKit Go.Proofs.YtnofkbbcbpjhfaaW.PrintWords Go.Proofs.YtnofkbbcbpjhfaaW.PrintLast Go.Proofs.YtnofkbbcbpjhfaaW.PrintMore
attribute [local go_sem] max2_int min2_int max_two min_two max_three min_three max_four min_four
set_option linter.unusedVariables false
set_option linter.unusedSimpArgs false
/-! ### impl_tileBoxes: function 92 -/
mutual
def impl_tileBoxes.l0 : Nat → List (S47) → Int → Int → Int → Int → List Int → Option ((List (S47)))
  | 0, _, _, _, _, _, _ => none
  | k + 1, x3, x4, x93002000, x93002001, x93002002, x93002003 => if x4 < x93002001 then (impl_tileBoxes.l1 k x3 x4 0 x93002000 x93002001 x93002002 x93002003) else (some x3)
def impl_tileBoxes.l1 : Nat → List (S47) → Int → Int → Int → Int → Int → List Int → Option ((List (S47)))
  | 0, _, _, _, _, _, _, _ => none
  | k + 1, x3, x4, x5, x93002000, x93002001, x93002002, x93002003 => if x5 < x93002000 then (if x3.length < 4398046511104 then (impl_tileBoxes.l1 k (x3 ++ [(⟨x5, x4, mn 4 (wrap64 (x93002000 - x5)), mn 4 (wrap64 (x93002001 - x4))⟩ : S47)]) x4 (wrap64 (x5 + 4)) x93002000 x93002001 x93002002 x93002003) else (none)) else (impl_tileBoxes.l0 k x3 (wrap64 (x4 + 4)) x93002000 x93002001 x93002002 x93002003)
end
def impl_tileBoxes.f (k : Nat) (a0_0 : Int) (a0_1 : Int) (a0_2 : Int) (l0_3 : List Int) : Option ((List (S47))) := impl_tileBoxes.l0 k (([] : List (S47))) 0 a0_0 a0_1 a0_2 l0_3
theorem impl_tileBoxes.mono_l : ∀ k, (∀ y0 y1 y2 y3 y4 y5, LeO (impl_tileBoxes.l0 k y0 y1 y2 y3 y4 y5) (impl_tileBoxes.l0 (k + 1) y0 y1 y2 y3 y4 y5)) ∧ (∀ y0 y1 y2 y3 y4 y5 y6, LeO (impl_tileBoxes.l1 k y0 y1 y2 y3 y4 y5 y6) (impl_tileBoxes.l1 (k + 1) y0 y1 y2 y3 y4 y5 y6))
  | 0 => ⟨fun _ _ _ _ _ _ r h => by simp [impl_tileBoxes.l0] at h, fun _ _ _ _ _ _ _ r h => by simp [impl_tileBoxes.l1] at h⟩
  | k + 1 => by
    obtain ⟨ih0, ih1⟩ := impl_tileBoxes.mono_l k
    refine ⟨?_, ?_⟩
    · intro y0 y1 y2 y3 y4 y5
      unfold impl_tileBoxes.l0
      repeat' first
      | (with_reducible exact ih0 _ _ _ _ _ _)
      | (with_reducible exact ih1 _ _ _ _ _ _ _)
      | (with_reducible exact LeO.refl _)
      | (with_reducible exact LeO.none _)
      | (with_reducible refine LeO.ite ?_ ?_)
      | (with_reducible refine LeO.bind ?_ (fun _ => ?_))
      | exact ih0 _ _ _ _ _ _
      | exact ih1 _ _ _ _ _ _ _
      | exact LeO.none _
      | refine LeO.ite ?_ ?_
      | refine LeO.bind ?_ (fun _ => ?_)
    · intro y0 y1 y2 y3 y4 y5 y6
      unfold impl_tileBoxes.l1
      repeat' first
      | (with_reducible exact ih0 _ _ _ _ _ _)
      | (with_reducible exact ih1 _ _ _ _ _ _ _)
      | (with_reducible exact LeO.refl _)
      | (with_reducible exact LeO.none _)
      | (with_reducible refine LeO.ite ?_ ?_)
      | (with_reducible refine LeO.bind ?_ (fun _ => ?_))
      | exact ih0 _ _ _ _ _ _
      | exact ih1 _ _ _ _ _ _ _
      | exact LeO.none _
      | refine LeO.ite ?_ ?_
      | refine LeO.bind ?_ (fun _ => ?_)
theorem impl_tileBoxes.mono : ∀ a0 a1 a2 a3 k, LeO (impl_tileBoxes.f k a0 a1 a2 a3) (impl_tileBoxes.f (k + 1) a0 a1 a2 a3) := by
  intro a0 a1 a2 a3 k
  obtain ⟨ih0, ih1⟩ := impl_tileBoxes.mono_l k
  unfold impl_tileBoxes.f
  repeat' first
      | (with_reducible exact ih0 _ _ _ _ _ _)
      | (with_reducible exact ih1 _ _ _ _ _ _ _)
      | (with_reducible exact LeO.refl _)
      | (with_reducible exact LeO.none _)
      | (with_reducible refine LeO.ite ?_ ?_)
      | (with_reducible refine LeO.bind ?_ (fun _ => ?_))
      | exact ih0 _ _ _ _ _ _
      | exact ih1 _ _ _ _ _ _ _
      | exact LeO.none _
      | refine LeO.ite ?_ ?_
      | refine LeO.bind ?_ (fun _ => ?_)
set_option maxHeartbeats 8000000 in
set_option maxRecDepth 100000 in
theorem impl_tileBoxes.calls (k : Nat) (a0_0 : Int) (a0_1 : Int) (a0_2 : Int) (A0_3 : Option Addr) (c0_3 : Nat) (l0_3 : List Int) (r : List (S47)) (w : World) (hr0_3 : Kd.C (Kd.int .i64) w A0_3 l0_3.length l0_3) (hc0_3 : l0_3.length ≤ c0_3) (h : impl_tileBoxes.f k a0_0 a0_1 a0_2 l0_3 = some r) :
    Calls Try.prog 92 #[.agg #[.int .i64 a0_0, .int .i64 a0_1, .int .i64 a0_2, .slice A0_3 l0_3.length c0_3]] w fun e w' => ∃ v0_ : Value, e = .returned (v0_) ∧ Kd.R k47 47 w' w.heap.size (fun _ => True) v0_ r ∧ Below w.heap.size w w' := by
  have hu27 := Try.underlying27
  have hu47 := Try.underlying47
  have HR0_3 := Aside0.mk hr0_3
  have HC0_3 := Aside0.mk hc0_3
  clear hr0_3 hc0_3
  have HB := Aside0.mk (Below.refl w.heap.size w)
  have H : (impl_tileBoxes.l0 k (([] : List (S47))) 0 a0_0 a0_1 a0_2 l0_3) = some r := h
  clear h
  obtain ⟨y93002, hy93002⟩ : ∃ y_ : List (S47), y_ = (([] : List (S47))) := ⟨_, rfl⟩
  replace H : (impl_tileBoxes.l0 k y93002 0 a0_0 a0_1 a0_2 l0_3) = some r := by first | (rw [hy93002]; with_reducible exact H) | (have H2_ := (Option.bind_some _ _).symm.trans H; rw [hy93002]; with_reducible exact H2_) | (have H2_ := (Option.bind_some _ _).symm.trans H; with_reducible exact H2_) | with_reducible exact H | (rw [hy93002]; exact H) | exact H
  have Ny93002 := Aside0.mk hy93002
  clear hy93002
  have H' := Aside0.mk H
  clear H
  go_enter Try.func92, Try.ntmps92
  go_wp2_with (first | ((with_reducible refine gate_dst (N := 1) rfl ?_); refine box_event ?hg (N := 1) ?hd (cs := #[.int .i64 a0_0, .int .i64 a0_1, .int .i64 a0_2, .slice A0_3 l0_3.length c0_3]) (t := 27) ?hr ?_; (case hd => rfl); (case hg => rfl); (case hr => first | (go_simp; done) | (go_simp; rfl)); intro gb93001 hg w2 hbox hb; have n0_ := Aside0.mk (below_step (by repeat (first | (with_reducible first | exact HB.out | apply below_alloc | apply pw_below_drewN | apply below_drew1) | exact HB.out)) hb); have n1_ := Aside0.mk (hbox); have n2_ := Aside0.mk ((by rw [hg]; exact (below_size (by repeat (first | (with_reducible first | exact HB.out | apply below_alloc | apply pw_below_drewN | apply below_drew1) | exact HB.out))) : w.heap.size ≤ gb93001)); have n3_ := Aside0.mk ((by rw [hg]; exact (below_size (by repeat (first | (with_reducible first | exact HB.out | apply below_alloc | apply pw_below_drewN | apply below_drew1) | exact HB.out))) : w.heap.size ≤ gb93001)); clear HB; have HB := n0_; have BK93001 := n1_; have GW93001 := n2_; have GE93001 := n3_; clear n0_ n1_ n2_ n3_; clear hb hbox hg) | ((with_reducible refine gate_dst (N := 6) rfl ?_); refine Kd.R_lit k47 _ 47 ?hg (N := 6) ?hd (xs := ([] : List (S47))) (inner := []) (ok := fun _ => True) (okp := fun _ => True) ?hr ?hp (fun _ hk => hk) trivial (Below.refl _ _) (Nat.le_refl _) (by simp) ?_; (case hd => rfl); (case hg => rfl); (case hr => first | (go_simp; done) | (go_simp; rfl)); (case hp => exact (Reps.none _ _)); intro v93003 w3 ho4 hb hg_ hnew_; clear hg_ hnew_; (first | rw [← Ny93002.out] at ho4 | (simp only [Int.reduceToNat] at ho4; rw [← Ny93002.out] at ho4)); have n0_ := Aside0.mk (Kd.R_lower ho4 (below_size (by repeat (first | (with_reducible first | exact HB.out | apply below_alloc | apply pw_below_drewN | apply below_drew1 | refine below_set ?_ GE93001.out) | exact HB.out)))); have n1_ := Aside0.mk (blk_below (g := gb93001) (o := .cells #[.int .i64 a0_0, .int .i64 a0_1, .int .i64 a0_2, .slice A0_3 l0_3.length c0_3] 27 (0, 0)) (by (with_reducible repeat (first | refine blk_drewN ?_ _ | refine blk_drew ?_ | refine blk_alloc ?_ _)); exact BK93001.out) hb); have n2_ := Aside0.mk (below_step (by repeat (first | (with_reducible first | exact HB.out | apply below_alloc | apply pw_below_drewN | apply below_drew1 | refine below_set ?_ GE93001.out) | exact HB.out)) hb); clear BK93001; clear HB; have HO93004 := n0_; have BK93001 := n1_; have HB := n2_; clear n0_ n1_ n2_; clear hb ho4))
  go_loopg [3, 4] k (fun kq v3 v4 w' => ∃ (x3_1 : List (S47)) (x4_1 : Int), v4 = .int .i64 x4_1 ∧ Aside0 (impl_tileBoxes.l0 kq x3_1 x4_1 a0_0 a0_1 a0_2 l0_3 = some r) ∧ Aside0 (kq ≤ k) ∧ Aside0 (Kd.R k47 47 w' w.heap.size (fun _ => True) v3 x3_1) ∧ Aside0 (w'.heap[gb93001]? = some (.cells #[.int .i64 a0_0, .int .i64 a0_1, .int .i64 a0_2, (.slice A0_3 l0_3.length c0_3)] 27 (0, 0))) ∧ Aside0 (Below w.heap.size w w'))
  case atStart => exact ⟨(y93002), (0), (by first | rfl | (simp; done) | (simp [*]; done)), H', ⟨Nat.le_refl _⟩, ⟨by (with_reducible repeat (first | apply Kd.R_alloc | apply Kd.R_drewN | apply Kd.R_drew)); exact HO93004.out⟩, ⟨by (with_reducible repeat (first | refine blk_drewN ?_ _ | refine blk_drew ?_ | refine blk_alloc ?_ _)); exact BK93001.out⟩, ⟨by repeat (first | (with_reducible first | exact HB.out | apply below_alloc | apply pw_below_drewN | apply below_drew1 | refine below_set ?_ GE93001.out) | exact HB.out)⟩⟩
  case round =>
    clear H'
    try clear p2
    obtain ⟨x3_1, x4_1, rfl, HA, HK1, HO_3, BK93001, HB⟩ := hrel
    cases gk with
    | zero => exact absurd HA.out (by simp [impl_tileBoxes.l0])
    | succ k1 =>
      have H := HA.out
      clear HA
      simp only [impl_tileBoxes.l0] at H
      by_cases c5 : x4_1 < a0_1
      · rw [if_pos c5] at H
        have c5b0 : decide (x4_1 < a0_1) = true := decide_eq_true c5
        clear c5
        have H' := Aside0.mk H
        clear H
        have hcz6_0 : wr.cell? ⟨gb93001, 0, none⟩ = some (.int .i64 a0_0) := (blk_cell BK93001.out 0).trans rfl
        have hcz6_1 : wr.cell? ⟨gb93001, 1, none⟩ = some (.int .i64 a0_1) := (blk_cell BK93001.out 1).trans rfl
        have hcz6_2 : wr.cell? ⟨gb93001, 2, none⟩ = some (.int .i64 a0_2) := (blk_cell BK93001.out 2).trans rfl
        have hcz6_3 : wr.cell? ⟨gb93001, 3, none⟩ = some (.slice A0_3 l0_3.length c0_3) := (blk_cell BK93001.out 3).trans rfl
        have hfz6_0 := blk_frozen BK93001.out 0
        have hfz6_1 := blk_frozen BK93001.out 1
        have hfz6_2 := blk_frozen BK93001.out 2
        have hfz6_3 := blk_frozen BK93001.out 3
        go_wp2
        go_loopg [3, 5] k1 (fun kq v3 v5 w' => ∃ (x3_2 : List (S47)) (x5_2 : Int), v5 = .int .i64 x5_2 ∧ Aside0 (impl_tileBoxes.l1 kq x3_2 x4_1 x5_2 a0_0 a0_1 a0_2 l0_3 = some r) ∧ Aside0 (kq ≤ k1) ∧ Aside0 (Kd.R k47 47 w' w.heap.size (fun _ => True) v3 x3_2) ∧ Aside0 (w'.heap[gb93001]? = some (.cells #[.int .i64 a0_0, .int .i64 a0_1, .int .i64 a0_2, (.slice A0_3 l0_3.length c0_3)] 27 (0, 0))) ∧ Aside0 (Below w.heap.size w w'))
        case atStart => exact ⟨(x3_1), (0), (by first | rfl | (simp; done) | (simp [*]; done)), H', ⟨Nat.le_refl _⟩, ⟨by (with_reducible repeat (first | apply Kd.R_alloc | apply Kd.R_drewN | apply Kd.R_drew)); exact HO_3.out⟩, ⟨by (with_reducible repeat (first | refine blk_drewN ?_ _ | refine blk_drew ?_ | refine blk_alloc ?_ _)); exact BK93001.out⟩, ⟨by repeat (first | (with_reducible first | exact HB.out | apply below_alloc | apply pw_below_drewN | apply below_drew1 | refine below_set ?_ GE93001.out) | exact HB.out)⟩⟩
        case round =>
          clear H'
          try clear p2
          try clear c5
          try clear c5b0
          try clear hcz6_0
          try clear hcz6_1
          try clear hcz6_2
          try clear hcz6_3
          try clear hfz6_0
          try clear hfz6_1
          try clear hfz6_2
          try clear hfz6_3
          try clear p2
          obtain ⟨x3_2, x5_2, rfl, HA, HK2, HO_3, BK93001, HB⟩ := hrel
          cases gk with
          | zero => exact absurd HA.out (by simp [impl_tileBoxes.l1])
          | succ k2 =>
            have H := HA.out
            clear HA
            simp only [impl_tileBoxes.l1] at H
            by_cases c7 : x5_2 < a0_0
            · rw [if_pos c7] at H
              have c7b0 : decide (x5_2 < a0_0) = true := decide_eq_true c7
              clear c7
              obtain ⟨ji8, hji8⟩ : ∃ j_ : Int, (mn 4 (wrap64 (a0_0 - x5_2))) = j_ := ⟨_, rfl⟩
              replace H : (if x3_2.length < 4398046511104 then (impl_tileBoxes.l1 k2 (x3_2 ++ [(⟨x5_2, x4_1, ji8, mn 4 (wrap64 (a0_1 - x4_1))⟩ : S47)]) x4_1 (wrap64 (x5_2 + 4)) a0_0 a0_1 a0_2 l0_3) else (none)) = some r := by first | (rw [hji8] at H; exact H) | (simp only [hji8] at H ⊢; exact H)
              have hji8_ : (if (wrap64 (a0_0 - x5_2)) < 4 then (wrap64 (a0_0 - x5_2)) else 4) = ji8 := hji8
              obtain ⟨ji9, hji9⟩ : ∃ j_ : Int, (mn 4 (wrap64 (a0_1 - x4_1))) = j_ := ⟨_, rfl⟩
              replace H : (if x3_2.length < 4398046511104 then (impl_tileBoxes.l1 k2 (x3_2 ++ [(⟨x5_2, x4_1, ji8, ji9⟩ : S47)]) x4_1 (wrap64 (x5_2 + 4)) a0_0 a0_1 a0_2 l0_3) else (none)) = some r := by first | (rw [hji9] at H; exact H) | (simp only [hji9] at H ⊢; exact H)
              have hji9_ : (if (wrap64 (a0_1 - x4_1)) < 4 then (wrap64 (a0_1 - x4_1)) else 4) = ji9 := hji9
              by_cases c10 : x3_2.length < 4398046511104
              · rw [if_pos c10] at H
                have LMc10 := Aside0.mk c10
                clear c10
                obtain ⟨y93005, hy93005⟩ : ∃ y_ : List (S47), y_ = (x3_2 ++ [(⟨x5_2, x4_1, ji8, ji9⟩ : S47)]) := ⟨_, rfl⟩
                replace H : (impl_tileBoxes.l1 k2 y93005 x4_1 (wrap64 (x5_2 + 4)) a0_0 a0_1 a0_2 l0_3) = some r := by first | (rw [hy93005]; with_reducible exact H) | (have H2_ := (Option.bind_some _ _).symm.trans H; rw [hy93005]; with_reducible exact H2_) | (have H2_ := (Option.bind_some _ _).symm.trans H; with_reducible exact H2_) | with_reducible exact H | (rw [hy93005]; exact H) | exact H
                have Ny93005 := Aside0.mk hy93005
                clear hy93005
                have H' := Aside0.mk H
                clear H
                have hcz11_0 : wr.cell? ⟨gb93001, 0, none⟩ = some (.int .i64 a0_0) := (blk_cell BK93001.out 0).trans rfl
                have hcz11_1 : wr.cell? ⟨gb93001, 1, none⟩ = some (.int .i64 a0_1) := (blk_cell BK93001.out 1).trans rfl
                have hcz11_2 : wr.cell? ⟨gb93001, 2, none⟩ = some (.int .i64 a0_2) := (blk_cell BK93001.out 2).trans rfl
                have hcz11_3 : wr.cell? ⟨gb93001, 3, none⟩ = some (.slice A0_3 l0_3.length c0_3) := (blk_cell BK93001.out 3).trans rfl
                have hfz11_0 := blk_frozen BK93001.out 0
                have hfz11_1 := blk_frozen BK93001.out 1
                have hfz11_2 := blk_frozen BK93001.out 2
                have hfz11_3 := blk_frozen BK93001.out 3
                go_wp2_with (first | ((with_reducible refine gate_builtin (b := .append) (xs := #[.tmp 19, .tmp 33]) rfl ?_); at_builtin; refine Kd.R_append k47 (w0 := w) w.heap.size rfl (.tmp 19) (.tmp 33) 36 47 (.agg #[(.int .i64 0), (.int .i64 0), (.int .i64 0), (.int .i64 0)]) 32 rfl Try.underlying36 info47 rfl (by decide) (by omega) u3 x3_2 (⟨x5_2, x4_1, ji8, ji9⟩ : S47) [.int .i64 x5_2, .int .i64 x4_1, .int .i64 ji8, .int .i64 ji9] (fun _ => True) (fun _ => False) rfl rfl ?aP (fun _ hk => hk.elim) ?aF ?aO ?aB ?aS ?aL ?_; (case aP => exact k47_mkM _ _ _ (⟨x5_2, x4_1, ji8, ji9⟩ : S47)); (case aB => exact (by repeat (first | (with_reducible first | exact HB.out | apply below_alloc | apply pw_below_drewN | apply below_drew1 | refine below_set ?_ GE93001.out) | exact HB.out))); (case aF => exact (fun _ _ => trivial)); (case aO => exact (by (with_reducible repeat (first | apply Kd.R_alloc | apply Kd.R_drewN | apply Kd.R_drew)); exact HO_3.out)); (case aS => exact (below_size (by repeat (first | (with_reducible first | exact HB.out | apply below_alloc | apply pw_below_drewN | apply below_drew1 | refine below_set ?_ GE93001.out) | exact HB.out)))); (case aL => have := LMc10.out; omega); intro v93006 w12 ho hb hg hat; rw [← Ny93005.out] at ho; have n0_ := Aside0.mk (blk_grown (g := gb93001) (o := .cells #[.int .i64 a0_0, .int .i64 a0_1, .int .i64 a0_2, .slice A0_3 l0_3.length c0_3] 27 (0, 0)) (by (with_reducible repeat (first | refine blk_drewN ?_ _ | refine blk_drew ?_ | refine blk_alloc ?_ _)); exact BK93001.out) hg (Kd.R_ne HO_3.out BK93001.out (by decide))); have n1_ := Aside0.mk (hb); have n2_ := Aside0.mk (ho); clear BK93001; clear HB; clear HO_3; have BK93001 := n0_; have HB := n1_; have HO93007 := n2_; clear n0_ n1_ n2_; clear ho hb hg hat))
                go_roundg k2
                case measure => have := HK1.out; have := HK2.out; omega
                case rel => exact ⟨(y93005), (wrap64 (x5_2 + 4)), (by first | rfl | (simp; done) | (simp [*]; done)), H', ⟨by have := HK1.out; have := HK2.out; omega⟩, ⟨by (with_reducible repeat (first | apply Kd.R_alloc | apply Kd.R_drewN | apply Kd.R_drew)); exact HO93007.out⟩, ⟨by (with_reducible repeat (first | refine blk_drewN ?_ _ | refine blk_drew ?_ | refine blk_alloc ?_ _)); exact BK93001.out⟩, ⟨by repeat (first | (with_reducible first | exact HB.out | apply below_alloc | apply pw_below_drewN | apply below_drew1 | refine below_set ?_ GE93001.out) | exact HB.out)⟩⟩
              · rw [if_neg c10] at H
                exact absurd H (by simp)
            · rw [if_neg c7] at H
              have c7b0 : decide (x5_2 < a0_0) = false := decide_eq_false c7
              clear c7
              have H' := Aside0.mk H
              clear H
              have hcz13_0 : wr.cell? ⟨gb93001, 0, none⟩ = some (.int .i64 a0_0) := (blk_cell BK93001.out 0).trans rfl
              have hcz13_1 : wr.cell? ⟨gb93001, 1, none⟩ = some (.int .i64 a0_1) := (blk_cell BK93001.out 1).trans rfl
              have hcz13_2 : wr.cell? ⟨gb93001, 2, none⟩ = some (.int .i64 a0_2) := (blk_cell BK93001.out 2).trans rfl
              have hcz13_3 : wr.cell? ⟨gb93001, 3, none⟩ = some (.slice A0_3 l0_3.length c0_3) := (blk_cell BK93001.out 3).trans rfl
              have hfz13_0 := blk_frozen BK93001.out 0
              have hfz13_1 := blk_frozen BK93001.out 1
              have hfz13_2 := blk_frozen BK93001.out 2
              have hfz13_3 := blk_frozen BK93001.out 3
              go_wp2
              go_roundg k2
              case measure => have := HK1.out; have := HK2.out; omega
              case rel => exact ⟨(x3_2), (wrap64 (x4_1 + 4)), (by first | rfl | (simp; done) | (simp [*]; done)), H', ⟨by have := HK1.out; have := HK2.out; omega⟩, ⟨by (with_reducible repeat (first | apply Kd.R_alloc | apply Kd.R_drewN | apply Kd.R_drew)); exact HO_3.out⟩, ⟨by (with_reducible repeat (first | refine blk_drewN ?_ _ | refine blk_drew ?_ | refine blk_alloc ?_ _)); exact BK93001.out⟩, ⟨by repeat (first | (with_reducible first | exact HB.out | apply below_alloc | apply pw_below_drewN | apply below_drew1 | refine below_set ?_ GE93001.out) | exact HB.out)⟩⟩
      · rw [if_neg c5] at H
        have c5b0 : decide (x4_1 < a0_1) = false := decide_eq_false c5
        clear c5
        obtain rfl := Option.some.inj H
        have hcz14_0 : wr.cell? ⟨gb93001, 0, none⟩ = some (.int .i64 a0_0) := (blk_cell BK93001.out 0).trans rfl
        have hcz14_1 : wr.cell? ⟨gb93001, 1, none⟩ = some (.int .i64 a0_1) := (blk_cell BK93001.out 1).trans rfl
        have hcz14_2 : wr.cell? ⟨gb93001, 2, none⟩ = some (.int .i64 a0_2) := (blk_cell BK93001.out 2).trans rfl
        have hcz14_3 : wr.cell? ⟨gb93001, 3, none⟩ = some (.slice A0_3 l0_3.length c0_3) := (blk_cell BK93001.out 3).trans rfl
        have hfz14_0 := blk_frozen BK93001.out 0
        have hfz14_1 := blk_frozen BK93001.out 1
        have hfz14_2 := blk_frozen BK93001.out 2
        have hfz14_3 := blk_frozen BK93001.out 3
        go_wp2
        go_ret
        exact ⟨_, by first | rfl | (simp [errW_none, errW_some] <;> rfl) | (simp [*, errW_none, errW_some] <;> rfl), by (with_reducible repeat (first | apply Kd.R_alloc | apply Kd.R_drewN | apply Kd.R_drew)); exact HO_3.out, by repeat (first | (with_reducible first | exact HB.out | apply below_alloc | apply pw_below_drewN | apply below_drew1 | refine below_set ?_ GE93001.out) | exact HB.out)⟩

end Go.Proofs.Ytnofkbbcbpjhfaa.Q

namespace Go.Proofs.Ytnofkbbcbpjhfaa.Q
open Go.RowKit Go.Proofs.YtnofkbbcbpjhfaaW.PrintWords Go.Proofs.YtnofkbbcbpjhfaaW.PrintLast Go.Proofs.YtnofkbbcbpjhfaaW.PrintMore
attribute [local go_sem] max2_int min2_int max_two min_two max_three min_three max_four min_four
set_option linter.unusedVariables false
set_option linter.unusedSimpArgs false
/-! ### impl_isMode: function 141 -/
def impl_isMode.f (a0 : Int) : Option (Bool) := if a0 ≥ 0 then (some (decide (a0 ≤ 4))) else (some false)
set_option maxHeartbeats 8000000 in
set_option maxRecDepth 100000 in
theorem impl_isMode.calls (a0 : Int) (r : Bool) (w : World) (h : impl_isMode.f a0 = some r) :
    Calls Try.prog 141 #[.int .i64 a0] w fun e w' => e = .returned (.bool r) ∧ Drawn0 w w' := by
  have H : (if a0 ≥ 0 then (some (decide (a0 ≤ 4))) else (some false)) = some r := h
  clear h
  by_cases c2 : a0 ≥ 0
  · rw [if_pos c2] at H
    have c2b0 : decide (0 ≤ a0) = true := decide_eq_true c2
    clear c2
    obtain rfl := Option.some.inj H
    go_enter Try.func141, Try.ntmps141
    go_wp2
    go_ret
    exact ⟨by first | rfl | (simp; done) | (simp [*]; done), by repeat (first | exact Drawn0.refl _ | apply Drawn0.step)⟩
  · rw [if_neg c2] at H
    have c2b0 : decide (0 ≤ a0) = false := decide_eq_false c2
    clear c2
    obtain rfl := Option.some.inj H
    go_enter Try.func141, Try.ntmps141
    go_wp2
    go_ret
    exact ⟨by first | rfl | (simp; done) | (simp [*]; done), by repeat (first | exact Drawn0.refl _ | apply Drawn0.step)⟩

end Go.Proofs.Ytnofkbbcbpjhfaa.Q

namespace Go.Proofs.Ytnofkbbcbpjhfaa.Q
open Go.RowKit Go.Proofs.YtnofkbbcbpjhfaaW.PrintWords Go.Proofs.YtnofkbbcbpjhfaaW.PrintLast Go.Proofs.YtnofkbbcbpjhfaaW.PrintMore
attribute [local go_sem] max2_int min2_int max_two min_two max_three min_three max_four min_four
set_option linter.unusedVariables false
set_option linter.unusedSimpArgs false
/-! ### impl_isLayer: function 103 -/
def impl_isLayer.f (a0_0 : Int) (a0_1 : Int) (a0_2 : Int) (l0_3 : List Int) (a0_4 : Int) (a0_5 : Int) (a0_6 : Int) (a0_7 : Int) (a0_8 : Bool) (a1 : Int) : Option (Bool) := (impl_isImage.f a0_0 a0_1 a0_2 l0_3).bind fun t104002 => (if t104002 = true then (if a0_2 = a1 then (if a0_4 ≥ (-16) then (if a0_4 ≤ 16 then (if a0_5 ≥ (-16) then (if a0_5 ≤ 16 then ((impl_isMode.f a0_6).bind fun t104003 => (if t104003 = true then (if a0_7 ≥ 0 then (some (decide (a0_7 ≤ 255))) else (some false)) else (some false))) else (some false)) else (some false)) else (some false)) else (some false)) else (some false)) else (some false))
set_option maxHeartbeats 8000000 in
set_option maxRecDepth 100000 in
theorem impl_isLayer.calls (a0_0 : Int) (a0_1 : Int) (a0_2 : Int) (A0_3 : Option Addr) (c0_3 : Nat) (l0_3 : List Int) (a0_4 : Int) (a0_5 : Int) (a0_6 : Int) (a0_7 : Int) (a0_8 : Bool) (a1 : Int) (r : Bool) (w : World) (hr0_3 : Kd.C (Kd.int .i64) w A0_3 l0_3.length l0_3) (hc0_3 : l0_3.length ≤ c0_3) (h : impl_isLayer.f a0_0 a0_1 a0_2 l0_3 a0_4 a0_5 a0_6 a0_7 a0_8 a1 = some r) :
    Calls Try.prog 103 #[.agg #[.int .i64 a0_0, .int .i64 a0_1, .int .i64 a0_2, .slice A0_3 l0_3.length c0_3, .int .i64 a0_4, .int .i64 a0_5, .int .i64 a0_6, .int .i64 a0_7, .bool a0_8], .int .i64 a1] w fun e w' => e = .returned (.bool r) ∧ Below w.heap.size w w' := by
  have hu55 := Try.underlying55
  have hu27 := Try.underlying27
  have HR0_3 := Aside0.mk hr0_3
  have HC0_3 := Aside0.mk hc0_3
  clear hr0_3 hc0_3
  have HB := Aside0.mk (Below.refl w.heap.size w)
  have H : ((impl_isImage.f a0_0 a0_1 a0_2 l0_3).bind fun t104002 => (if t104002 = true then (if a0_2 = a1 then (if a0_4 ≥ (-16) then (if a0_4 ≤ 16 then (if a0_5 ≥ (-16) then (if a0_5 ≤ 16 then ((impl_isMode.f a0_6).bind fun t104003 => (if t104003 = true then (if a0_7 ≥ 0 then (some (decide (a0_7 ≤ 255))) else (some false)) else (some false))) else (some false)) else (some false)) else (some false)) else (some false)) else (some false)) else (some false))) = some r := h
  clear h
  replace H := Option.bind_eq_some_iff.mp H
  obtain ⟨t104002, A30, H⟩ := H
  replace H : (if t104002 = true then (if a0_2 = a1 then (if a0_4 ≥ (-16) then (if a0_4 ≤ 16 then (if a0_5 ≥ (-16) then (if a0_5 ≤ 16 then ((impl_isMode.f a0_6).bind fun t104003 => (if t104003 = true then (if a0_7 ≥ 0 then (some (decide (a0_7 ≤ 255))) else (some false)) else (some false))) else (some false)) else (some false)) else (some false)) else (some false)) else (some false)) else (some false)) = some r := H
  have A3 := Aside0.mk A30
  clear A30
  by_cases c4 : t104002 = true
  · subst c4
    have H1 : (if a0_2 = a1 then (if a0_4 ≥ (-16) then (if a0_4 ≤ 16 then (if a0_5 ≥ (-16) then (if a0_5 ≤ 16 then ((impl_isMode.f a0_6).bind fun t104003 => (if t104003 = true then (if a0_7 ≥ 0 then (some (decide (a0_7 ≤ 255))) else (some false)) else (some false))) else (some false)) else (some false)) else (some false)) else (some false)) else (some false)) = some r := by rw [if_pos rfl] at H; exact H
    clear H
    have H := H1
    clear H1
    by_cases c5 : a0_2 = a1
    · rw [if_pos c5] at H
      have c5b0 : (a0_2 == a1) = true := beq_iff_eq.mpr c5
      have c5b1 : (a0_2 != a1) = false := bne_eq_false_iff_eq.mpr c5
      clear c5
      by_cases c6 : a0_4 ≥ (-16)
      · rw [if_pos c6] at H
        have c6b0 : decide ((-16) ≤ a0_4) = true := decide_eq_true c6
        clear c6
        by_cases c7 : a0_4 ≤ 16
        · rw [if_pos c7] at H
          have c7b0 : decide (a0_4 ≤ 16) = true := decide_eq_true c7
          clear c7
          by_cases c8 : a0_5 ≥ (-16)
          · rw [if_pos c8] at H
            have c8b0 : decide ((-16) ≤ a0_5) = true := decide_eq_true c8
            clear c8
            by_cases c9 : a0_5 ≤ 16
            · rw [if_pos c9] at H
              have c9b0 : decide (a0_5 ≤ 16) = true := decide_eq_true c9
              clear c9
              replace H := Option.bind_eq_some_iff.mp H
              obtain ⟨t104003, A100, H⟩ := H
              replace H : (if t104003 = true then (if a0_7 ≥ 0 then (some (decide (a0_7 ≤ 255))) else (some false)) else (some false)) = some r := H
              have A10 := Aside0.mk A100
              clear A100
              by_cases c11 : t104003 = true
              · subst c11
                have H1 : (if a0_7 ≥ 0 then (some (decide (a0_7 ≤ 255))) else (some false)) = some r := by rw [if_pos rfl] at H; exact H
                clear H
                have H := H1
                clear H1
                by_cases c12 : a0_7 ≥ 0
                · rw [if_pos c12] at H
                  have c12b0 : decide (0 ≤ a0_7) = true := decide_eq_true c12
                  clear c12
                  obtain rfl := Option.some.inj H
                  go_enter Try.func103, Try.ntmps103
                  go_wp2_with (first | ((with_reducible refine gate_dst (N := 2) rfl ?_); refine box_event ?hg (N := 2) ?hd (cs := #[.int .i64 a0_0, .int .i64 a0_1, .int .i64 a0_2, .slice A0_3 l0_3.length c0_3, .int .i64 a0_4, .int .i64 a0_5, .int .i64 a0_6, .int .i64 a0_7, .bool a0_8]) (t := 55) ?hr ?_; (case hd => rfl); (case hg => rfl); (case hr => first | (go_simp; done) | (go_simp; rfl)); intro gb104001 hg w13 hbox hb; have n0_ := Aside0.mk (below_step (by repeat (first | (with_reducible first | exact HB.out | apply below_alloc | apply pw_below_drewN | apply below_drew1) | exact HB.out)) hb); have n1_ := Aside0.mk (hbox); have n2_ := Aside0.mk ((by rw [hg]; exact (below_size (by repeat (first | (with_reducible first | exact HB.out | apply below_alloc | apply pw_below_drewN | apply below_drew1) | exact HB.out))) : w.heap.size ≤ gb104001)); have n3_ := Aside0.mk ((by rw [hg]; exact (below_size (by repeat (first | (with_reducible first | exact HB.out | apply below_alloc | apply pw_below_drewN | apply below_drew1) | exact HB.out))) : w.heap.size ≤ gb104001)); clear HB; have HB := n0_; have BK104001 := n1_; have GW104001 := n2_; have GE104001 := n3_; clear n0_ n1_ n2_ n3_; clear hb hbox hg; have hcz14_0 : w13.cell? ⟨gb104001, 0, none⟩ = some (.int .i64 a0_0) := (blk_cell BK104001.out 0).trans rfl; have hcz14_1 : w13.cell? ⟨gb104001, 1, none⟩ = some (.int .i64 a0_1) := (blk_cell BK104001.out 1).trans rfl; have hcz14_2 : w13.cell? ⟨gb104001, 2, none⟩ = some (.int .i64 a0_2) := (blk_cell BK104001.out 2).trans rfl; have hcz14_3 : w13.cell? ⟨gb104001, 3, none⟩ = some (.slice A0_3 l0_3.length c0_3) := (blk_cell BK104001.out 3).trans rfl; have hcz14_4 : w13.cell? ⟨gb104001, 4, none⟩ = some (.int .i64 a0_4) := (blk_cell BK104001.out 4).trans rfl; have hcz14_5 : w13.cell? ⟨gb104001, 5, none⟩ = some (.int .i64 a0_5) := (blk_cell BK104001.out 5).trans rfl; have hcz14_6 : w13.cell? ⟨gb104001, 6, none⟩ = some (.int .i64 a0_6) := (blk_cell BK104001.out 6).trans rfl; have hcz14_7 : w13.cell? ⟨gb104001, 7, none⟩ = some (.int .i64 a0_7) := (blk_cell BK104001.out 7).trans rfl; have hcz14_8 : w13.cell? ⟨gb104001, 8, none⟩ = some (.bool a0_8) := (blk_cell BK104001.out 8).trans rfl; have hfz14_0 := blk_frozen BK104001.out 0; have hfz14_1 := blk_frozen BK104001.out 1; have hfz14_2 := blk_frozen BK104001.out 2; have hfz14_3 := blk_frozen BK104001.out 3; have hfz14_4 := blk_frozen BK104001.out 4; have hfz14_5 := blk_frozen BK104001.out 5; have hfz14_6 := blk_frozen BK104001.out 6; have hfz14_7 := blk_frozen BK104001.out 7; have hfz14_8 := blk_frozen BK104001.out 8) | ((with_reducible refine gate_callee (f := 83) rfl ?_); refine goesL_ (some 7) rfl rfl Try.func83 (by kernel_rfl) rfl #[.agg #[.int .i64 a0_0, .int .i64 a0_1, .int .i64 a0_2, .slice A0_3 l0_3.length c0_3]] rfl (by (try simp only [List.map_toArray, List.map_cons, List.map_nil]); first | done | rfl | (simp only [List.length_drop, List.length_take]; rfl)) ?_; (with_reducible refine (impl_isImage.calls a0_0 a0_1 a0_2 _ _ l0_3 true _ ?side1 ?side2 A3.out).mono ?_); (case side1 => repeat (first | exact (Kd.C_below HR0_3.out HB.out) | (with_reducible refine Kd.C_alloc ?_ _) | (with_reducible refine Kd.C_drewN ?_ _) | (with_reducible refine Kd.C_drew ?_))); (case side2 => exact HC0_3.out); rintro e w15 ⟨rfl, hb⟩; refine ⟨_, rfl, ?_⟩; have n0_ := Aside0.mk (blk_below (g := gb104001) (o := .cells #[.int .i64 a0_0, .int .i64 a0_1, .int .i64 a0_2, .slice A0_3 l0_3.length c0_3, .int .i64 a0_4, .int .i64 a0_5, .int .i64 a0_6, .int .i64 a0_7, .bool a0_8] 55 (0, 0)) (by (with_reducible repeat (first | refine blk_drewN ?_ _ | refine blk_drew ?_ | refine blk_alloc ?_ _)); exact BK104001.out) hb); have n1_ := Aside0.mk (below_step (by repeat (first | (with_reducible first | exact HB.out | apply below_alloc | apply pw_below_drewN | apply below_drew1 | refine below_set ?_ GE104001.out) | exact HB.out)) hb); clear BK104001; clear HB; have BK104001 := n0_; have HB := n1_; clear n0_ n1_; (try clear hb); (try clear hb2); (try clear hk); (try clear hi); have hcz16_0 : w15.cell? ⟨gb104001, 0, none⟩ = some (.int .i64 a0_0) := (blk_cell BK104001.out 0).trans rfl; have hcz16_1 : w15.cell? ⟨gb104001, 1, none⟩ = some (.int .i64 a0_1) := (blk_cell BK104001.out 1).trans rfl; have hcz16_2 : w15.cell? ⟨gb104001, 2, none⟩ = some (.int .i64 a0_2) := (blk_cell BK104001.out 2).trans rfl; have hcz16_3 : w15.cell? ⟨gb104001, 3, none⟩ = some (.slice A0_3 l0_3.length c0_3) := (blk_cell BK104001.out 3).trans rfl; have hcz16_4 : w15.cell? ⟨gb104001, 4, none⟩ = some (.int .i64 a0_4) := (blk_cell BK104001.out 4).trans rfl; have hcz16_5 : w15.cell? ⟨gb104001, 5, none⟩ = some (.int .i64 a0_5) := (blk_cell BK104001.out 5).trans rfl; have hcz16_6 : w15.cell? ⟨gb104001, 6, none⟩ = some (.int .i64 a0_6) := (blk_cell BK104001.out 6).trans rfl; have hcz16_7 : w15.cell? ⟨gb104001, 7, none⟩ = some (.int .i64 a0_7) := (blk_cell BK104001.out 7).trans rfl; have hcz16_8 : w15.cell? ⟨gb104001, 8, none⟩ = some (.bool a0_8) := (blk_cell BK104001.out 8).trans rfl; have hfz16_0 := blk_frozen BK104001.out 0; have hfz16_1 := blk_frozen BK104001.out 1; have hfz16_2 := blk_frozen BK104001.out 2; have hfz16_3 := blk_frozen BK104001.out 3; have hfz16_4 := blk_frozen BK104001.out 4; have hfz16_5 := blk_frozen BK104001.out 5; have hfz16_6 := blk_frozen BK104001.out 6; have hfz16_7 := blk_frozen BK104001.out 7; have hfz16_8 := blk_frozen BK104001.out 8) | (go_at_call 141; (with_reducible refine (impl_isMode.calls a0_6 true _ A10.out).mono ?_); rintro e w' ⟨rfl, ⟨nd, rfl⟩⟩))
                  go_ret
                  exact ⟨by first | rfl | (simp [errW_none, errW_some] <;> rfl) | (simp [*, errW_none, errW_some] <;> rfl), by repeat (first | (with_reducible first | exact HB.out | apply below_alloc | apply pw_below_drewN | apply below_drew1 | refine below_set ?_ GE104001.out) | exact HB.out)⟩
                · rw [if_neg c12] at H
                  have c12b0 : decide (0 ≤ a0_7) = false := decide_eq_false c12
                  clear c12
                  obtain rfl := Option.some.inj H
                  go_enter Try.func103, Try.ntmps103
                  go_wp2_with (first | ((with_reducible refine gate_dst (N := 2) rfl ?_); refine box_event ?hg (N := 2) ?hd (cs := #[.int .i64 a0_0, .int .i64 a0_1, .int .i64 a0_2, .slice A0_3 l0_3.length c0_3, .int .i64 a0_4, .int .i64 a0_5, .int .i64 a0_6, .int .i64 a0_7, .bool a0_8]) (t := 55) ?hr ?_; (case hd => rfl); (case hg => rfl); (case hr => first | (go_simp; done) | (go_simp; rfl)); intro gb104001 hg w17 hbox hb; have n0_ := Aside0.mk (below_step (by repeat (first | (with_reducible first | exact HB.out | apply below_alloc | apply pw_below_drewN | apply below_drew1) | exact HB.out)) hb); have n1_ := Aside0.mk (hbox); have n2_ := Aside0.mk ((by rw [hg]; exact (below_size (by repeat (first | (with_reducible first | exact HB.out | apply below_alloc | apply pw_below_drewN | apply below_drew1) | exact HB.out))) : w.heap.size ≤ gb104001)); have n3_ := Aside0.mk ((by rw [hg]; exact (below_size (by repeat (first | (with_reducible first | exact HB.out | apply below_alloc | apply pw_below_drewN | apply below_drew1) | exact HB.out))) : w.heap.size ≤ gb104001)); clear HB; have HB := n0_; have BK104001 := n1_; have GW104001 := n2_; have GE104001 := n3_; clear n0_ n1_ n2_ n3_; clear hb hbox hg; have hcz18_0 : w17.cell? ⟨gb104001, 0, none⟩ = some (.int .i64 a0_0) := (blk_cell BK104001.out 0).trans rfl; have hcz18_1 : w17.cell? ⟨gb104001, 1, none⟩ = some (.int .i64 a0_1) := (blk_cell BK104001.out 1).trans rfl; have hcz18_2 : w17.cell? ⟨gb104001, 2, none⟩ = some (.int .i64 a0_2) := (blk_cell BK104001.out 2).trans rfl; have hcz18_3 : w17.cell? ⟨gb104001, 3, none⟩ = some (.slice A0_3 l0_3.length c0_3) := (blk_cell BK104001.out 3).trans rfl; have hcz18_4 : w17.cell? ⟨gb104001, 4, none⟩ = some (.int .i64 a0_4) := (blk_cell BK104001.out 4).trans rfl; have hcz18_5 : w17.cell? ⟨gb104001, 5, none⟩ = some (.int .i64 a0_5) := (blk_cell BK104001.out 5).trans rfl; have hcz18_6 : w17.cell? ⟨gb104001, 6, none⟩ = some (.int .i64 a0_6) := (blk_cell BK104001.out 6).trans rfl; have hcz18_7 : w17.cell? ⟨gb104001, 7, none⟩ = some (.int .i64 a0_7) := (blk_cell BK104001.out 7).trans rfl; have hcz18_8 : w17.cell? ⟨gb104001, 8, none⟩ = some (.bool a0_8) := (blk_cell BK104001.out 8).trans rfl; have hfz18_0 := blk_frozen BK104001.out 0; have hfz18_1 := blk_frozen BK104001.out 1; have hfz18_2 := blk_frozen BK104001.out 2; have hfz18_3 := blk_frozen BK104001.out 3; have hfz18_4 := blk_frozen BK104001.out 4; have hfz18_5 := blk_frozen BK104001.out 5; have hfz18_6 := blk_frozen BK104001.out 6; have hfz18_7 := blk_frozen BK104001.out 7; have hfz18_8 := blk_frozen BK104001.out 8) | ((with_reducible refine gate_callee (f := 83) rfl ?_); refine goesL_ (some 7) rfl rfl Try.func83 (by kernel_rfl) rfl #[.agg #[.int .i64 a0_0, .int .i64 a0_1, .int .i64 a0_2, .slice A0_3 l0_3.length c0_3]] rfl (by (try simp only [List.map_toArray, List.map_cons, List.map_nil]); first | done | rfl | (simp only [List.length_drop, List.length_take]; rfl)) ?_; (with_reducible refine (impl_isImage.calls a0_0 a0_1 a0_2 _ _ l0_3 true _ ?side1 ?side2 A3.out).mono ?_); (case side1 => repeat (first | exact (Kd.C_below HR0_3.out HB.out) | (with_reducible refine Kd.C_alloc ?_ _) | (with_reducible refine Kd.C_drewN ?_ _) | (with_reducible refine Kd.C_drew ?_))); (case side2 => exact HC0_3.out); rintro e w19 ⟨rfl, hb⟩; refine ⟨_, rfl, ?_⟩; have n0_ := Aside0.mk (blk_below (g := gb104001) (o := .cells #[.int .i64 a0_0, .int .i64 a0_1, .int .i64 a0_2, .slice A0_3 l0_3.length c0_3, .int .i64 a0_4, .int .i64 a0_5, .int .i64 a0_6, .int .i64 a0_7, .bool a0_8] 55 (0, 0)) (by (with_reducible repeat (first | refine blk_drewN ?_ _ | refine blk_drew ?_ | refine blk_alloc ?_ _)); exact BK104001.out) hb); have n1_ := Aside0.mk (below_step (by repeat (first | (with_reducible first | exact HB.out | apply below_alloc | apply pw_below_drewN | apply below_drew1 | refine below_set ?_ GE104001.out) | exact HB.out)) hb); clear BK104001; clear HB; have BK104001 := n0_; have HB := n1_; clear n0_ n1_; (try clear hb); (try clear hb2); (try clear hk); (try clear hi); have hcz20_0 : w19.cell? ⟨gb104001, 0, none⟩ = some (.int .i64 a0_0) := (blk_cell BK104001.out 0).trans rfl; have hcz20_1 : w19.cell? ⟨gb104001, 1, none⟩ = some (.int .i64 a0_1) := (blk_cell BK104001.out 1).trans rfl; have hcz20_2 : w19.cell? ⟨gb104001, 2, none⟩ = some (.int .i64 a0_2) := (blk_cell BK104001.out 2).trans rfl; have hcz20_3 : w19.cell? ⟨gb104001, 3, none⟩ = some (.slice A0_3 l0_3.length c0_3) := (blk_cell BK104001.out 3).trans rfl; have hcz20_4 : w19.cell? ⟨gb104001, 4, none⟩ = some (.int .i64 a0_4) := (blk_cell BK104001.out 4).trans rfl; have hcz20_5 : w19.cell? ⟨gb104001, 5, none⟩ = some (.int .i64 a0_5) := (blk_cell BK104001.out 5).trans rfl; have hcz20_6 : w19.cell? ⟨gb104001, 6, none⟩ = some (.int .i64 a0_6) := (blk_cell BK104001.out 6).trans rfl; have hcz20_7 : w19.cell? ⟨gb104001, 7, none⟩ = some (.int .i64 a0_7) := (blk_cell BK104001.out 7).trans rfl; have hcz20_8 : w19.cell? ⟨gb104001, 8, none⟩ = some (.bool a0_8) := (blk_cell BK104001.out 8).trans rfl; have hfz20_0 := blk_frozen BK104001.out 0; have hfz20_1 := blk_frozen BK104001.out 1; have hfz20_2 := blk_frozen BK104001.out 2; have hfz20_3 := blk_frozen BK104001.out 3; have hfz20_4 := blk_frozen BK104001.out 4; have hfz20_5 := blk_frozen BK104001.out 5; have hfz20_6 := blk_frozen BK104001.out 6; have hfz20_7 := blk_frozen BK104001.out 7; have hfz20_8 := blk_frozen BK104001.out 8) | (go_at_call 141; (with_reducible refine (impl_isMode.calls a0_6 true _ A10.out).mono ?_); rintro e w' ⟨rfl, ⟨nd, rfl⟩⟩))
                  go_ret
                  exact ⟨by first | rfl | (simp [errW_none, errW_some] <;> rfl) | (simp [*, errW_none, errW_some] <;> rfl), by repeat (first | (with_reducible first | exact HB.out | apply below_alloc | apply pw_below_drewN | apply below_drew1 | refine below_set ?_ GE104001.out) | exact HB.out)⟩
              · replace c11 := Bool.eq_false_iff.mpr c11
                subst c11
                have H1 : (some false) = some r := by rw [if_neg (show ¬ (false = true) by decide)] at H; exact H
                clear H
                have H := H1
                clear H1
                obtain rfl := Option.some.inj H
                go_enter Try.func103, Try.ntmps103
                go_wp2_with (first | ((with_reducible refine gate_dst (N := 2) rfl ?_); refine box_event ?hg (N := 2) ?hd (cs := #[.int .i64 a0_0, .int .i64 a0_1, .int .i64 a0_2, .slice A0_3 l0_3.length c0_3, .int .i64 a0_4, .int .i64 a0_5, .int .i64 a0_6, .int .i64 a0_7, .bool a0_8]) (t := 55) ?hr ?_; (case hd => rfl); (case hg => rfl); (case hr => first | (go_simp; done) | (go_simp; rfl)); intro gb104001 hg w21 hbox hb; have n0_ := Aside0.mk (below_step (by repeat (first | (with_reducible first | exact HB.out | apply below_alloc | apply pw_below_drewN | apply below_drew1) | exact HB.out)) hb); have n1_ := Aside0.mk (hbox); have n2_ := Aside0.mk ((by rw [hg]; exact (below_size (by repeat (first | (with_reducible first | exact HB.out | apply below_alloc | apply pw_below_drewN | apply below_drew1) | exact HB.out))) : w.heap.size ≤ gb104001)); have n3_ := Aside0.mk ((by rw [hg]; exact (below_size (by repeat (first | (with_reducible first | exact HB.out | apply below_alloc | apply pw_below_drewN | apply below_drew1) | exact HB.out))) : w.heap.size ≤ gb104001)); clear HB; have HB := n0_; have BK104001 := n1_; have GW104001 := n2_; have GE104001 := n3_; clear n0_ n1_ n2_ n3_; clear hb hbox hg; have hcz22_0 : w21.cell? ⟨gb104001, 0, none⟩ = some (.int .i64 a0_0) := (blk_cell BK104001.out 0).trans rfl; have hcz22_1 : w21.cell? ⟨gb104001, 1, none⟩ = some (.int .i64 a0_1) := (blk_cell BK104001.out 1).trans rfl; have hcz22_2 : w21.cell? ⟨gb104001, 2, none⟩ = some (.int .i64 a0_2) := (blk_cell BK104001.out 2).trans rfl; have hcz22_3 : w21.cell? ⟨gb104001, 3, none⟩ = some (.slice A0_3 l0_3.length c0_3) := (blk_cell BK104001.out 3).trans rfl; have hcz22_4 : w21.cell? ⟨gb104001, 4, none⟩ = some (.int .i64 a0_4) := (blk_cell BK104001.out 4).trans rfl; have hcz22_5 : w21.cell? ⟨gb104001, 5, none⟩ = some (.int .i64 a0_5) := (blk_cell BK104001.out 5).trans rfl; have hcz22_6 : w21.cell? ⟨gb104001, 6, none⟩ = some (.int .i64 a0_6) := (blk_cell BK104001.out 6).trans rfl; have hcz22_7 : w21.cell? ⟨gb104001, 7, none⟩ = some (.int .i64 a0_7) := (blk_cell BK104001.out 7).trans rfl; have hcz22_8 : w21.cell? ⟨gb104001, 8, none⟩ = some (.bool a0_8) := (blk_cell BK104001.out 8).trans rfl; have hfz22_0 := blk_frozen BK104001.out 0; have hfz22_1 := blk_frozen BK104001.out 1; have hfz22_2 := blk_frozen BK104001.out 2; have hfz22_3 := blk_frozen BK104001.out 3; have hfz22_4 := blk_frozen BK104001.out 4; have hfz22_5 := blk_frozen BK104001.out 5; have hfz22_6 := blk_frozen BK104001.out 6; have hfz22_7 := blk_frozen BK104001.out 7; have hfz22_8 := blk_frozen BK104001.out 8) | ((with_reducible refine gate_callee (f := 83) rfl ?_); refine goesL_ (some 7) rfl rfl Try.func83 (by kernel_rfl) rfl #[.agg #[.int .i64 a0_0, .int .i64 a0_1, .int .i64 a0_2, .slice A0_3 l0_3.length c0_3]] rfl (by (try simp only [List.map_toArray, List.map_cons, List.map_nil]); first | done | rfl | (simp only [List.length_drop, List.length_take]; rfl)) ?_; (with_reducible refine (impl_isImage.calls a0_0 a0_1 a0_2 _ _ l0_3 true _ ?side1 ?side2 A3.out).mono ?_); (case side1 => repeat (first | exact (Kd.C_below HR0_3.out HB.out) | (with_reducible refine Kd.C_alloc ?_ _) | (with_reducible refine Kd.C_drewN ?_ _) | (with_reducible refine Kd.C_drew ?_))); (case side2 => exact HC0_3.out); rintro e w23 ⟨rfl, hb⟩; refine ⟨_, rfl, ?_⟩; have n0_ := Aside0.mk (blk_below (g := gb104001) (o := .cells #[.int .i64 a0_0, .int .i64 a0_1, .int .i64 a0_2, .slice A0_3 l0_3.length c0_3, .int .i64 a0_4, .int .i64 a0_5, .int .i64 a0_6, .int .i64 a0_7, .bool a0_8] 55 (0, 0)) (by (with_reducible repeat (first | refine blk_drewN ?_ _ | refine blk_drew ?_ | refine blk_alloc ?_ _)); exact BK104001.out) hb); have n1_ := Aside0.mk (below_step (by repeat (first | (with_reducible first | exact HB.out | apply below_alloc | apply pw_below_drewN | apply below_drew1 | refine below_set ?_ GE104001.out) | exact HB.out)) hb); clear BK104001; clear HB; have BK104001 := n0_; have HB := n1_; clear n0_ n1_; (try clear hb); (try clear hb2); (try clear hk); (try clear hi); have hcz24_0 : w23.cell? ⟨gb104001, 0, none⟩ = some (.int .i64 a0_0) := (blk_cell BK104001.out 0).trans rfl; have hcz24_1 : w23.cell? ⟨gb104001, 1, none⟩ = some (.int .i64 a0_1) := (blk_cell BK104001.out 1).trans rfl; have hcz24_2 : w23.cell? ⟨gb104001, 2, none⟩ = some (.int .i64 a0_2) := (blk_cell BK104001.out 2).trans rfl; have hcz24_3 : w23.cell? ⟨gb104001, 3, none⟩ = some (.slice A0_3 l0_3.length c0_3) := (blk_cell BK104001.out 3).trans rfl; have hcz24_4 : w23.cell? ⟨gb104001, 4, none⟩ = some (.int .i64 a0_4) := (blk_cell BK104001.out 4).trans rfl; have hcz24_5 : w23.cell? ⟨gb104001, 5, none⟩ = some (.int .i64 a0_5) := (blk_cell BK104001.out 5).trans rfl; have hcz24_6 : w23.cell? ⟨gb104001, 6, none⟩ = some (.int .i64 a0_6) := (blk_cell BK104001.out 6).trans rfl; have hcz24_7 : w23.cell? ⟨gb104001, 7, none⟩ = some (.int .i64 a0_7) := (blk_cell BK104001.out 7).trans rfl; have hcz24_8 : w23.cell? ⟨gb104001, 8, none⟩ = some (.bool a0_8) := (blk_cell BK104001.out 8).trans rfl; have hfz24_0 := blk_frozen BK104001.out 0; have hfz24_1 := blk_frozen BK104001.out 1; have hfz24_2 := blk_frozen BK104001.out 2; have hfz24_3 := blk_frozen BK104001.out 3; have hfz24_4 := blk_frozen BK104001.out 4; have hfz24_5 := blk_frozen BK104001.out 5; have hfz24_6 := blk_frozen BK104001.out 6; have hfz24_7 := blk_frozen BK104001.out 7; have hfz24_8 := blk_frozen BK104001.out 8) | (go_at_call 141; (with_reducible refine (impl_isMode.calls a0_6 false _ A10.out).mono ?_); rintro e w' ⟨rfl, ⟨nd, rfl⟩⟩))
                go_ret
                exact ⟨by first | rfl | (simp [errW_none, errW_some] <;> rfl) | (simp [*, errW_none, errW_some] <;> rfl), by repeat (first | (with_reducible first | exact HB.out | apply below_alloc | apply pw_below_drewN | apply below_drew1 | refine below_set ?_ GE104001.out) | exact HB.out)⟩
            · rw [if_neg c9] at H
              have c9b0 : decide (a0_5 ≤ 16) = false := decide_eq_false c9
              clear c9
              obtain rfl := Option.some.inj H
              go_enter Try.func103, Try.ntmps103
              go_wp2_with (first | ((with_reducible refine gate_dst (N := 2) rfl ?_); refine box_event ?hg (N := 2) ?hd (cs := #[.int .i64 a0_0, .int .i64 a0_1, .int .i64 a0_2, .slice A0_3 l0_3.length c0_3, .int .i64 a0_4, .int .i64 a0_5, .int .i64 a0_6, .int .i64 a0_7, .bool a0_8]) (t := 55) ?hr ?_; (case hd => rfl); (case hg => rfl); (case hr => first | (go_simp; done) | (go_simp; rfl)); intro gb104001 hg w25 hbox hb; have n0_ := Aside0.mk (below_step (by repeat (first | (with_reducible first | exact HB.out | apply below_alloc | apply pw_below_drewN | apply below_drew1) | exact HB.out)) hb); have n1_ := Aside0.mk (hbox); have n2_ := Aside0.mk ((by rw [hg]; exact (below_size (by repeat (first | (with_reducible first | exact HB.out | apply below_alloc | apply pw_below_drewN | apply below_drew1) | exact HB.out))) : w.heap.size ≤ gb104001)); have n3_ := Aside0.mk ((by rw [hg]; exact (below_size (by repeat (first | (with_reducible first | exact HB.out | apply below_alloc | apply pw_below_drewN | apply below_drew1) | exact HB.out))) : w.heap.size ≤ gb104001)); clear HB; have HB := n0_; have BK104001 := n1_; have GW104001 := n2_; have GE104001 := n3_; clear n0_ n1_ n2_ n3_; clear hb hbox hg; have hcz26_0 : w25.cell? ⟨gb104001, 0, none⟩ = some (.int .i64 a0_0) := (blk_cell BK104001.out 0).trans rfl; have hcz26_1 : w25.cell? ⟨gb104001, 1, none⟩ = some (.int .i64 a0_1) := (blk_cell BK104001.out 1).trans rfl; have hcz26_2 : w25.cell? ⟨gb104001, 2, none⟩ = some (.int .i64 a0_2) := (blk_cell BK104001.out 2).trans rfl; have hcz26_3 : w25.cell? ⟨gb104001, 3, none⟩ = some (.slice A0_3 l0_3.length c0_3) := (blk_cell BK104001.out 3).trans rfl; have hcz26_4 : w25.cell? ⟨gb104001, 4, none⟩ = some (.int .i64 a0_4) := (blk_cell BK104001.out 4).trans rfl; have hcz26_5 : w25.cell? ⟨gb104001, 5, none⟩ = some (.int .i64 a0_5) := (blk_cell BK104001.out 5).trans rfl; have hcz26_6 : w25.cell? ⟨gb104001, 6, none⟩ = some (.int .i64 a0_6) := (blk_cell BK104001.out 6).trans rfl; have hcz26_7 : w25.cell? ⟨gb104001, 7, none⟩ = some (.int .i64 a0_7) := (blk_cell BK104001.out 7).trans rfl; have hcz26_8 : w25.cell? ⟨gb104001, 8, none⟩ = some (.bool a0_8) := (blk_cell BK104001.out 8).trans rfl; have hfz26_0 := blk_frozen BK104001.out 0; have hfz26_1 := blk_frozen BK104001.out 1; have hfz26_2 := blk_frozen BK104001.out 2; have hfz26_3 := blk_frozen BK104001.out 3; have hfz26_4 := blk_frozen BK104001.out 4; have hfz26_5 := blk_frozen BK104001.out 5; have hfz26_6 := blk_frozen BK104001.out 6; have hfz26_7 := blk_frozen BK104001.out 7; have hfz26_8 := blk_frozen BK104001.out 8) | ((with_reducible refine gate_callee (f := 83) rfl ?_); refine goesL_ (some 7) rfl rfl Try.func83 (by kernel_rfl) rfl #[.agg #[.int .i64 a0_0, .int .i64 a0_1, .int .i64 a0_2, .slice A0_3 l0_3.length c0_3]] rfl (by (try simp only [List.map_toArray, List.map_cons, List.map_nil]); first | done | rfl | (simp only [List.length_drop, List.length_take]; rfl)) ?_; (with_reducible refine (impl_isImage.calls a0_0 a0_1 a0_2 _ _ l0_3 true _ ?side1 ?side2 A3.out).mono ?_); (case side1 => repeat (first | exact (Kd.C_below HR0_3.out HB.out) | (with_reducible refine Kd.C_alloc ?_ _) | (with_reducible refine Kd.C_drewN ?_ _) | (with_reducible refine Kd.C_drew ?_))); (case side2 => exact HC0_3.out); rintro e w27 ⟨rfl, hb⟩; refine ⟨_, rfl, ?_⟩; have n0_ := Aside0.mk (blk_below (g := gb104001) (o := .cells #[.int .i64 a0_0, .int .i64 a0_1, .int .i64 a0_2, .slice A0_3 l0_3.length c0_3, .int .i64 a0_4, .int .i64 a0_5, .int .i64 a0_6, .int .i64 a0_7, .bool a0_8] 55 (0, 0)) (by (with_reducible repeat (first | refine blk_drewN ?_ _ | refine blk_drew ?_ | refine blk_alloc ?_ _)); exact BK104001.out) hb); have n1_ := Aside0.mk (below_step (by repeat (first | (with_reducible first | exact HB.out | apply below_alloc | apply pw_below_drewN | apply below_drew1 | refine below_set ?_ GE104001.out) | exact HB.out)) hb); clear BK104001; clear HB; have BK104001 := n0_; have HB := n1_; clear n0_ n1_; (try clear hb); (try clear hb2); (try clear hk); (try clear hi); have hcz28_0 : w27.cell? ⟨gb104001, 0, none⟩ = some (.int .i64 a0_0) := (blk_cell BK104001.out 0).trans rfl; have hcz28_1 : w27.cell? ⟨gb104001, 1, none⟩ = some (.int .i64 a0_1) := (blk_cell BK104001.out 1).trans rfl; have hcz28_2 : w27.cell? ⟨gb104001, 2, none⟩ = some (.int .i64 a0_2) := (blk_cell BK104001.out 2).trans rfl; have hcz28_3 : w27.cell? ⟨gb104001, 3, none⟩ = some (.slice A0_3 l0_3.length c0_3) := (blk_cell BK104001.out 3).trans rfl; have hcz28_4 : w27.cell? ⟨gb104001, 4, none⟩ = some (.int .i64 a0_4) := (blk_cell BK104001.out 4).trans rfl; have hcz28_5 : w27.cell? ⟨gb104001, 5, none⟩ = some (.int .i64 a0_5) := (blk_cell BK104001.out 5).trans rfl; have hcz28_6 : w27.cell? ⟨gb104001, 6, none⟩ = some (.int .i64 a0_6) := (blk_cell BK104001.out 6).trans rfl; have hcz28_7 : w27.cell? ⟨gb104001, 7, none⟩ = some (.int .i64 a0_7) := (blk_cell BK104001.out 7).trans rfl; have hcz28_8 : w27.cell? ⟨gb104001, 8, none⟩ = some (.bool a0_8) := (blk_cell BK104001.out 8).trans rfl; have hfz28_0 := blk_frozen BK104001.out 0; have hfz28_1 := blk_frozen BK104001.out 1; have hfz28_2 := blk_frozen BK104001.out 2; have hfz28_3 := blk_frozen BK104001.out 3; have hfz28_4 := blk_frozen BK104001.out 4; have hfz28_5 := blk_frozen BK104001.out 5; have hfz28_6 := blk_frozen BK104001.out 6; have hfz28_7 := blk_frozen BK104001.out 7; have hfz28_8 := blk_frozen BK104001.out 8))
              go_ret
              exact ⟨by first | rfl | (simp [errW_none, errW_some] <;> rfl) | (simp [*, errW_none, errW_some] <;> rfl), by repeat (first | (with_reducible first | exact HB.out | apply below_alloc | apply pw_below_drewN | apply below_drew1 | refine below_set ?_ GE104001.out) | exact HB.out)⟩
          · rw [if_neg c8] at H
            have c8b0 : decide ((-16) ≤ a0_5) = false := decide_eq_false c8
            clear c8
            obtain rfl := Option.some.inj H
            go_enter Try.func103, Try.ntmps103
            go_wp2_with (first | ((with_reducible refine gate_dst (N := 2) rfl ?_); refine box_event ?hg (N := 2) ?hd (cs := #[.int .i64 a0_0, .int .i64 a0_1, .int .i64 a0_2, .slice A0_3 l0_3.length c0_3, .int .i64 a0_4, .int .i64 a0_5, .int .i64 a0_6, .int .i64 a0_7, .bool a0_8]) (t := 55) ?hr ?_; (case hd => rfl); (case hg => rfl); (case hr => first | (go_simp; done) | (go_simp; rfl)); intro gb104001 hg w29 hbox hb; have n0_ := Aside0.mk (below_step (by repeat (first | (with_reducible first | exact HB.out | apply below_alloc | apply pw_below_drewN | apply below_drew1) | exact HB.out)) hb); have n1_ := Aside0.mk (hbox); have n2_ := Aside0.mk ((by rw [hg]; exact (below_size (by repeat (first | (with_reducible first | exact HB.out | apply below_alloc | apply pw_below_drewN | apply below_drew1) | exact HB.out))) : w.heap.size ≤ gb104001)); have n3_ := Aside0.mk ((by rw [hg]; exact (below_size (by repeat (first | (with_reducible first | exact HB.out | apply below_alloc | apply pw_below_drewN | apply below_drew1) | exact HB.out))) : w.heap.size ≤ gb104001)); clear HB; have HB := n0_; have BK104001 := n1_; have GW104001 := n2_; have GE104001 := n3_; clear n0_ n1_ n2_ n3_; clear hb hbox hg; have hcz30_0 : w29.cell? ⟨gb104001, 0, none⟩ = some (.int .i64 a0_0) := (blk_cell BK104001.out 0).trans rfl; have hcz30_1 : w29.cell? ⟨gb104001, 1, none⟩ = some (.int .i64 a0_1) := (blk_cell BK104001.out 1).trans rfl; have hcz30_2 : w29.cell? ⟨gb104001, 2, none⟩ = some (.int .i64 a0_2) := (blk_cell BK104001.out 2).trans rfl; have hcz30_3 : w29.cell? ⟨gb104001, 3, none⟩ = some (.slice A0_3 l0_3.length c0_3) := (blk_cell BK104001.out 3).trans rfl; have hcz30_4 : w29.cell? ⟨gb104001, 4, none⟩ = some (.int .i64 a0_4) := (blk_cell BK104001.out 4).trans rfl; have hcz30_5 : w29.cell? ⟨gb104001, 5, none⟩ = some (.int .i64 a0_5) := (blk_cell BK104001.out 5).trans rfl; have hcz30_6 : w29.cell? ⟨gb104001, 6, none⟩ = some (.int .i64 a0_6) := (blk_cell BK104001.out 6).trans rfl; have hcz30_7 : w29.cell? ⟨gb104001, 7, none⟩ = some (.int .i64 a0_7) := (blk_cell BK104001.out 7).trans rfl; have hcz30_8 : w29.cell? ⟨gb104001, 8, none⟩ = some (.bool a0_8) := (blk_cell BK104001.out 8).trans rfl; have hfz30_0 := blk_frozen BK104001.out 0; have hfz30_1 := blk_frozen BK104001.out 1; have hfz30_2 := blk_frozen BK104001.out 2; have hfz30_3 := blk_frozen BK104001.out 3; have hfz30_4 := blk_frozen BK104001.out 4; have hfz30_5 := blk_frozen BK104001.out 5; have hfz30_6 := blk_frozen BK104001.out 6; have hfz30_7 := blk_frozen BK104001.out 7; have hfz30_8 := blk_frozen BK104001.out 8) | ((with_reducible refine gate_callee (f := 83) rfl ?_); refine goesL_ (some 7) rfl rfl Try.func83 (by kernel_rfl) rfl #[.agg #[.int .i64 a0_0, .int .i64 a0_1, .int .i64 a0_2, .slice A0_3 l0_3.length c0_3]] rfl (by (try simp only [List.map_toArray, List.map_cons, List.map_nil]); first | done | rfl | (simp only [List.length_drop, List.length_take]; rfl)) ?_; (with_reducible refine (impl_isImage.calls a0_0 a0_1 a0_2 _ _ l0_3 true _ ?side1 ?side2 A3.out).mono ?_); (case side1 => repeat (first | exact (Kd.C_below HR0_3.out HB.out) | (with_reducible refine Kd.C_alloc ?_ _) | (with_reducible refine Kd.C_drewN ?_ _) | (with_reducible refine Kd.C_drew ?_))); (case side2 => exact HC0_3.out); rintro e w31 ⟨rfl, hb⟩; refine ⟨_, rfl, ?_⟩; have n0_ := Aside0.mk (blk_below (g := gb104001) (o := .cells #[.int .i64 a0_0, .int .i64 a0_1, .int .i64 a0_2, .slice A0_3 l0_3.length c0_3, .int .i64 a0_4, .int .i64 a0_5, .int .i64 a0_6, .int .i64 a0_7, .bool a0_8] 55 (0, 0)) (by (with_reducible repeat (first | refine blk_drewN ?_ _ | refine blk_drew ?_ | refine blk_alloc ?_ _)); exact BK104001.out) hb); have n1_ := Aside0.mk (below_step (by repeat (first | (with_reducible first | exact HB.out | apply below_alloc | apply pw_below_drewN | apply below_drew1 | refine below_set ?_ GE104001.out) | exact HB.out)) hb); clear BK104001; clear HB; have BK104001 := n0_; have HB := n1_; clear n0_ n1_; (try clear hb); (try clear hb2); (try clear hk); (try clear hi); have hcz32_0 : w31.cell? ⟨gb104001, 0, none⟩ = some (.int .i64 a0_0) := (blk_cell BK104001.out 0).trans rfl; have hcz32_1 : w31.cell? ⟨gb104001, 1, none⟩ = some (.int .i64 a0_1) := (blk_cell BK104001.out 1).trans rfl; have hcz32_2 : w31.cell? ⟨gb104001, 2, none⟩ = some (.int .i64 a0_2) := (blk_cell BK104001.out 2).trans rfl; have hcz32_3 : w31.cell? ⟨gb104001, 3, none⟩ = some (.slice A0_3 l0_3.length c0_3) := (blk_cell BK104001.out 3).trans rfl; have hcz32_4 : w31.cell? ⟨gb104001, 4, none⟩ = some (.int .i64 a0_4) := (blk_cell BK104001.out 4).trans rfl; have hcz32_5 : w31.cell? ⟨gb104001, 5, none⟩ = some (.int .i64 a0_5) := (blk_cell BK104001.out 5).trans rfl; have hcz32_6 : w31.cell? ⟨gb104001, 6, none⟩ = some (.int .i64 a0_6) := (blk_cell BK104001.out 6).trans rfl; have hcz32_7 : w31.cell? ⟨gb104001, 7, none⟩ = some (.int .i64 a0_7) := (blk_cell BK104001.out 7).trans rfl; have hcz32_8 : w31.cell? ⟨gb104001, 8, none⟩ = some (.bool a0_8) := (blk_cell BK104001.out 8).trans rfl; have hfz32_0 := blk_frozen BK104001.out 0; have hfz32_1 := blk_frozen BK104001.out 1; have hfz32_2 := blk_frozen BK104001.out 2; have hfz32_3 := blk_frozen BK104001.out 3; have hfz32_4 := blk_frozen BK104001.out 4; have hfz32_5 := blk_frozen BK104001.out 5; have hfz32_6 := blk_frozen BK104001.out 6; have hfz32_7 := blk_frozen BK104001.out 7; have hfz32_8 := blk_frozen BK104001.out 8))
            go_ret
            exact ⟨by first | rfl | (simp [errW_none, errW_some] <;> rfl) | (simp [*, errW_none, errW_some] <;> rfl), by repeat (first | (with_reducible first | exact HB.out | apply below_alloc | apply pw_below_drewN | apply below_drew1 | refine below_set ?_ GE104001.out) | exact HB.out)⟩
        · rw [if_neg c7] at H
          have c7b0 : decide (a0_4 ≤ 16) = false := decide_eq_false c7
          clear c7
          obtain rfl := Option.some.inj H
          go_enter Try.func103, Try.ntmps103
          go_wp2_with (first | ((with_reducible refine gate_dst (N := 2) rfl ?_); refine box_event ?hg (N := 2) ?hd (cs := #[.int .i64 a0_0, .int .i64 a0_1, .int .i64 a0_2, .slice A0_3 l0_3.length c0_3, .int .i64 a0_4, .int .i64 a0_5, .int .i64 a0_6, .int .i64 a0_7, .bool a0_8]) (t := 55) ?hr ?_; (case hd => rfl); (case hg => rfl); (case hr => first | (go_simp; done) | (go_simp; rfl)); intro gb104001 hg w33 hbox hb; have n0_ := Aside0.mk (below_step (by repeat (first | (with_reducible first | exact HB.out | apply below_alloc | apply pw_below_drewN | apply below_drew1) | exact HB.out)) hb); have n1_ := Aside0.mk (hbox); have n2_ := Aside0.mk ((by rw [hg]; exact (below_size (by repeat (first | (with_reducible first | exact HB.out | apply below_alloc | apply pw_below_drewN | apply below_drew1) | exact HB.out))) : w.heap.size ≤ gb104001)); have n3_ := Aside0.mk ((by rw [hg]; exact (below_size (by repeat (first | (with_reducible first | exact HB.out | apply below_alloc | apply pw_below_drewN | apply below_drew1) | exact HB.out))) : w.heap.size ≤ gb104001)); clear HB; have HB := n0_; have BK104001 := n1_; have GW104001 := n2_; have GE104001 := n3_; clear n0_ n1_ n2_ n3_; clear hb hbox hg; have hcz34_0 : w33.cell? ⟨gb104001, 0, none⟩ = some (.int .i64 a0_0) := (blk_cell BK104001.out 0).trans rfl; have hcz34_1 : w33.cell? ⟨gb104001, 1, none⟩ = some (.int .i64 a0_1) := (blk_cell BK104001.out 1).trans rfl; have hcz34_2 : w33.cell? ⟨gb104001, 2, none⟩ = some (.int .i64 a0_2) := (blk_cell BK104001.out 2).trans rfl; have hcz34_3 : w33.cell? ⟨gb104001, 3, none⟩ = some (.slice A0_3 l0_3.length c0_3) := (blk_cell BK104001.out 3).trans rfl; have hcz34_4 : w33.cell? ⟨gb104001, 4, none⟩ = some (.int .i64 a0_4) := (blk_cell BK104001.out 4).trans rfl; have hcz34_5 : w33.cell? ⟨gb104001, 5, none⟩ = some (.int .i64 a0_5) := (blk_cell BK104001.out 5).trans rfl; have hcz34_6 : w33.cell? ⟨gb104001, 6, none⟩ = some (.int .i64 a0_6) := (blk_cell BK104001.out 6).trans rfl; have hcz34_7 : w33.cell? ⟨gb104001, 7, none⟩ = some (.int .i64 a0_7) := (blk_cell BK104001.out 7).trans rfl; have hcz34_8 : w33.cell? ⟨gb104001, 8, none⟩ = some (.bool a0_8) := (blk_cell BK104001.out 8).trans rfl; have hfz34_0 := blk_frozen BK104001.out 0; have hfz34_1 := blk_frozen BK104001.out 1; have hfz34_2 := blk_frozen BK104001.out 2; have hfz34_3 := blk_frozen BK104001.out 3; have hfz34_4 := blk_frozen BK104001.out 4; have hfz34_5 := blk_frozen BK104001.out 5; have hfz34_6 := blk_frozen BK104001.out 6; have hfz34_7 := blk_frozen BK104001.out 7; have hfz34_8 := blk_frozen BK104001.out 8) | ((with_reducible refine gate_callee (f := 83) rfl ?_); refine goesL_ (some 7) rfl rfl Try.func83 (by kernel_rfl) rfl #[.agg #[.int .i64 a0_0, .int .i64 a0_1, .int .i64 a0_2, .slice A0_3 l0_3.length c0_3]] rfl (by (try simp only [List.map_toArray, List.map_cons, List.map_nil]); first | done | rfl | (simp only [List.length_drop, List.length_take]; rfl)) ?_; (with_reducible refine (impl_isImage.calls a0_0 a0_1 a0_2 _ _ l0_3 true _ ?side1 ?side2 A3.out).mono ?_); (case side1 => repeat (first | exact (Kd.C_below HR0_3.out HB.out) | (with_reducible refine Kd.C_alloc ?_ _) | (with_reducible refine Kd.C_drewN ?_ _) | (with_reducible refine Kd.C_drew ?_))); (case side2 => exact HC0_3.out); rintro e w35 ⟨rfl, hb⟩; refine ⟨_, rfl, ?_⟩; have n0_ := Aside0.mk (blk_below (g := gb104001) (o := .cells #[.int .i64 a0_0, .int .i64 a0_1, .int .i64 a0_2, .slice A0_3 l0_3.length c0_3, .int .i64 a0_4, .int .i64 a0_5, .int .i64 a0_6, .int .i64 a0_7, .bool a0_8] 55 (0, 0)) (by (with_reducible repeat (first | refine blk_drewN ?_ _ | refine blk_drew ?_ | refine blk_alloc ?_ _)); exact BK104001.out) hb); have n1_ := Aside0.mk (below_step (by repeat (first | (with_reducible first | exact HB.out | apply below_alloc | apply pw_below_drewN | apply below_drew1 | refine below_set ?_ GE104001.out) | exact HB.out)) hb); clear BK104001; clear HB; have BK104001 := n0_; have HB := n1_; clear n0_ n1_; (try clear hb); (try clear hb2); (try clear hk); (try clear hi); have hcz36_0 : w35.cell? ⟨gb104001, 0, none⟩ = some (.int .i64 a0_0) := (blk_cell BK104001.out 0).trans rfl; have hcz36_1 : w35.cell? ⟨gb104001, 1, none⟩ = some (.int .i64 a0_1) := (blk_cell BK104001.out 1).trans rfl; have hcz36_2 : w35.cell? ⟨gb104001, 2, none⟩ = some (.int .i64 a0_2) := (blk_cell BK104001.out 2).trans rfl; have hcz36_3 : w35.cell? ⟨gb104001, 3, none⟩ = some (.slice A0_3 l0_3.length c0_3) := (blk_cell BK104001.out 3).trans rfl; have hcz36_4 : w35.cell? ⟨gb104001, 4, none⟩ = some (.int .i64 a0_4) := (blk_cell BK104001.out 4).trans rfl; have hcz36_5 : w35.cell? ⟨gb104001, 5, none⟩ = some (.int .i64 a0_5) := (blk_cell BK104001.out 5).trans rfl; have hcz36_6 : w35.cell? ⟨gb104001, 6, none⟩ = some (.int .i64 a0_6) := (blk_cell BK104001.out 6).trans rfl; have hcz36_7 : w35.cell? ⟨gb104001, 7, none⟩ = some (.int .i64 a0_7) := (blk_cell BK104001.out 7).trans rfl; have hcz36_8 : w35.cell? ⟨gb104001, 8, none⟩ = some (.bool a0_8) := (blk_cell BK104001.out 8).trans rfl; have hfz36_0 := blk_frozen BK104001.out 0; have hfz36_1 := blk_frozen BK104001.out 1; have hfz36_2 := blk_frozen BK104001.out 2; have hfz36_3 := blk_frozen BK104001.out 3; have hfz36_4 := blk_frozen BK104001.out 4; have hfz36_5 := blk_frozen BK104001.out 5; have hfz36_6 := blk_frozen BK104001.out 6; have hfz36_7 := blk_frozen BK104001.out 7; have hfz36_8 := blk_frozen BK104001.out 8))
          go_ret
          exact ⟨by first | rfl | (simp [errW_none, errW_some] <;> rfl) | (simp [*, errW_none, errW_some] <;> rfl), by repeat (first | (with_reducible first | exact HB.out | apply below_alloc | apply pw_below_drewN | apply below_drew1 | refine below_set ?_ GE104001.out) | exact HB.out)⟩
      · rw [if_neg c6] at H
        have c6b0 : decide ((-16) ≤ a0_4) = false := decide_eq_false c6
        clear c6
        obtain rfl := Option.some.inj H
        go_enter Try.func103, Try.ntmps103
        go_wp2_with (first | ((with_reducible refine gate_dst (N := 2) rfl ?_); refine box_event ?hg (N := 2) ?hd (cs := #[.int .i64 a0_0, .int .i64 a0_1, .int .i64 a0_2, .slice A0_3 l0_3.length c0_3, .int .i64 a0_4, .int .i64 a0_5, .int .i64 a0_6, .int .i64 a0_7, .bool a0_8]) (t := 55) ?hr ?_; (case hd => rfl); (case hg => rfl); (case hr => first | (go_simp; done) | (go_simp; rfl)); intro gb104001 hg w37 hbox hb; have n0_ := Aside0.mk (below_step (by repeat (first | (with_reducible first | exact HB.out | apply below_alloc | apply pw_below_drewN | apply below_drew1) | exact HB.out)) hb); have n1_ := Aside0.mk (hbox); have n2_ := Aside0.mk ((by rw [hg]; exact (below_size (by repeat (first | (with_reducible first | exact HB.out | apply below_alloc | apply pw_below_drewN | apply below_drew1) | exact HB.out))) : w.heap.size ≤ gb104001)); have n3_ := Aside0.mk ((by rw [hg]; exact (below_size (by repeat (first | (with_reducible first | exact HB.out | apply below_alloc | apply pw_below_drewN | apply below_drew1) | exact HB.out))) : w.heap.size ≤ gb104001)); clear HB; have HB := n0_; have BK104001 := n1_; have GW104001 := n2_; have GE104001 := n3_; clear n0_ n1_ n2_ n3_; clear hb hbox hg; have hcz38_0 : w37.cell? ⟨gb104001, 0, none⟩ = some (.int .i64 a0_0) := (blk_cell BK104001.out 0).trans rfl; have hcz38_1 : w37.cell? ⟨gb104001, 1, none⟩ = some (.int .i64 a0_1) := (blk_cell BK104001.out 1).trans rfl; have hcz38_2 : w37.cell? ⟨gb104001, 2, none⟩ = some (.int .i64 a0_2) := (blk_cell BK104001.out 2).trans rfl; have hcz38_3 : w37.cell? ⟨gb104001, 3, none⟩ = some (.slice A0_3 l0_3.length c0_3) := (blk_cell BK104001.out 3).trans rfl; have hcz38_4 : w37.cell? ⟨gb104001, 4, none⟩ = some (.int .i64 a0_4) := (blk_cell BK104001.out 4).trans rfl; have hcz38_5 : w37.cell? ⟨gb104001, 5, none⟩ = some (.int .i64 a0_5) := (blk_cell BK104001.out 5).trans rfl; have hcz38_6 : w37.cell? ⟨gb104001, 6, none⟩ = some (.int .i64 a0_6) := (blk_cell BK104001.out 6).trans rfl; have hcz38_7 : w37.cell? ⟨gb104001, 7, none⟩ = some (.int .i64 a0_7) := (blk_cell BK104001.out 7).trans rfl; have hcz38_8 : w37.cell? ⟨gb104001, 8, none⟩ = some (.bool a0_8) := (blk_cell BK104001.out 8).trans rfl; have hfz38_0 := blk_frozen BK104001.out 0; have hfz38_1 := blk_frozen BK104001.out 1; have hfz38_2 := blk_frozen BK104001.out 2; have hfz38_3 := blk_frozen BK104001.out 3; have hfz38_4 := blk_frozen BK104001.out 4; have hfz38_5 := blk_frozen BK104001.out 5; have hfz38_6 := blk_frozen BK104001.out 6; have hfz38_7 := blk_frozen BK104001.out 7; have hfz38_8 := blk_frozen BK104001.out 8) | ((with_reducible refine gate_callee (f := 83) rfl ?_); refine goesL_ (some 7) rfl rfl Try.func83 (by kernel_rfl) rfl #[.agg #[.int .i64 a0_0, .int .i64 a0_1, .int .i64 a0_2, .slice A0_3 l0_3.length c0_3]] rfl (by (try simp only [List.map_toArray, List.map_cons, List.map_nil]); first | done | rfl | (simp only [List.length_drop, List.length_take]; rfl)) ?_; (with_reducible refine (impl_isImage.calls a0_0 a0_1 a0_2 _ _ l0_3 true _ ?side1 ?side2 A3.out).mono ?_); (case side1 => repeat (first | exact (Kd.C_below HR0_3.out HB.out) | (with_reducible refine Kd.C_alloc ?_ _) | (with_reducible refine Kd.C_drewN ?_ _) | (with_reducible refine Kd.C_drew ?_))); (case side2 => exact HC0_3.out); rintro e w39 ⟨rfl, hb⟩; refine ⟨_, rfl, ?_⟩; have n0_ := Aside0.mk (blk_below (g := gb104001) (o := .cells #[.int .i64 a0_0, .int .i64 a0_1, .int .i64 a0_2, .slice A0_3 l0_3.length c0_3, .int .i64 a0_4, .int .i64 a0_5, .int .i64 a0_6, .int .i64 a0_7, .bool a0_8] 55 (0, 0)) (by (with_reducible repeat (first | refine blk_drewN ?_ _ | refine blk_drew ?_ | refine blk_alloc ?_ _)); exact BK104001.out) hb); have n1_ := Aside0.mk (below_step (by repeat (first | (with_reducible first | exact HB.out | apply below_alloc | apply pw_below_drewN | apply below_drew1 | refine below_set ?_ GE104001.out) | exact HB.out)) hb); clear BK104001; clear HB; have BK104001 := n0_; have HB := n1_; clear n0_ n1_; (try clear hb); (try clear hb2); (try clear hk); (try clear hi); have hcz40_0 : w39.cell? ⟨gb104001, 0, none⟩ = some (.int .i64 a0_0) := (blk_cell BK104001.out 0).trans rfl; have hcz40_1 : w39.cell? ⟨gb104001, 1, none⟩ = some (.int .i64 a0_1) := (blk_cell BK104001.out 1).trans rfl; have hcz40_2 : w39.cell? ⟨gb104001, 2, none⟩ = some (.int .i64 a0_2) := (blk_cell BK104001.out 2).trans rfl; have hcz40_3 : w39.cell? ⟨gb104001, 3, none⟩ = some (.slice A0_3 l0_3.length c0_3) := (blk_cell BK104001.out 3).trans rfl; have hcz40_4 : w39.cell? ⟨gb104001, 4, none⟩ = some (.int .i64 a0_4) := (blk_cell BK104001.out 4).trans rfl; have hcz40_5 : w39.cell? ⟨gb104001, 5, none⟩ = some (.int .i64 a0_5) := (blk_cell BK104001.out 5).trans rfl; have hcz40_6 : w39.cell? ⟨gb104001, 6, none⟩ = some (.int .i64 a0_6) := (blk_cell BK104001.out 6).trans rfl; have hcz40_7 : w39.cell? ⟨gb104001, 7, none⟩ = some (.int .i64 a0_7) := (blk_cell BK104001.out 7).trans rfl; have hcz40_8 : w39.cell? ⟨gb104001, 8, none⟩ = some (.bool a0_8) := (blk_cell BK104001.out 8).trans rfl; have hfz40_0 := blk_frozen BK104001.out 0; have hfz40_1 := blk_frozen BK104001.out 1; have hfz40_2 := blk_frozen BK104001.out 2; have hfz40_3 := blk_frozen BK104001.out 3; have hfz40_4 := blk_frozen BK104001.out 4; have hfz40_5 := blk_frozen BK104001.out 5; have hfz40_6 := blk_frozen BK104001.out 6; have hfz40_7 := blk_frozen BK104001.out 7; have hfz40_8 := blk_frozen BK104001.out 8))
        go_ret
        exact ⟨by first | rfl | (simp [errW_none, errW_some] <;> rfl) | (simp [*, errW_none, errW_some] <;> rfl), by repeat (first | (with_reducible first | exact HB.out | apply below_alloc | apply pw_below_drewN | apply below_drew1 | refine below_set ?_ GE104001.out) | exact HB.out)⟩
    · rw [if_neg c5] at H
      have c5b0 : (a0_2 == a1) = false := beq_eq_false_iff_ne.mpr c5
      have c5b1 : (a0_2 != a1) = true := bne_iff_ne.mpr c5
      obtain rfl := Option.some.inj H
      go_enter Try.func103, Try.ntmps103
      go_wp2_with (first | ((with_reducible refine gate_dst (N := 2) rfl ?_); refine box_event ?hg (N := 2) ?hd (cs := #[.int .i64 a0_0, .int .i64 a0_1, .int .i64 a0_2, .slice A0_3 l0_3.length c0_3, .int .i64 a0_4, .int .i64 a0_5, .int .i64 a0_6, .int .i64 a0_7, .bool a0_8]) (t := 55) ?hr ?_; (case hd => rfl); (case hg => rfl); (case hr => first | (go_simp; done) | (go_simp; rfl)); intro gb104001 hg w41 hbox hb; have n0_ := Aside0.mk (below_step (by repeat (first | (with_reducible first | exact HB.out | apply below_alloc | apply pw_below_drewN | apply below_drew1) | exact HB.out)) hb); have n1_ := Aside0.mk (hbox); have n2_ := Aside0.mk ((by rw [hg]; exact (below_size (by repeat (first | (with_reducible first | exact HB.out | apply below_alloc | apply pw_below_drewN | apply below_drew1) | exact HB.out))) : w.heap.size ≤ gb104001)); have n3_ := Aside0.mk ((by rw [hg]; exact (below_size (by repeat (first | (with_reducible first | exact HB.out | apply below_alloc | apply pw_below_drewN | apply below_drew1) | exact HB.out))) : w.heap.size ≤ gb104001)); clear HB; have HB := n0_; have BK104001 := n1_; have GW104001 := n2_; have GE104001 := n3_; clear n0_ n1_ n2_ n3_; clear hb hbox hg; have hcz42_0 : w41.cell? ⟨gb104001, 0, none⟩ = some (.int .i64 a0_0) := (blk_cell BK104001.out 0).trans rfl; have hcz42_1 : w41.cell? ⟨gb104001, 1, none⟩ = some (.int .i64 a0_1) := (blk_cell BK104001.out 1).trans rfl; have hcz42_2 : w41.cell? ⟨gb104001, 2, none⟩ = some (.int .i64 a0_2) := (blk_cell BK104001.out 2).trans rfl; have hcz42_3 : w41.cell? ⟨gb104001, 3, none⟩ = some (.slice A0_3 l0_3.length c0_3) := (blk_cell BK104001.out 3).trans rfl; have hcz42_4 : w41.cell? ⟨gb104001, 4, none⟩ = some (.int .i64 a0_4) := (blk_cell BK104001.out 4).trans rfl; have hcz42_5 : w41.cell? ⟨gb104001, 5, none⟩ = some (.int .i64 a0_5) := (blk_cell BK104001.out 5).trans rfl; have hcz42_6 : w41.cell? ⟨gb104001, 6, none⟩ = some (.int .i64 a0_6) := (blk_cell BK104001.out 6).trans rfl; have hcz42_7 : w41.cell? ⟨gb104001, 7, none⟩ = some (.int .i64 a0_7) := (blk_cell BK104001.out 7).trans rfl; have hcz42_8 : w41.cell? ⟨gb104001, 8, none⟩ = some (.bool a0_8) := (blk_cell BK104001.out 8).trans rfl; have hfz42_0 := blk_frozen BK104001.out 0; have hfz42_1 := blk_frozen BK104001.out 1; have hfz42_2 := blk_frozen BK104001.out 2; have hfz42_3 := blk_frozen BK104001.out 3; have hfz42_4 := blk_frozen BK104001.out 4; have hfz42_5 := blk_frozen BK104001.out 5; have hfz42_6 := blk_frozen BK104001.out 6; have hfz42_7 := blk_frozen BK104001.out 7; have hfz42_8 := blk_frozen BK104001.out 8) | ((with_reducible refine gate_callee (f := 83) rfl ?_); refine goesL_ (some 7) rfl rfl Try.func83 (by kernel_rfl) rfl #[.agg #[.int .i64 a0_0, .int .i64 a0_1, .int .i64 a0_2, .slice A0_3 l0_3.length c0_3]] rfl (by (try simp only [List.map_toArray, List.map_cons, List.map_nil]); first | done | rfl | (simp only [List.length_drop, List.length_take]; rfl)) ?_; (with_reducible refine (impl_isImage.calls a0_0 a0_1 a0_2 _ _ l0_3 true _ ?side1 ?side2 A3.out).mono ?_); (case side1 => repeat (first | exact (Kd.C_below HR0_3.out HB.out) | (with_reducible refine Kd.C_alloc ?_ _) | (with_reducible refine Kd.C_drewN ?_ _) | (with_reducible refine Kd.C_drew ?_))); (case side2 => exact HC0_3.out); rintro e w43 ⟨rfl, hb⟩; refine ⟨_, rfl, ?_⟩; have n0_ := Aside0.mk (blk_below (g := gb104001) (o := .cells #[.int .i64 a0_0, .int .i64 a0_1, .int .i64 a0_2, .slice A0_3 l0_3.length c0_3, .int .i64 a0_4, .int .i64 a0_5, .int .i64 a0_6, .int .i64 a0_7, .bool a0_8] 55 (0, 0)) (by (with_reducible repeat (first | refine blk_drewN ?_ _ | refine blk_drew ?_ | refine blk_alloc ?_ _)); exact BK104001.out) hb); have n1_ := Aside0.mk (below_step (by repeat (first | (with_reducible first | exact HB.out | apply below_alloc | apply pw_below_drewN | apply below_drew1 | refine below_set ?_ GE104001.out) | exact HB.out)) hb); clear BK104001; clear HB; have BK104001 := n0_; have HB := n1_; clear n0_ n1_; (try clear hb); (try clear hb2); (try clear hk); (try clear hi); have hcz44_0 : w43.cell? ⟨gb104001, 0, none⟩ = some (.int .i64 a0_0) := (blk_cell BK104001.out 0).trans rfl; have hcz44_1 : w43.cell? ⟨gb104001, 1, none⟩ = some (.int .i64 a0_1) := (blk_cell BK104001.out 1).trans rfl; have hcz44_2 : w43.cell? ⟨gb104001, 2, none⟩ = some (.int .i64 a0_2) := (blk_cell BK104001.out 2).trans rfl; have hcz44_3 : w43.cell? ⟨gb104001, 3, none⟩ = some (.slice A0_3 l0_3.length c0_3) := (blk_cell BK104001.out 3).trans rfl; have hcz44_4 : w43.cell? ⟨gb104001, 4, none⟩ = some (.int .i64 a0_4) := (blk_cell BK104001.out 4).trans rfl; have hcz44_5 : w43.cell? ⟨gb104001, 5, none⟩ = some (.int .i64 a0_5) := (blk_cell BK104001.out 5).trans rfl; have hcz44_6 : w43.cell? ⟨gb104001, 6, none⟩ = some (.int .i64 a0_6) := (blk_cell BK104001.out 6).trans rfl; have hcz44_7 : w43.cell? ⟨gb104001, 7, none⟩ = some (.int .i64 a0_7) := (blk_cell BK104001.out 7).trans rfl; have hcz44_8 : w43.cell? ⟨gb104001, 8, none⟩ = some (.bool a0_8) := (blk_cell BK104001.out 8).trans rfl; have hfz44_0 := blk_frozen BK104001.out 0; have hfz44_1 := blk_frozen BK104001.out 1; have hfz44_2 := blk_frozen BK104001.out 2; have hfz44_3 := blk_frozen BK104001.out 3; have hfz44_4 := blk_frozen BK104001.out 4; have hfz44_5 := blk_frozen BK104001.out 5; have hfz44_6 := blk_frozen BK104001.out 6; have hfz44_7 := blk_frozen BK104001.out 7; have hfz44_8 := blk_frozen BK104001.out 8))
      go_ret
      exact ⟨by first | rfl | (simp [errW_none, errW_some] <;> rfl) | (simp [*, errW_none, errW_some] <;> rfl), by repeat (first | (with_reducible first | exact HB.out | apply below_alloc | apply pw_below_drewN | apply below_drew1 | refine below_set ?_ GE104001.out) | exact HB.out)⟩
  · replace c4 := Bool.eq_false_iff.mpr c4
    subst c4
    have H1 : (some false) = some r := by rw [if_neg (show ¬ (false = true) by decide)] at H; exact H
    clear H
    have H := H1
    clear H1
    obtain rfl := Option.some.inj H
    go_enter Try.func103, Try.ntmps103
    go_wp2_with (first | ((with_reducible refine gate_dst (N := 2) rfl ?_); refine box_event ?hg (N := 2) ?hd (cs := #[.int .i64 a0_0, .int .i64 a0_1, .int .i64 a0_2, .slice A0_3 l0_3.length c0_3, .int .i64 a0_4, .int .i64 a0_5, .int .i64 a0_6, .int .i64 a0_7, .bool a0_8]) (t := 55) ?hr ?_; (case hd => rfl); (case hg => rfl); (case hr => first | (go_simp; done) | (go_simp; rfl)); intro gb104001 hg w45 hbox hb; have n0_ := Aside0.mk (below_step (by repeat (first | (with_reducible first | exact HB.out | apply below_alloc | apply pw_below_drewN | apply below_drew1) | exact HB.out)) hb); have n1_ := Aside0.mk (hbox); have n2_ := Aside0.mk ((by rw [hg]; exact (below_size (by repeat (first | (with_reducible first | exact HB.out | apply below_alloc | apply pw_below_drewN | apply below_drew1) | exact HB.out))) : w.heap.size ≤ gb104001)); have n3_ := Aside0.mk ((by rw [hg]; exact (below_size (by repeat (first | (with_reducible first | exact HB.out | apply below_alloc | apply pw_below_drewN | apply below_drew1) | exact HB.out))) : w.heap.size ≤ gb104001)); clear HB; have HB := n0_; have BK104001 := n1_; have GW104001 := n2_; have GE104001 := n3_; clear n0_ n1_ n2_ n3_; clear hb hbox hg; have hcz46_0 : w45.cell? ⟨gb104001, 0, none⟩ = some (.int .i64 a0_0) := (blk_cell BK104001.out 0).trans rfl; have hcz46_1 : w45.cell? ⟨gb104001, 1, none⟩ = some (.int .i64 a0_1) := (blk_cell BK104001.out 1).trans rfl; have hcz46_2 : w45.cell? ⟨gb104001, 2, none⟩ = some (.int .i64 a0_2) := (blk_cell BK104001.out 2).trans rfl; have hcz46_3 : w45.cell? ⟨gb104001, 3, none⟩ = some (.slice A0_3 l0_3.length c0_3) := (blk_cell BK104001.out 3).trans rfl; have hcz46_4 : w45.cell? ⟨gb104001, 4, none⟩ = some (.int .i64 a0_4) := (blk_cell BK104001.out 4).trans rfl; have hcz46_5 : w45.cell? ⟨gb104001, 5, none⟩ = some (.int .i64 a0_5) := (blk_cell BK104001.out 5).trans rfl; have hcz46_6 : w45.cell? ⟨gb104001, 6, none⟩ = some (.int .i64 a0_6) := (blk_cell BK104001.out 6).trans rfl; have hcz46_7 : w45.cell? ⟨gb104001, 7, none⟩ = some (.int .i64 a0_7) := (blk_cell BK104001.out 7).trans rfl; have hcz46_8 : w45.cell? ⟨gb104001, 8, none⟩ = some (.bool a0_8) := (blk_cell BK104001.out 8).trans rfl; have hfz46_0 := blk_frozen BK104001.out 0; have hfz46_1 := blk_frozen BK104001.out 1; have hfz46_2 := blk_frozen BK104001.out 2; have hfz46_3 := blk_frozen BK104001.out 3; have hfz46_4 := blk_frozen BK104001.out 4; have hfz46_5 := blk_frozen BK104001.out 5; have hfz46_6 := blk_frozen BK104001.out 6; have hfz46_7 := blk_frozen BK104001.out 7; have hfz46_8 := blk_frozen BK104001.out 8) | ((with_reducible refine gate_callee (f := 83) rfl ?_); refine goesL_ (some 7) rfl rfl Try.func83 (by kernel_rfl) rfl #[.agg #[.int .i64 a0_0, .int .i64 a0_1, .int .i64 a0_2, .slice A0_3 l0_3.length c0_3]] rfl (by (try simp only [List.map_toArray, List.map_cons, List.map_nil]); first | done | rfl | (simp only [List.length_drop, List.length_take]; rfl)) ?_; (with_reducible refine (impl_isImage.calls a0_0 a0_1 a0_2 _ _ l0_3 false _ ?side1 ?side2 A3.out).mono ?_); (case side1 => repeat (first | exact (Kd.C_below HR0_3.out HB.out) | (with_reducible refine Kd.C_alloc ?_ _) | (with_reducible refine Kd.C_drewN ?_ _) | (with_reducible refine Kd.C_drew ?_))); (case side2 => exact HC0_3.out); rintro e w47 ⟨rfl, hb⟩; refine ⟨_, rfl, ?_⟩; have n0_ := Aside0.mk (blk_below (g := gb104001) (o := .cells #[.int .i64 a0_0, .int .i64 a0_1, .int .i64 a0_2, .slice A0_3 l0_3.length c0_3, .int .i64 a0_4, .int .i64 a0_5, .int .i64 a0_6, .int .i64 a0_7, .bool a0_8] 55 (0, 0)) (by (with_reducible repeat (first | refine blk_drewN ?_ _ | refine blk_drew ?_ | refine blk_alloc ?_ _)); exact BK104001.out) hb); have n1_ := Aside0.mk (below_step (by repeat (first | (with_reducible first | exact HB.out | apply below_alloc | apply pw_below_drewN | apply below_drew1 | refine below_set ?_ GE104001.out) | exact HB.out)) hb); clear BK104001; clear HB; have BK104001 := n0_; have HB := n1_; clear n0_ n1_; (try clear hb); (try clear hb2); (try clear hk); (try clear hi)))
    go_ret
    exact ⟨by first | rfl | (simp [errW_none, errW_some] <;> rfl) | (simp [*, errW_none, errW_some] <;> rfl), by repeat (first | (with_reducible first | exact HB.out | apply below_alloc | apply pw_below_drewN | apply below_drew1 | refine below_set ?_ GE104001.out) | exact HB.out)⟩

end Go.Proofs.Ytnofkbbcbpjhfaa.Q

namespace Go.Proofs.Ytnofkbbcbpjhfaa.Q
open Go.RowKit Go.Proofs.YtnofkbbcbpjhfaaW.PrintWords Go.Proofs.YtnofkbbcbpjhfaaW.PrintLast Go.Proofs.YtnofkbbcbpjhfaaW.PrintMore
attribute [local go_sem] max2_int min2_int max_two min_two max_three min_three max_four min_four
set_option linter.unusedVariables false
set_option linter.unusedSimpArgs false
/-! ### impl_Layer_box: function 104 -/
def impl_Layer_box.f (a0_0 : Int) (a0_1 : Int) (a0_2 : Int) (l0_3 : List Int) (a0_4 : Int) (a0_5 : Int) (a0_6 : Int) (a0_7 : Int) (a0_8 : Bool) : Option (Int × Int × Int × Int) := some (a0_4, a0_5, a0_0, a0_1)
set_option maxHeartbeats 8000000 in
set_option maxRecDepth 100000 in
theorem impl_Layer_box.calls (a0_0 : Int) (a0_1 : Int) (a0_2 : Int) (A0_3 : Option Addr) (c0_3 : Nat) (l0_3 : List Int) (a0_4 : Int) (a0_5 : Int) (a0_6 : Int) (a0_7 : Int) (a0_8 : Bool) (r1 : Int) (r2 : Int) (r3 : Int) (r4 : Int) (w : World) (hr0_3 : Kd.C (Kd.int .i64) w A0_3 l0_3.length l0_3) (hc0_3 : l0_3.length ≤ c0_3) (h : impl_Layer_box.f a0_0 a0_1 a0_2 l0_3 a0_4 a0_5 a0_6 a0_7 a0_8 = some (r1, r2, r3, r4)) :
    Calls Try.prog 104 #[.agg #[.int .i64 a0_0, .int .i64 a0_1, .int .i64 a0_2, .slice A0_3 l0_3.length c0_3, .int .i64 a0_4, .int .i64 a0_5, .int .i64 a0_6, .int .i64 a0_7, .bool a0_8]] w fun e w' => e = .returned (.agg #[.int .i64 r1, .int .i64 r2, .int .i64 r3, .int .i64 r4]) ∧ Below w.heap.size w w' := by
  have hu55 := Try.underlying55
  have hu47 := Try.underlying47
  have HR0_3 := Aside0.mk hr0_3
  have HC0_3 := Aside0.mk hc0_3
  clear hr0_3 hc0_3
  have HB := Aside0.mk (Below.refl w.heap.size w)
  have H : (some (a0_4, a0_5, a0_0, a0_1)) = some (r1, r2, r3, r4) := h
  clear h
  simp only [Option.some.injEq, Prod.mk.injEq] at H
  obtain ⟨rfl, rfl, rfl, rfl⟩ := H
  go_enter Try.func104, Try.ntmps104
  go_wp2_with (first | ((with_reducible refine gate_dst (N := 1) rfl ?_); refine box_event ?hg (N := 1) ?hd (cs := #[.int .i64 a0_0, .int .i64 a0_1, .int .i64 a0_2, .slice A0_3 l0_3.length c0_3, .int .i64 a0_4, .int .i64 a0_5, .int .i64 a0_6, .int .i64 a0_7, .bool a0_8]) (t := 55) ?hr ?_; (case hd => rfl); (case hg => rfl); (case hr => first | (go_simp; done) | (go_simp; rfl)); intro gb105001 hg w2 hbox hb; have n0_ := Aside0.mk (below_step (by repeat (first | (with_reducible first | exact HB.out | apply below_alloc | apply pw_below_drewN | apply below_drew1) | exact HB.out)) hb); have n1_ := Aside0.mk (hbox); have n2_ := Aside0.mk ((by rw [hg]; exact (below_size (by repeat (first | (with_reducible first | exact HB.out | apply below_alloc | apply pw_below_drewN | apply below_drew1) | exact HB.out))) : w.heap.size ≤ gb105001)); have n3_ := Aside0.mk ((by rw [hg]; exact (below_size (by repeat (first | (with_reducible first | exact HB.out | apply below_alloc | apply pw_below_drewN | apply below_drew1) | exact HB.out))) : w.heap.size ≤ gb105001)); clear HB; have HB := n0_; have BK105001 := n1_; have GW105001 := n2_; have GE105001 := n3_; clear n0_ n1_ n2_ n3_; clear hb hbox hg) | ((with_reducible refine gate_dst (N := 2) rfl ?_); refine box_event ?hg (N := 2) ?hd (cs := #[.int .i64 0, .int .i64 0, .int .i64 0, .int .i64 0]) (t := 47) ?hr ?_; (case hd => rfl); (case hg => rfl); (case hr => first | (go_simp; done) | (go_simp; rfl)); intro gb105002 hg w3 hbox hb; have n0_ := Aside0.mk (blk_below (g := gb105001) (o := .cells #[.int .i64 a0_0, .int .i64 a0_1, .int .i64 a0_2, .slice A0_3 l0_3.length c0_3, .int .i64 a0_4, .int .i64 a0_5, .int .i64 a0_6, .int .i64 a0_7, .bool a0_8] 55 (0, 0)) (by (with_reducible repeat (first | refine blk_drewN ?_ _ | refine blk_drew ?_ | refine blk_alloc ?_ _)); exact BK105001.out) hb); have n1_ := Aside0.mk (below_step (by repeat (first | (with_reducible first | exact HB.out | apply below_alloc | apply pw_below_drewN | apply below_drew1 | refine below_set ?_ GE105001.out) | exact HB.out)) hb); have n2_ := Aside0.mk (hbox); have n3_ := Aside0.mk ((by rw [hg]; exact (below_size (by repeat (first | (with_reducible first | exact HB.out | apply below_alloc | apply pw_below_drewN | apply below_drew1 | refine below_set ?_ GE105001.out) | exact HB.out))) : w.heap.size ≤ gb105002)); have n4_ := Aside0.mk ((by rw [hg]; exact (below_size (by repeat (first | (with_reducible first | exact HB.out | apply below_alloc | apply pw_below_drewN | apply below_drew1 | refine below_set ?_ GE105001.out) | exact HB.out))) : w.heap.size ≤ gb105002)); have n5_ := Aside0.mk ((by rw [hg]; exact Nat.ne_of_lt (blk_lt (g := gb105001) (o := .cells #[.int .i64 a0_0, .int .i64 a0_1, .int .i64 a0_2, .slice A0_3 l0_3.length c0_3, .int .i64 a0_4, .int .i64 a0_5, .int .i64 a0_6, .int .i64 a0_7, .bool a0_8] 55 (0, 0)) (by (with_reducible repeat (first | refine blk_drewN ?_ _ | refine blk_drew ?_ | refine blk_alloc ?_ _)); exact BK105001.out)) : gb105001 ≠ gb105002)); have n6_ := Aside0.mk ((by rw [hg]; exact Nat.ne_of_gt (blk_lt (g := gb105001) (o := .cells #[.int .i64 a0_0, .int .i64 a0_1, .int .i64 a0_2, .slice A0_3 l0_3.length c0_3, .int .i64 a0_4, .int .i64 a0_5, .int .i64 a0_6, .int .i64 a0_7, .bool a0_8] 55 (0, 0)) (by (with_reducible repeat (first | refine blk_drewN ?_ _ | refine blk_drew ?_ | refine blk_alloc ?_ _)); exact BK105001.out)) : gb105002 ≠ gb105001)); clear BK105001; clear HB; have BK105001 := n0_; have HB := n1_; have BK105002 := n2_; have GW105002 := n3_; have GE105002 := n4_; have NB105001_105002 := n5_; have NB105002_105001 := n6_; clear n0_ n1_ n2_ n3_ n4_ n5_ n6_; clear hb hbox hg; have hnb4 := NB105001_105002.out; have hnc4 := NB105002_105001.out; have hcz5_0 : w3.cell? ⟨gb105001, 0, none⟩ = some (.int .i64 a0_0) := (blk_cell BK105001.out 0).trans rfl; have hcz5_1 : w3.cell? ⟨gb105001, 1, none⟩ = some (.int .i64 a0_1) := (blk_cell BK105001.out 1).trans rfl; have hcz5_2 : w3.cell? ⟨gb105001, 2, none⟩ = some (.int .i64 a0_2) := (blk_cell BK105001.out 2).trans rfl; have hcz5_3 : w3.cell? ⟨gb105001, 3, none⟩ = some (.slice A0_3 l0_3.length c0_3) := (blk_cell BK105001.out 3).trans rfl; have hcz5_4 : w3.cell? ⟨gb105001, 4, none⟩ = some (.int .i64 a0_4) := (blk_cell BK105001.out 4).trans rfl; have hcz5_5 : w3.cell? ⟨gb105001, 5, none⟩ = some (.int .i64 a0_5) := (blk_cell BK105001.out 5).trans rfl; have hcz5_6 : w3.cell? ⟨gb105001, 6, none⟩ = some (.int .i64 a0_6) := (blk_cell BK105001.out 6).trans rfl; have hcz5_7 : w3.cell? ⟨gb105001, 7, none⟩ = some (.int .i64 a0_7) := (blk_cell BK105001.out 7).trans rfl; have hcz5_8 : w3.cell? ⟨gb105001, 8, none⟩ = some (.bool a0_8) := (blk_cell BK105001.out 8).trans rfl; have hfz5_0 := blk_frozen BK105001.out 0; have hfz5_1 := blk_frozen BK105001.out 1; have hfz5_2 := blk_frozen BK105001.out 2; have hfz5_3 := blk_frozen BK105001.out 3; have hfz5_4 := blk_frozen BK105001.out 4; have hfz5_5 := blk_frozen BK105001.out 5; have hfz5_6 := blk_frozen BK105001.out 6; have hfz5_7 := blk_frozen BK105001.out 7; have hfz5_8 := blk_frozen BK105001.out 8; have hcz6_0 : w3.cell? ⟨gb105002, 0, none⟩ = some (.int .i64 0) := (blk_cell BK105002.out 0).trans rfl; have hcz6_1 : w3.cell? ⟨gb105002, 1, none⟩ = some (.int .i64 0) := (blk_cell BK105002.out 1).trans rfl; have hcz6_2 : w3.cell? ⟨gb105002, 2, none⟩ = some (.int .i64 0) := (blk_cell BK105002.out 2).trans rfl; have hcz6_3 : w3.cell? ⟨gb105002, 3, none⟩ = some (.int .i64 0) := (blk_cell BK105002.out 3).trans rfl; have hfz6_0 := blk_frozen BK105002.out 0; have hfz6_1 := blk_frozen BK105002.out 1; have hfz6_2 := blk_frozen BK105002.out 2; have hfz6_3 := blk_frozen BK105002.out 3))
  refine bodyPost_ret (results_cell_row rfl _ _ gb105002 47 #[.int .i64 a0_4, .int .i64 a0_5, .int .i64 a0_0, .int .i64 a0_1] (0, 0) _ rfl (by (with_reducible repeat (first | refine blk_drewN ?_ _ | refine blk_drew ?_ | refine blk_alloc ?_ _)); refine blk_put (cs := #[.int .i64 a0_4, .int .i64 a0_5, .int .i64 a0_0, .int .i64 0]) ?_ 3 _ rfl; (with_reducible repeat (first | refine blk_drewN ?_ _ | refine blk_drew ?_ | refine blk_alloc ?_ _)); refine blk_put (cs := #[.int .i64 a0_4, .int .i64 a0_5, .int .i64 0, .int .i64 0]) ?_ 2 _ rfl; (with_reducible repeat (first | refine blk_drewN ?_ _ | refine blk_drew ?_ | refine blk_alloc ?_ _)); refine blk_put (cs := #[.int .i64 a0_4, .int .i64 0, .int .i64 0, .int .i64 0]) ?_ 1 _ rfl; (with_reducible repeat (first | refine blk_drewN ?_ _ | refine blk_drew ?_ | refine blk_alloc ?_ _)); refine blk_put (cs := #[.int .i64 0, .int .i64 0, .int .i64 0, .int .i64 0]) ?_ 0 _ rfl; (with_reducible repeat (first | refine blk_drewN ?_ _ | refine blk_drew ?_ | refine blk_alloc ?_ _)); exact BK105002.out) Try.underlying47 rfl (by kernel_rfl)) rfl ?_
  exact ⟨by first | rfl | (simp [errW_none, errW_some] <;> rfl) | (simp [*, errW_none, errW_some] <;> rfl), by repeat (first | (with_reducible first | exact HB.out | apply below_alloc | apply pw_below_drewN | apply below_drew1 | refine below_set ?_ GE105001.out | refine below_set ?_ GE105002.out) | exact HB.out)⟩

end Go.Proofs.Ytnofkbbcbpjhfaa.Q
