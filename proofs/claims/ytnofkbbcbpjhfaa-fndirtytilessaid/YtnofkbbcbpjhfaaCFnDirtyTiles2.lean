/- A part of the proof that the statement FnDirtyTilesSaid holds, under no condition of its own: Clean tiles are unchanged: the law FnDirtyTiles over lists of numbers alone. -/
import Derived.Test.YtnofkbbcbpjhfaaCFnDirtyTiles1
namespace Go.Proofs.Ytnofkbbcbpjhfaa.Q
open Go.RowKit Go.Proofs.YtnofkbbcbpjhfaaW.PrintWords Go.Proofs.YtnofkbbcbpjhfaaW.PrintLast Go.Proofs.YtnofkbbcbpjhfaaW.PrintMore
open Go.Proofs.YtnofkbbcbpjhfaaW.PrintWords.Aside0 (mk)
attribute [local go_sem] max2_int min2_int max_two min_two max_three min_three max_four min_four
set_option linter.unusedVariables false
set_option linter.unusedSimpArgs false
mutual
def impl_DirtyTiles.j0 : Nat → Bool → Int → Int → Int → List Int → Int → Int → Int → List Int → Int → Int → Int → Int → Bool → Option (List Int)
 | 0, _, _, _, _, _, _, _, _, _, _, _, _, _, _ => none
 | k + 1, x18, xz4, xz5, xz6, xz7, xz8, xz9, xz10, xz11, xz12, xz13, xz14, xz15, xz16 => if x18 = true then (some ([] : List Int)) else ((impl_Layer_box.f xz8 xz9 xz10 xz11 xz12 xz13 xz14 xz15 xz16).bind fun btz0 => ((impl_tileBoxes.f k xz4 xz5 xz6 xz7).bind fun tz0 => (impl_DirtyTiles.l0 k ([] : List Int) tz0 (tz0.length : Int) 0 btz0.1 btz0.2.1 btz0.2.2.1 btz0.2.2.2)))
def impl_DirtyTiles.l0 : Nat → List Int → List S47 → Int → Int → Int → Int → Int → Int → Option (List Int)
 | 0, _, _, _, _, _, _, _, _ => none
 | k + 1, x5, x23, x24, x25, xz0, xz1, xz2, xz3 => if x25 < x24 then (if 0 ≤ x25 then (if x25 < (x23.length : Int) then (if xz0 < (wrap64 (((rd_T47 x23 x25).f0) + ((rd_T47 x23 x25).f2))) then (if ((rd_T47 x23 x25).f0) < (wrap64 (xz0 + xz2)) then (if xz1 < (wrap64 (((rd_T47 x23 x25).f1) + ((rd_T47 x23 x25).f3))) then (impl_DirtyTiles.j2 k x5 x25 x23 x24 x25 (decide (((rd_T47 x23 x25).f1) < (wrap64 (xz1 + xz3)))) xz0 xz1 xz2 xz3) else (impl_DirtyTiles.j2 k x5 x25 x23 x24 x25 false xz0 xz1 xz2 xz3)) else (impl_DirtyTiles.j2 k x5 x25 x23 x24 x25 false xz0 xz1 xz2 xz3)) else (impl_DirtyTiles.j2 k x5 x25 x23 x24 x25 false xz0 xz1 xz2 xz3)) else none) else none) else (some x5)
def impl_DirtyTiles.j2 : Nat → List Int → Int → List S47 → Int → Int → Bool → Int → Int → Int → Int → Option (List Int)
 | 0, _, _, _, _, _, _, _, _, _, _ => none
 | k + 1, x5, x7, x23, x24, x25, x67, xz0, xz1, xz2, xz3 => if x67 = true then (if x5.length < 17592186044416 then (impl_DirtyTiles.l0 k (x5 ++ [x7]) x23 x24 (wrap64 (x25 + 1)) xz0 xz1 xz2 xz3) else none) else (impl_DirtyTiles.l0 k x5 x23 x24 (wrap64 (x25 + 1)) xz0 xz1 xz2 xz3)
end
def impl_DirtyTiles.f (k : Nat) (a0_0 : Int) (a0_1 : Int) (a0_2 : Int) (l0_3 : List Int) (a1_0 : Int) (a1_1 : Int) (a1_2 : Int) (l1_3 : List Int) (a1_4 : Int) (a1_5 : Int) (a1_6 : Int) (a1_7 : Int) (a1_8 : Bool) : Option (List Int) := (impl_isImage.f a0_0 a0_1 a0_2 l0_3).bind fun tz6 => (if tz6 = true then ((impl_isLayer.f a1_0 a1_1 a1_2 l1_3 a1_4 a1_5 a1_6 a1_7 a1_8 a0_2).bind fun tz5 => (impl_DirtyTiles.j0 k (!tz5) a0_0 a0_1 a0_2 l0_3 a1_0 a1_1 a1_2 l1_3 a1_4 a1_5 a1_6 a1_7 a1_8)) else (impl_DirtyTiles.j0 k true a0_0 a0_1 a0_2 l0_3 a1_0 a1_1 a1_2 l1_3 a1_4 a1_5 a1_6 a1_7 a1_8))
theorem impl_DirtyTiles.mono_l : ∀ k, (∀ y0 y1 y2 y3 y4 y5 y6 y7 y8 y9 y10 y11 y12 y13, LeO (impl_DirtyTiles.j0 k y0 y1 y2 y3 y4 y5 y6 y7 y8 y9 y10 y11 y12 y13) (impl_DirtyTiles.j0 (k + 1) y0 y1 y2 y3 y4 y5 y6 y7 y8 y9 y10 y11 y12 y13)) ∧ (∀ y0 y1 y2 y3 y4 y5 y6 y7, LeO (impl_DirtyTiles.l0 k y0 y1 y2 y3 y4 y5 y6 y7) (impl_DirtyTiles.l0 (k + 1) y0 y1 y2 y3 y4 y5 y6 y7)) ∧ (∀ y0 y1 y2 y3 y4 y5 y6 y7 y8 y9, LeO (impl_DirtyTiles.j2 k y0 y1 y2 y3 y4 y5 y6 y7 y8 y9) (impl_DirtyTiles.j2 (k + 1) y0 y1 y2 y3 y4 y5 y6 y7 y8 y9))
 | 0 => ⟨fun _ _ _ _ _ _ _ _ _ _ _ _ _ _ r h => by simp [impl_DirtyTiles.j0] at h, fun _ _ _ _ _ _ _ _ r h => by simp [impl_DirtyTiles.l0] at h, fun _ _ _ _ _ _ _ _ _ _ r h => by simp [impl_DirtyTiles.j2] at h⟩
 | k + 1 => by
  obtain ⟨ih0, ih1, ih2⟩ := impl_DirtyTiles.mono_l k
  refine ⟨?_, ?_, ?_⟩
  ·intro y0 y1 y2 y3 y4 y5 y6 y7 y8 y9 y10 y11 y12 y13
   unfold impl_DirtyTiles.j0
   repeat' first | (with_reducible exact ih1 _ _ _ _ _ _ _ _) | (with_reducible exact impl_tileBoxes.mono _ _ _ _ _) | (with_reducible exact LeO.refl _) | (with_reducible refine LeO.ite ?_ ?_) | (with_reducible refine LeO.bind ?_ (fun _ => ?_))
  ·intro y0 y1 y2 y3 y4 y5 y6 y7
   unfold impl_DirtyTiles.l0
   repeat' first | (with_reducible exact ih2 _ _ _ _ _ _ _ _ _ _) | (with_reducible exact LeO.refl _) | (with_reducible refine LeO.ite ?_ ?_)
  intro y0 y1 y2 y3 y4 y5 y6 y7 y8 y9
  unfold impl_DirtyTiles.j2
  repeat' first | (with_reducible exact ih1 _ _ _ _ _ _ _ _) | (with_reducible exact LeO.refl _) | (with_reducible refine LeO.ite ?_ ?_)
theorem impl_DirtyTiles.mono : ∀ a0 a1 a2 a3 a4 a5 a6 a7 a8 a9 a10 a11 a12 k, LeO (impl_DirtyTiles.f k a0 a1 a2 a3 a4 a5 a6 a7 a8 a9 a10 a11 a12) (impl_DirtyTiles.f (k + 1) a0 a1 a2 a3 a4 a5 a6 a7 a8 a9 a10 a11 a12) := by
 intro a0 a1 a2 a3 a4 a5 a6 a7 a8 a9 a10 a11 a12 k
 obtain ⟨ih0, ih1, ih2⟩ := impl_DirtyTiles.mono_l k
 unfold impl_DirtyTiles.f
 repeat' first | (with_reducible exact ih0 _ _ _ _ _ _ _ _ _ _ _ _ _ _) | (with_reducible exact LeO.refl _) | (with_reducible refine LeO.ite ?_ ?_) | (with_reducible refine LeO.bind ?_ (fun _ => ?_))
set_option maxHeartbeats 8000000 in
set_option maxRecDepth 100000 in
theorem impl_DirtyTiles.calls (k : Nat) (a0_0 : Int) (a0_1 : Int) (a0_2 : Int) (A0_3 : Option Addr) (c0_3 : Nat) (l0_3 : List Int) (a1_0 : Int) (a1_1 : Int) (a1_2 : Int) (A1_3 : Option Addr) (c1_3 : Nat) (l1_3 : List Int) (a1_4 : Int) (a1_5 : Int) (a1_6 : Int) (a1_7 : Int) (a1_8 : Bool) (r : List Int) (w : World) (hr0_3 : Kd.C (Kd.int .i64) w A0_3 l0_3.length l0_3) (hc0_3 : l0_3.length ≤ c0_3) (hr1_3 : Kd.C (Kd.int .i64) w A1_3 l1_3.length l1_3) (hc1_3 : l1_3.length ≤ c1_3) (h : impl_DirtyTiles.f k a0_0 a0_1 a0_2 l0_3 a1_0 a1_1 a1_2 l1_3 a1_4 a1_5 a1_6 a1_7 a1_8 = some r) :
  Calls Try.prog 42 #[.agg #[.int .i64 a0_0, .int .i64 a0_1, .int .i64 a0_2, .slice A0_3 l0_3.length c0_3], .agg #[.int .i64 a1_0, .int .i64 a1_1, .int .i64 a1_2, .slice A1_3 l1_3.length c1_3, .int .i64 a1_4, .int .i64 a1_5, .int .i64 a1_6, .int .i64 a1_7, .bool a1_8]] w fun e w' => ∃ v0_ : Value, e = .returned v0_ ∧ Kd.R (Kd.int .i64) 3 w' w.heap.size (fun _ => True) v0_ r ∧ Below w.heap.size w w' := by
 have hu27 := Try.underlying27
 have hu55 := Try.underlying55
 have hu47 := Try.underlying47
 have HR0_3 := mk hr0_3
 have HC0_3 := mk hc0_3
 clear hr0_3 hc0_3
 have HR1_3 := mk hr1_3
 have HC1_3 := mk hc1_3
 clear hr1_3 hc1_3
 have HB := mk (Below.refl w.heap.size w)
 have H : ((impl_isImage.f a0_0 a0_1 a0_2 l0_3).bind fun tz6 => (if tz6 = true then ((impl_isLayer.f a1_0 a1_1 a1_2 l1_3 a1_4 a1_5 a1_6 a1_7 a1_8 a0_2).bind fun tz5 => (impl_DirtyTiles.j0 k (!tz5) a0_0 a0_1 a0_2 l0_3 a1_0 a1_1 a1_2 l1_3 a1_4 a1_5 a1_6 a1_7 a1_8)) else (impl_DirtyTiles.j0 k true a0_0 a0_1 a0_2 l0_3 a1_0 a1_1 a1_2 l1_3 a1_4 a1_5 a1_6 a1_7 a1_8))) = some r := h
 clear h
 have HC3 := mk H
 clear H
 go_enter Try.func42, Try.ntmps42
 go_upto_region 1 with (first | ((with_reducible refine gate_dst (N := 2) rfl ?_); refine box_event (by rfl) (N := 2) (by rfl) (cs := #[.int .i64 a0_0, .int .i64 a0_1, .int .i64 a0_2, .slice A0_3 l0_3.length c0_3]) (t := 27) (by go_simp; done) ?_; intro gbz3 hg w4 hbox hb; have BKz0 := mk (hbox); have GWz0 := mk ((by rw [hg]; exact (below_size HB.out) : w.heap.size ≤ gbz3)); have GEz2 := mk ((by rw [hg]; exact (below_size HB.out) : w.heap.size ≤ gbz3)); replace HB := mk (below_step HB.out hb); clear hb hbox hg) | ((with_reducible refine gate_dst (N := 3) rfl ?_); refine box_event (by rfl) (N := 3) (by rfl) (cs := #[.int .i64 a1_0, .int .i64 a1_1, .int .i64 a1_2, .slice A1_3 l1_3.length c1_3, .int .i64 a1_4, .int .i64 a1_5, .int .i64 a1_6, .int .i64 a1_7, .bool a1_8]) (t := 55) (by go_simp; done) ?_; intro gbz2 hg w5 hbox hb; have BKz1 := mk (hbox); have GWz1 := mk ((by rw [hg]; exact (below_size HB.out) : w.heap.size ≤ gbz2)); have GEz3 := mk ((by rw [hg]; exact (below_size HB.out) : w.heap.size ≤ gbz2)); replace HB := mk (below_step HB.out hb); have NBz10 := mk ((by rw [hg]; exact Nat.ne_of_lt (blk_lt BKz0.out) : gbz3 ≠ gbz2)); have NBz11 := mk ((by rw [hg]; exact Nat.ne_of_gt (blk_lt BKz0.out) : gbz2 ≠ gbz3)); replace BKz0 := mk (blk_below BKz0.out hb); clear hb hbox hg))
 go_cut [18] (fun v18 wc => ∃ (kq : Nat) (x18_2 : Bool), v18 = .bool x18_2 ∧ Aside0 (impl_DirtyTiles.j0 kq x18_2 a0_0 a0_1 a0_2 l0_3 a1_0 a1_1 a1_2 l1_3 a1_4 a1_5 a1_6 a1_7 a1_8 = some r) ∧ Aside0 (kq ≤ k) ∧ Aside0 (wc.heap[gbz3]? = some (.cells #[.int .i64 a0_0, .int .i64 a0_1, .int .i64 a0_2, (.slice A0_3 l0_3.length c0_3)] 27 (0, 0))) ∧ Aside0 (wc.heap[gbz2]? = some (.cells #[.int .i64 a1_0, .int .i64 a1_1, .int .i64 a1_2, (.slice A1_3 l1_3.length c1_3), .int .i64 a1_4, .int .i64 a1_5, .int .i64 a1_6, .int .i64 a1_7, .bool a1_8] 55 (0, 0))) ∧ Aside0 (Below w.heap.size w wc))
 case first =>
  have H := HC3.out
  clear HC3
  replace H := Option.bind_eq_some_iff.mp H
  obtain ⟨tz6, A60, H⟩ := H
  replace H : (if tz6 = true then ((impl_isLayer.f a1_0 a1_1 a1_2 l1_3 a1_4 a1_5 a1_6 a1_7 a1_8 a0_2).bind fun tz5 => (impl_DirtyTiles.j0 k (!tz5) a0_0 a0_1 a0_2 l0_3 a1_0 a1_1 a1_2 l1_3 a1_4 a1_5 a1_6 a1_7 a1_8)) else (impl_DirtyTiles.j0 k true a0_0 a0_1 a0_2 l0_3 a1_0 a1_1 a1_2 l1_3 a1_4 a1_5 a1_6 a1_7 a1_8)) = some r := H
  have A6 := mk A60
  clear A60
  by_cases c7 : tz6 = true
  ·subst c7
   have H1 : ((impl_isLayer.f a1_0 a1_1 a1_2 l1_3 a1_4 a1_5 a1_6 a1_7 a1_8 a0_2).bind fun tz5 => (impl_DirtyTiles.j0 k (!tz5) a0_0 a0_1 a0_2 l0_3 a1_0 a1_1 a1_2 l1_3 a1_4 a1_5 a1_6 a1_7 a1_8)) = some r := by rw [if_pos rfl] at H; exact H
   clear H
   have H := H1
   clear H1
   replace H := Option.bind_eq_some_iff.mp H
   obtain ⟨tz5, A80, H⟩ := H
   replace H : (impl_DirtyTiles.j0 k (!tz5) a0_0 a0_1 a0_2 l0_3 a1_0 a1_1 a1_2 l1_3 a1_4 a1_5 a1_6 a1_7 a1_8) = some r := H
   have A8 := mk A80
   clear A80
   have H' := mk H
   clear H
   have hnb9 := NBz10.out
   have hnc9 := NBz11.out
   have hcz10_0 : w5.cell? ⟨gbz3, 0, none⟩ = some (.int .i64 a0_0) := (blk_cell BKz0.out 0).trans rfl
   have hcz10_1 : w5.cell? ⟨gbz3, 1, none⟩ = some (.int .i64 a0_1) := (blk_cell BKz0.out 1).trans rfl
   have hcz10_2 : w5.cell? ⟨gbz3, 2, none⟩ = some (.int .i64 a0_2) := (blk_cell BKz0.out 2).trans rfl
   have hcz10_3 : w5.cell? ⟨gbz3, 3, none⟩ = some (.slice A0_3 l0_3.length c0_3) := (blk_cell BKz0.out 3).trans rfl
   have hfz10_0 := blk_frozen BKz0.out 0
   have hfz10_1 := blk_frozen BKz0.out 1
   have hfz10_2 := blk_frozen BKz0.out 2
   have hfz10_3 := blk_frozen BKz0.out 3
   go_wp2_with (first | ((with_reducible refine gate_callee (f := 83) rfl ?_); refine goesL_ (some 10) rfl rfl Try.func83 (by kernel_rfl) rfl #[.agg #[.int .i64 a0_0, .int .i64 a0_1, .int .i64 a0_2, .slice A0_3 l0_3.length c0_3]] rfl (by (try simp only [List.map_toArray, List.map_cons, List.map_nil]); rfl) ?_; (with_reducible refine (impl_isImage.calls a0_0 a0_1 a0_2 _ _ l0_3 true _ ?side1 ?side2 A6.out).mono ?_); (case side1 => repeat (exact (Kd.C_below HR0_3.out HB.out))); (case side2 => exact HC0_3.out); rintro e w11 ⟨rfl, hb⟩; refine ⟨_, rfl, ?_⟩; replace BKz0 := mk (blk_below BKz0.out hb); replace BKz1 := mk (blk_below BKz1.out hb); replace HB := mk (below_step HB.out hb); (try clear hb); have hcz12_0 : w11.cell? ⟨gbz2, 0, none⟩ = some (.int .i64 a1_0) := (blk_cell BKz1.out 0).trans rfl; have hcz12_1 : w11.cell? ⟨gbz2, 1, none⟩ = some (.int .i64 a1_1) := (blk_cell BKz1.out 1).trans rfl; have hcz12_2 : w11.cell? ⟨gbz2, 2, none⟩ = some (.int .i64 a1_2) := (blk_cell BKz1.out 2).trans rfl; have hcz12_3 : w11.cell? ⟨gbz2, 3, none⟩ = some (.slice A1_3 l1_3.length c1_3) := (blk_cell BKz1.out 3).trans rfl; have hcz12_4 : w11.cell? ⟨gbz2, 4, none⟩ = some (.int .i64 a1_4) := (blk_cell BKz1.out 4).trans rfl; have hcz12_5 : w11.cell? ⟨gbz2, 5, none⟩ = some (.int .i64 a1_5) := (blk_cell BKz1.out 5).trans rfl; have hcz12_6 : w11.cell? ⟨gbz2, 6, none⟩ = some (.int .i64 a1_6) := (blk_cell BKz1.out 6).trans rfl; have hcz12_7 : w11.cell? ⟨gbz2, 7, none⟩ = some (.int .i64 a1_7) := (blk_cell BKz1.out 7).trans rfl; have hcz12_8 : w11.cell? ⟨gbz2, 8, none⟩ = some (.bool a1_8) := (blk_cell BKz1.out 8).trans rfl; have hfz12_0 := blk_frozen BKz1.out 0; have hfz12_1 := blk_frozen BKz1.out 1; have hfz12_2 := blk_frozen BKz1.out 2; have hfz12_3 := blk_frozen BKz1.out 3; have hfz12_4 := blk_frozen BKz1.out 4; have hfz12_5 := blk_frozen BKz1.out 5; have hfz12_6 := blk_frozen BKz1.out 6; have hfz12_7 := blk_frozen BKz1.out 7; have hfz12_8 := blk_frozen BKz1.out 8; have hcz13_0 : w11.cell? ⟨gbz3, 0, none⟩ = some (.int .i64 a0_0) := (blk_cell BKz0.out 0).trans rfl; have hcz13_1 : w11.cell? ⟨gbz3, 1, none⟩ = some (.int .i64 a0_1) := (blk_cell BKz0.out 1).trans rfl; have hcz13_2 : w11.cell? ⟨gbz3, 2, none⟩ = some (.int .i64 a0_2) := (blk_cell BKz0.out 2).trans rfl; have hcz13_3 : w11.cell? ⟨gbz3, 3, none⟩ = some (.slice A0_3 l0_3.length c0_3) := (blk_cell BKz0.out 3).trans rfl; have hfz13_0 := blk_frozen BKz0.out 0; have hfz13_1 := blk_frozen BKz0.out 1; have hfz13_2 := blk_frozen BKz0.out 2; have hfz13_3 := blk_frozen BKz0.out 3) | (go_at_call 103; (with_reducible refine (impl_isLayer.calls a1_0 a1_1 a1_2 _ _ l1_3 a1_4 a1_5 a1_6 a1_7 a1_8 a0_2 tz5 _ ?side1 ?side2 A8.out).mono ?_); (case side1 => repeat (exact (Kd.C_below HR1_3.out HB.out))); (case side2 => exact HC1_3.out); rintro e w14 ⟨rfl, hb⟩; replace BKz0 := mk (blk_below BKz0.out hb); replace BKz1 := mk (blk_below BKz1.out hb); replace HB := mk (below_step HB.out hb); (try clear hb)))
   go_meet
   case rel => exact ⟨_, (!tz5), (by rfl), H', ⟨by omega⟩, ⟨by (with_reducible repeat (first | refine blk_drewN ?_ _ | refine blk_drew ?_ | refine blk_alloc ?_ _)); exact BKz0.out⟩, ⟨by (with_reducible repeat (first | refine blk_drewN ?_ _ | refine blk_drew ?_ | refine blk_alloc ?_ _)); exact BKz1.out⟩, ⟨by exact HB.out⟩⟩
  replace c7 := Bool.eq_false_iff.mpr c7
  subst c7
  have H1 : (impl_DirtyTiles.j0 k true a0_0 a0_1 a0_2 l0_3 a1_0 a1_1 a1_2 l1_3 a1_4 a1_5 a1_6 a1_7 a1_8) = some r := by rw [if_neg (show ¬ (false = true) by decide)] at H; exact H
  clear H
  have H := H1
  clear H1
  have H' := mk H
  clear H
  have hnb15 := NBz10.out
  have hnc15 := NBz11.out
  have hcz16_0 : w5.cell? ⟨gbz3, 0, none⟩ = some (.int .i64 a0_0) := (blk_cell BKz0.out 0).trans rfl
  have hcz16_1 : w5.cell? ⟨gbz3, 1, none⟩ = some (.int .i64 a0_1) := (blk_cell BKz0.out 1).trans rfl
  have hcz16_2 : w5.cell? ⟨gbz3, 2, none⟩ = some (.int .i64 a0_2) := (blk_cell BKz0.out 2).trans rfl
  have hcz16_3 : w5.cell? ⟨gbz3, 3, none⟩ = some (.slice A0_3 l0_3.length c0_3) := (blk_cell BKz0.out 3).trans rfl
  have hfz16_0 := blk_frozen BKz0.out 0
  have hfz16_1 := blk_frozen BKz0.out 1
  have hfz16_2 := blk_frozen BKz0.out 2
  have hfz16_3 := blk_frozen BKz0.out 3
  go_wp2_with (first | ((with_reducible refine gate_callee (f := 83) rfl ?_); refine goesL_ (some 10) rfl rfl Try.func83 (by kernel_rfl) rfl #[.agg #[.int .i64 a0_0, .int .i64 a0_1, .int .i64 a0_2, .slice A0_3 l0_3.length c0_3]] rfl (by (try simp only [List.map_toArray, List.map_cons, List.map_nil]); rfl) ?_; (with_reducible refine (impl_isImage.calls a0_0 a0_1 a0_2 _ _ l0_3 false _ ?side1 ?side2 A6.out).mono ?_); (case side1 => repeat (exact (Kd.C_below HR0_3.out HB.out))); (case side2 => exact HC0_3.out); rintro e w17 ⟨rfl, hb⟩; refine ⟨_, rfl, ?_⟩; replace BKz0 := mk (blk_below BKz0.out hb); replace BKz1 := mk (blk_below BKz1.out hb); replace HB := mk (below_step HB.out hb); (try clear hb)))
  go_meet
  case rel => exact ⟨_, (true), (by rfl), H', ⟨by omega⟩, ⟨by (with_reducible repeat (first | refine blk_drewN ?_ _ | refine blk_drew ?_ | refine blk_alloc ?_ _)); exact BKz0.out⟩, ⟨by (with_reducible repeat (first | refine blk_drewN ?_ _ | refine blk_drew ?_ | refine blk_alloc ?_ _)); exact BKz1.out⟩, ⟨by exact HB.out⟩⟩
 case rest =>
  clear HC3
  try clear c1
  try clear p2
  try clear c4
  try clear c7
  try clear c8
  try clear c9
  try clear c15
  try clear hcz10_0
  try clear hcz10_1
  try clear hcz10_2
  try clear hcz10_3
  try clear hcz12_0
  try clear hcz12_1
  try clear hcz12_2
  try clear hcz12_3
  try clear hcz12_4
  try clear hcz12_5
  try clear hcz12_6
  try clear hcz12_7
  try clear hcz12_8
  try clear hcz13_0
  try clear hcz13_1
  try clear hcz13_2
  try clear hcz13_3
  try clear hcz16_0
  try clear hcz16_1
  try clear hcz16_2
  try clear hcz16_3
  try clear hfz10_0
  try clear hfz10_1
  try clear hfz10_2
  try clear hfz10_3
  try clear hfz12_0
  try clear hfz12_1
  try clear hfz12_2
  try clear hfz12_3
  try clear hfz12_4
  try clear hfz12_5
  try clear hfz12_6
  try clear hfz12_7
  try clear hfz12_8
  try clear hfz13_0
  try clear hfz13_1
  try clear hfz13_2
  try clear hfz13_3
  try clear hfz16_0
  try clear hfz16_1
  try clear hfz16_2
  try clear hfz16_3
  obtain ⟨kq, x18_2, rfl, HA, HJ2, BKz0, BKz1, HB⟩ := hcut
  cases kq with
  | zero => exact absurd HA.out (by simp [impl_DirtyTiles.j0])
  | succ kj2 =>
   have H := HA.out
   clear HA
   simp only [impl_DirtyTiles.j0] at H
   by_cases c18 : x18_2 = true
   ·subst c18
    have H1 : (some ([] : List Int)) = some r := by rw [if_pos rfl] at H; exact H
    clear H
    have H := H1
    clear H1
    obtain rfl := Option.some.inj H
    go_wp2
    go_ret
    exact ⟨_, by rfl, by exact Kd.R_nil _ _ _ _ _, by exact HB.out⟩
   replace c18 := Bool.eq_false_iff.mpr c18
   subst c18
   have H1 : ((impl_Layer_box.f a1_0 a1_1 a1_2 l1_3 a1_4 a1_5 a1_6 a1_7 a1_8).bind fun btz0 => ((impl_tileBoxes.f kj2 a0_0 a0_1 a0_2 l0_3).bind fun tz0 => (impl_DirtyTiles.l0 kj2 ([] : List Int) tz0 (tz0.length : Int) 0 btz0.1 btz0.2.1 btz0.2.2.1 btz0.2.2.2))) = some r := by rw [if_neg (show ¬ (false = true) by decide)] at H; exact H
   clear H
   have H := H1
   clear H1
   obtain ⟨yz0, hyz0⟩ : ∃ y_ : List Int, y_ = ([] : List Int) := ⟨_, rfl⟩
   replace H : ((impl_Layer_box.f a1_0 a1_1 a1_2 l1_3 a1_4 a1_5 a1_6 a1_7 a1_8).bind fun btz0 => ((impl_tileBoxes.f kj2 a0_0 a0_1 a0_2 l0_3).bind fun tz0 => (impl_DirtyTiles.l0 kj2 yz0 tz0 (tz0.length : Int) 0 btz0.1 btz0.2.1 btz0.2.2.1 btz0.2.2.2))) = some r := by (rw [hyz0]; with_reducible exact H)
   have Nyz0 := mk hyz0
   clear hyz0
   replace H := Option.bind_eq_some_iff.mp H
   obtain ⟨⟨tz1, tz2, tz3, tz4⟩, A190, H⟩ := H
   replace H : ((impl_tileBoxes.f kj2 a0_0 a0_1 a0_2 l0_3).bind fun tz0 => (impl_DirtyTiles.l0 kj2 yz0 tz0 (tz0.length : Int) 0 tz1 tz2 tz3 tz4)) = some r := H
   have A19 := mk A190
   clear A190
   replace H := Option.bind_eq_some_iff.mp H
   obtain ⟨tz0, A200, H⟩ := H
   replace H : (impl_DirtyTiles.l0 kj2 yz0 tz0 (tz0.length : Int) 0 tz1 tz2 tz3 tz4) = some r := H
   have A20 := mk A200
   clear A200
   have H' := mk H
   clear H
   go_wp2_with (first | ((with_reducible refine gate_dst (N := 19) rfl ?_); refine Kd.R_lit (Kd.int .i64) _ 3 ?hg (N := 19) ?hd (xs := ([] : List Int)) (inner := []) (ok := fun _ => True) (okp := fun _ => True) ?hr ?hp (fun _ hk => hk) trivial (Below.refl _ _) (Nat.le_refl _) (by simp) ?_; (case hd => rfl); (case hg => rfl); (case hr => (go_simp; done)); (case hp => exact (Reps.none _ _)); intro vz0 w21 ho22 hb hg_ hnew_; clear hg_ hnew_; (rw [← Nyz0.out] at ho22); have HOz0 := mk (Kd.R_lower ho22 (below_size HB.out)); replace BKz0 := mk (blk_below BKz0.out hb); replace BKz1 := mk (blk_below BKz1.out hb); replace HB := mk (below_step HB.out hb); clear hb ho22; have hnb23 := NBz11.out; have hnc23 := NBz10.out; have hcz24_0 : w21.cell? ⟨gbz2, 0, none⟩ = some (.int .i64 a1_0) := (blk_cell BKz1.out 0).trans rfl; have hcz24_1 : w21.cell? ⟨gbz2, 1, none⟩ = some (.int .i64 a1_1) := (blk_cell BKz1.out 1).trans rfl; have hcz24_2 : w21.cell? ⟨gbz2, 2, none⟩ = some (.int .i64 a1_2) := (blk_cell BKz1.out 2).trans rfl; have hcz24_3 : w21.cell? ⟨gbz2, 3, none⟩ = some (.slice A1_3 l1_3.length c1_3) := (blk_cell BKz1.out 3).trans rfl; have hcz24_4 : w21.cell? ⟨gbz2, 4, none⟩ = some (.int .i64 a1_4) := (blk_cell BKz1.out 4).trans rfl; have hcz24_5 : w21.cell? ⟨gbz2, 5, none⟩ = some (.int .i64 a1_5) := (blk_cell BKz1.out 5).trans rfl; have hcz24_6 : w21.cell? ⟨gbz2, 6, none⟩ = some (.int .i64 a1_6) := (blk_cell BKz1.out 6).trans rfl; have hcz24_7 : w21.cell? ⟨gbz2, 7, none⟩ = some (.int .i64 a1_7) := (blk_cell BKz1.out 7).trans rfl; have hcz24_8 : w21.cell? ⟨gbz2, 8, none⟩ = some (.bool a1_8) := (blk_cell BKz1.out 8).trans rfl; have hfz24_0 := blk_frozen BKz1.out 0; have hfz24_1 := blk_frozen BKz1.out 1; have hfz24_2 := blk_frozen BKz1.out 2; have hfz24_3 := blk_frozen BKz1.out 3; have hfz24_4 := blk_frozen BKz1.out 4; have hfz24_5 := blk_frozen BKz1.out 5; have hfz24_6 := blk_frozen BKz1.out 6; have hfz24_7 := blk_frozen BKz1.out 7; have hfz24_8 := blk_frozen BKz1.out 8) | ((with_reducible refine gate_callee (f := 104) rfl ?_); refine goesL_ (some 21) rfl rfl Try.func104 (by kernel_rfl) rfl #[.agg #[.int .i64 a1_0, .int .i64 a1_1, .int .i64 a1_2, .slice A1_3 l1_3.length c1_3, .int .i64 a1_4, .int .i64 a1_5, .int .i64 a1_6, .int .i64 a1_7, .bool a1_8]] rfl (by (try simp only [List.map_toArray, List.map_cons, List.map_nil]); rfl) ?_; (with_reducible refine (impl_Layer_box.calls a1_0 a1_1 a1_2 _ _ l1_3 a1_4 a1_5 a1_6 a1_7 a1_8 tz1 tz2 tz3 tz4 _ ?side1 ?side2 A19.out).mono ?_); (case side1 => repeat (exact (Kd.C_below HR1_3.out HB.out))); (case side2 => exact HC1_3.out); rintro e w25 ⟨rfl, hb⟩; refine ⟨_, rfl, ?_⟩; replace HOz0 := mk (Kd.R_below HOz0.out hb); replace BKz0 := mk (blk_below BKz0.out hb); replace BKz1 := mk (blk_below BKz1.out hb); replace HB := mk (below_step HB.out hb); (try clear hb)) | ((with_reducible refine gate_dst (N := 6) rfl ?_); refine box_event (by rfl) (N := 6) (by rfl) (cs := #[.int .i64 0, .int .i64 0, .int .i64 0, .int .i64 0]) (t := 47) (by go_simp; done) ?_; intro gbz1 hg w26 hbox hb; replace HOz0 := mk (Kd.R_below HOz0.out hb); have BKz2 := mk (hbox); have GWz2 := mk ((by rw [hg]; exact (below_size HB.out) : w.heap.size ≤ gbz1)); have GEz1 := mk ((by rw [hg]; exact (below_size HB.out) : w.heap.size ≤ gbz1)); replace HB := mk (below_step HB.out hb); have NBz3 := mk ((by rw [hg]; exact Nat.ne_of_lt (blk_lt BKz0.out) : gbz3 ≠ gbz1)); have NBz5 := mk ((by rw [hg]; exact Nat.ne_of_gt (blk_lt BKz0.out) : gbz1 ≠ gbz3)); replace BKz0 := mk (blk_below BKz0.out hb); have NBz4 := mk ((by rw [hg]; exact Nat.ne_of_lt (blk_lt BKz1.out) : gbz2 ≠ gbz1)); have NBz6 := mk ((by rw [hg]; exact Nat.ne_of_gt (blk_lt BKz1.out) : gbz1 ≠ gbz2)); replace BKz1 := mk (blk_below BKz1.out hb); clear hb hbox hg; have hnb27 := NBz5.out; have hnc27 := NBz3.out; have hnb28 := NBz6.out; have hnc28 := NBz4.out; have hcz29_0 : w26.cell? ⟨gbz1, 0, none⟩ = some (.int .i64 0) := (blk_cell BKz2.out 0).trans rfl; have hcz29_1 : w26.cell? ⟨gbz1, 1, none⟩ = some (.int .i64 0) := (blk_cell BKz2.out 1).trans rfl; have hcz29_2 : w26.cell? ⟨gbz1, 2, none⟩ = some (.int .i64 0) := (blk_cell BKz2.out 2).trans rfl; have hcz29_3 : w26.cell? ⟨gbz1, 3, none⟩ = some (.int .i64 0) := (blk_cell BKz2.out 3).trans rfl; have hfz29_0 := blk_frozen BKz2.out 0; have hfz29_1 := blk_frozen BKz2.out 1; have hfz29_2 := blk_frozen BKz2.out 2; have hfz29_3 := blk_frozen BKz2.out 3; have hcz30_0 : w26.cell? ⟨gbz3, 0, none⟩ = some (.int .i64 a0_0) := (blk_cell BKz0.out 0).trans rfl; have hcz30_1 : w26.cell? ⟨gbz3, 1, none⟩ = some (.int .i64 a0_1) := (blk_cell BKz0.out 1).trans rfl; have hcz30_2 : w26.cell? ⟨gbz3, 2, none⟩ = some (.int .i64 a0_2) := (blk_cell BKz0.out 2).trans rfl; have hcz30_3 : w26.cell? ⟨gbz3, 3, none⟩ = some (.slice A0_3 l0_3.length c0_3) := (blk_cell BKz0.out 3).trans rfl; have hfz30_0 := blk_frozen BKz0.out 0; have hfz30_1 := blk_frozen BKz0.out 1; have hfz30_2 := blk_frozen BKz0.out 2; have hfz30_3 := blk_frozen BKz0.out 3) | ((with_reducible refine gate_callee (f := 92) rfl ?_); refine goesL_ (some 23) rfl rfl Try.func92 (by kernel_rfl) rfl #[.agg #[.int .i64 a0_0, .int .i64 a0_1, .int .i64 a0_2, .slice A0_3 l0_3.length c0_3]] rfl (by (try simp only [List.map_toArray, List.map_cons, List.map_nil]); rfl) ?_; (with_reducible refine (impl_tileBoxes.calls kj2 a0_0 a0_1 a0_2 _ _ l0_3 tz0 _ ?side1 ?side2 A20.out).mono ?_); (case side1 => exact Kd.C_below HR0_3.out (by repeat (with_reducible first | exact HB.out | refine below_set ?_ GEz1.out))); (case side2 => exact HC0_3.out); rintro e w31 ⟨vz1, rfl, ho0, hb⟩; refine ⟨_, rfl, ?_⟩; replace HOz0 := mk (Kd.R_below (by exact (Kd.R_mono (Kd.R_far (p := ⟨gbz1, 3, none⟩) (Kd.R_far (p := ⟨gbz1, 2, none⟩) (Kd.R_far (p := ⟨gbz1, 1, none⟩) (Kd.R_far (p := ⟨gbz1, 0, none⟩) (Kd.R_types HOz0.out BKz2.out (by decide)) (fun _ hk => hk.2) (.int .i64 tz1)) (fun _ hk => hk.2) (.int .i64 tz2)) (fun _ hk => hk.2) (.int .i64 tz3)) (fun _ hk => hk.2) (.int .i64 tz4)) (fun _ h_ => h_.1))) hb); have HOz1 := mk (Kd.R_lower (Kd.R_newB ho0 (g := gbz1) (o := .cells #[.int .i64 tz1, .int .i64 tz2, .int .i64 tz3, .int .i64 tz4] 47 (0, 0)) (by refine blk_put (cs := #[.int .i64 tz1, .int .i64 tz2, .int .i64 tz3, .int .i64 0]) ?_ 3 _ rfl; refine blk_put (cs := #[.int .i64 tz1, .int .i64 tz2, .int .i64 0, .int .i64 0]) ?_ 2 _ rfl; refine blk_put (cs := #[.int .i64 tz1, .int .i64 0, .int .i64 0, .int .i64 0]) ?_ 1 _ rfl; refine blk_put (cs := #[.int .i64 0, .int .i64 0, .int .i64 0, .int .i64 0]) ?_ 0 _ rfl; (with_reducible repeat (first | refine blk_drewN ?_ _ | refine blk_drew ?_ | refine blk_alloc ?_ _)); exact BKz2.out)) (below_size (by repeat (with_reducible first | exact HB.out | refine below_set ?_ GEz1.out)))); replace BKz0 := mk (blk_below (g := gbz3) (o := .cells #[.int .i64 a0_0, .int .i64 a0_1, .int .i64 a0_2, .slice A0_3 l0_3.length c0_3] 27 (0, 0)) (by refine blk_far ?_ NBz3.out _; refine blk_far ?_ NBz3.out _; refine blk_far ?_ NBz3.out _; refine blk_far ?_ NBz3.out _; (with_reducible repeat (first | refine blk_drewN ?_ _ | refine blk_drew ?_ | refine blk_alloc ?_ _)); exact BKz0.out) hb); replace BKz1 := mk (blk_below (g := gbz2) (o := .cells #[.int .i64 a1_0, .int .i64 a1_1, .int .i64 a1_2, .slice A1_3 l1_3.length c1_3, .int .i64 a1_4, .int .i64 a1_5, .int .i64 a1_6, .int .i64 a1_7, .bool a1_8] 55 (0, 0)) (by refine blk_far ?_ NBz4.out _; refine blk_far ?_ NBz4.out _; refine blk_far ?_ NBz4.out _; refine blk_far ?_ NBz4.out _; (with_reducible repeat (first | refine blk_drewN ?_ _ | refine blk_drew ?_ | refine blk_alloc ?_ _)); exact BKz1.out) hb); replace BKz2 := mk (blk_below (g := gbz1) (o := .cells #[.int .i64 tz1, .int .i64 tz2, .int .i64 tz3, .int .i64 tz4] 47 (0, 0)) (by refine blk_put (cs := #[.int .i64 tz1, .int .i64 tz2, .int .i64 tz3, .int .i64 0]) ?_ 3 _ rfl; refine blk_put (cs := #[.int .i64 tz1, .int .i64 tz2, .int .i64 0, .int .i64 0]) ?_ 2 _ rfl; refine blk_put (cs := #[.int .i64 tz1, .int .i64 0, .int .i64 0, .int .i64 0]) ?_ 1 _ rfl; refine blk_put (cs := #[.int .i64 0, .int .i64 0, .int .i64 0, .int .i64 0]) ?_ 0 _ rfl; (with_reducible repeat (first | refine blk_drewN ?_ _ | refine blk_drew ?_ | refine blk_alloc ?_ _)); exact BKz2.out) hb); replace HB := mk (below_step (by repeat (with_reducible first | exact HB.out | refine below_set ?_ GEz1.out)) hb); (try clear hb); (try clear ho0); obtain ⟨Ao32, co32, eo32⟩ := Kd.R_slice HOz1.out; subst eo32))
   go_loopg [5, 25] kj2 (fun kq v5 v25 w' => ∃ (x5_2 : List Int) (x25_2 : Int), v25 = .int .i64 x25_2 ∧ Aside0 (impl_DirtyTiles.l0 kq x5_2 tz0 (tz0.length : Int) x25_2 tz1 tz2 tz3 tz4 = some r) ∧ Aside0 (kq ≤ kj2) ∧ Aside0 (Kd.R (Kd.int .i64) 3 w' w.heap.size (fun _ => True) v5 x5_2) ∧ Aside0 (Kd.R k47 47 w' w.heap.size (fun k_ => k_ ≠ gbz1) (.slice Ao32 tz0.length co32) tz0) ∧ Aside0 (w'.heap[gbz3]? = some (.cells #[.int .i64 a0_0, .int .i64 a0_1, .int .i64 a0_2, (.slice A0_3 l0_3.length c0_3)] 27 (0, 0))) ∧ Aside0 (w'.heap[gbz2]? = some (.cells #[.int .i64 a1_0, .int .i64 a1_1, .int .i64 a1_2, (.slice A1_3 l1_3.length c1_3), .int .i64 a1_4, .int .i64 a1_5, .int .i64 a1_6, .int .i64 a1_7, .bool a1_8] 55 (0, 0))) ∧ Aside0 (w'.heap[gbz1]? = some (.cells #[.int .i64 tz1, .int .i64 tz2, .int .i64 tz3, .int .i64 tz4] 47 (0, 0))) ∧ Aside0 (Below w.heap.size w w'))
   case atStart => exact ⟨(yz0), (0), (by rfl), H', ⟨Nat.le_refl _⟩, ⟨by (with_reducible repeat (first | apply Kd.R_alloc | apply Kd.R_drewN | apply Kd.R_drew)); exact HOz0.out⟩, ⟨by (with_reducible repeat (first | apply Kd.R_alloc | apply Kd.R_drewN | apply Kd.R_drew)); exact Kd.R_mono HOz1.out (fun _ hk => hk.2)⟩, ⟨by (with_reducible repeat (first | refine blk_drewN ?_ _ | refine blk_drew ?_ | refine blk_alloc ?_ _)); exact BKz0.out⟩, ⟨by (with_reducible repeat (first | refine blk_drewN ?_ _ | refine blk_drew ?_ | refine blk_alloc ?_ _)); exact BKz1.out⟩, ⟨by (with_reducible repeat (first | refine blk_drewN ?_ _ | refine blk_drew ?_ | refine blk_alloc ?_ _)); exact BKz2.out⟩, ⟨by exact HB.out⟩⟩
   case round =>
    clear H'
    try clear c1
    try clear c2
    try clear p2
    try clear c4
    try clear c7
    try clear c8
    try clear c9
    try clear c10
    try clear c15
    try clear c18
    try clear c23
    try clear c27
    try clear c28
    try clear hcz10_0
    try clear hcz10_1
    try clear hcz10_2
    try clear hcz10_3
    try clear hcz12_0
    try clear hcz12_1
    try clear hcz12_2
    try clear hcz12_3
    try clear hcz12_4
    try clear hcz12_5
    try clear hcz12_6
    try clear hcz12_7
    try clear hcz12_8
    try clear hcz13_0
    try clear hcz13_1
    try clear hcz13_2
    try clear hcz13_3
    try clear hcz16_0
    try clear hcz16_1
    try clear hcz16_2
    try clear hcz16_3
    try clear hcz24_0
    try clear hcz24_1
    try clear hcz24_2
    try clear hcz24_3
    try clear hcz24_4
    try clear hcz24_5
    try clear hcz24_6
    try clear hcz24_7
    try clear hcz24_8
    try clear hcz29_0
    try clear hcz29_1
    try clear hcz29_2
    try clear hcz29_3
    try clear hcz30_0
    try clear hcz30_1
    try clear hcz30_2
    try clear hcz30_3
    try clear hfz10_0
    try clear hfz10_1
    try clear hfz10_2
    try clear hfz10_3
    try clear hfz12_0
    try clear hfz12_1
    try clear hfz12_2
    try clear hfz12_3
    try clear hfz12_4
    try clear hfz12_5
    try clear hfz12_6
    try clear hfz12_7
    try clear hfz12_8
    try clear hfz13_0
    try clear hfz13_1
    try clear hfz13_2
    try clear hfz13_3
    try clear hfz16_0
    try clear hfz16_1
    try clear hfz16_2
    try clear hfz16_3
    try clear hfz24_0
    try clear hfz24_1
    try clear hfz24_2
    try clear hfz24_3
    try clear hfz24_4
    try clear hfz24_5
    try clear hfz24_6
    try clear hfz24_7
    try clear hfz24_8
    try clear hfz29_0
    try clear hfz29_1
    try clear hfz29_2
    try clear hfz29_3
    try clear hfz30_0
    try clear hfz30_1
    try clear hfz30_2
    try clear hfz30_3
    try clear p2
    obtain ⟨x5_2, x25_2, rfl, HA, HK2, HO_5, HO_23, BKz0, BKz1, BKz2, HB⟩ := hrel
    cases gk with
    | zero => exact absurd HA.out (by simp [impl_DirtyTiles.l0])
    | succ k2 =>
     have H := HA.out
     clear HA
     simp only [impl_DirtyTiles.l0] at H
     by_cases c33 : x25_2 < (tz0.length : Int)
     ·rw [if_pos c33] at H
      have c33b0 : decide (x25_2 < (tz0.length : Int)) = true := decide_eq_true c33
      clear c33
      by_cases c34 : 0 ≤ x25_2
      ·rw [if_pos c34] at H
       have c34b0 : decide (0 ≤ x25_2) = true := decide_eq_true c34
       clear c34
       by_cases c35 : x25_2 < (tz0.length : Int)
       ·rw [if_pos c35] at H
        have c35b0 : decide (x25_2 < (tz0.length : Int)) = true := decide_eq_true c35
        clear c35
        have HC36 := mk H
        clear H
        have p43016 : 0 ≤ (x25_2 : Int) := of_decide_eq_true (by (with_reducible assumption))
        have q43016 : x25_2 < (tz0.length : Int) := of_decide_eq_true (by (with_reducible assumption))
        obtain ⟨ad43016, e43016, hx43016_0, hx43016_1, hx43016_2, hx43016_3⟩ := at_T47 (Kd.R_reads' HO_23.out).2.2 x25_2 p43016 q43016
        cases e43016
        replace p43016 := eq_true p43016
        replace q43016 := eq_true q43016
        go_upto_region 8 with (first | ((with_reducible refine gate_dst (N := 8) rfl ?_); refine box_event (by rfl) (N := 8) (by rfl) (cs := #[.int .i64 0, .int .i64 0, .int .i64 0, .int .i64 0]) (t := 47) (by go_simp; done) ?_; intro gbz0 hg w37 hbox hb; replace HO_5 := mk (Kd.R_below HO_5.out hb); replace HO_23 := mk (Kd.R_below (Kd.R_elderB HO_23.out gbz0 (Nat.le_of_eq hg.symm)) hb); have BKz3 := mk (hbox); have GWz3 := mk ((by rw [hg]; exact (below_size HB.out) : w.heap.size ≤ gbz0)); have GEz0 := mk ((by rw [hg]; exact (below_size HB.out) : w.heap.size ≤ gbz0)); replace HB := mk (below_step HB.out hb); have NBz0 := mk ((by rw [hg]; exact Nat.ne_of_lt (blk_lt BKz0.out) : gbz3 ≠ gbz0)); have NBz7 := mk ((by rw [hg]; exact Nat.ne_of_gt (blk_lt BKz0.out) : gbz0 ≠ gbz3)); replace BKz0 := mk (blk_below BKz0.out hb); have NBz1 := mk ((by rw [hg]; exact Nat.ne_of_lt (blk_lt BKz1.out) : gbz2 ≠ gbz0)); have NBz8 := mk ((by rw [hg]; exact Nat.ne_of_gt (blk_lt BKz1.out) : gbz0 ≠ gbz2)); replace BKz1 := mk (blk_below BKz1.out hb); have NBz2 := mk ((by rw [hg]; exact Nat.ne_of_lt (blk_lt BKz2.out) : gbz1 ≠ gbz0)); have NBz9 := mk ((by rw [hg]; exact Nat.ne_of_gt (blk_lt BKz2.out) : gbz0 ≠ gbz1)); replace BKz2 := mk (blk_below BKz2.out hb); clear hb hbox hg; have hnb38 := NBz7.out; have hnc38 := NBz0.out; have hnb39 := NBz8.out; have hnc39 := NBz1.out; have hnb40 := NBz9.out; have hnc40 := NBz2.out; have hcz41_0 : w37.cell? ⟨gbz0, 0, none⟩ = some (.int .i64 0) := (blk_cell BKz3.out 0).trans rfl; have hcz41_1 : w37.cell? ⟨gbz0, 1, none⟩ = some (.int .i64 0) := (blk_cell BKz3.out 1).trans rfl; have hcz41_2 : w37.cell? ⟨gbz0, 2, none⟩ = some (.int .i64 0) := (blk_cell BKz3.out 2).trans rfl; have hcz41_3 : w37.cell? ⟨gbz0, 3, none⟩ = some (.int .i64 0) := (blk_cell BKz3.out 3).trans rfl; have hfz41_0 := blk_frozen BKz3.out 0; have hfz41_1 := blk_frozen BKz3.out 1; have hfz41_2 := blk_frozen BKz3.out 2; have hfz41_3 := blk_frozen BKz3.out 3))
        go_cut [67] (fun v67 wc => ∃ (kq : Nat) (x67_35 : Bool), v67 = .bool x67_35 ∧ Aside0 (impl_DirtyTiles.j2 kq x5_2 x25_2 tz0 (tz0.length : Int) x25_2 x67_35 tz1 tz2 tz3 tz4 = some r) ∧ Aside0 (kq ≤ k2) ∧ Aside0 (Kd.R (Kd.int .i64) 3 wc w.heap.size (fun _ => True) u5 x5_2) ∧ Aside0 (Kd.R k47 47 wc w.heap.size (fun k_ => k_ ≠ gbz1 ∧ k_ ≠ gbz0) (.slice (some ad43016) tz0.length co32) tz0) ∧ Aside0 (wc.heap[gbz3]? = some (.cells #[.int .i64 a0_0, .int .i64 a0_1, .int .i64 a0_2, (.slice A0_3 l0_3.length c0_3)] 27 (0, 0))) ∧ Aside0 (wc.heap[gbz2]? = some (.cells #[.int .i64 a1_0, .int .i64 a1_1, .int .i64 a1_2, (.slice A1_3 l1_3.length c1_3), .int .i64 a1_4, .int .i64 a1_5, .int .i64 a1_6, .int .i64 a1_7, .bool a1_8] 55 (0, 0))) ∧ Aside0 (wc.heap[gbz1]? = some (.cells #[.int .i64 tz1, .int .i64 tz2, .int .i64 tz3, .int .i64 tz4] 47 (0, 0))) ∧ Aside0 (wc.heap[gbz0]? = some (.cells #[.int .i64 ((rd_T47 tz0 x25_2).f0), .int .i64 ((rd_T47 tz0 x25_2).f1), .int .i64 ((rd_T47 tz0 x25_2).f2), .int .i64 ((rd_T47 tz0 x25_2).f3)] 47 (0, 0))) ∧ Aside0 (Below w.heap.size w wc))
        case first =>
         have H := HC36.out
         clear HC36
         by_cases c42 : tz1 < (wrap64 (((rd_T47 tz0 x25_2).f0) + ((rd_T47 tz0 x25_2).f2)))
         ·rw [if_pos c42] at H
          have c42b0 : decide (tz1 < (wrap64 (((rd_T47 tz0 x25_2).f0) + ((rd_T47 tz0 x25_2).f2)))) = true := decide_eq_true c42
          clear c42
          (skip)
          by_cases c43 : ((rd_T47 tz0 x25_2).f0) < (wrap64 (tz1 + tz3))
          ·rw [if_pos c43] at H
           have c43b0 : decide (((rd_T47 tz0 x25_2).f0) < (wrap64 (tz1 + tz3))) = true := decide_eq_true c43
           clear c43
           by_cases c44 : tz2 < (wrap64 (((rd_T47 tz0 x25_2).f1) + ((rd_T47 tz0 x25_2).f3)))
           ·rw [if_pos c44] at H
            have c44b0 : decide (tz2 < (wrap64 (((rd_T47 tz0 x25_2).f1) + ((rd_T47 tz0 x25_2).f3)))) = true := decide_eq_true c44
            clear c44
            have H' := mk H
            clear H
            have hnb45 := NBz5.out
            have hnc45 := NBz3.out
            have hnb46 := NBz6.out
            have hnc46 := NBz4.out
            have hnb47 := NBz2.out
            have hnc47 := NBz9.out
            have hcz48_0 : w37.cell? ⟨gbz1, 0, none⟩ = some (.int .i64 tz1) := (blk_cell BKz2.out 0).trans rfl
            have hcz48_1 : w37.cell? ⟨gbz1, 1, none⟩ = some (.int .i64 tz2) := (blk_cell BKz2.out 1).trans rfl
            have hcz48_2 : w37.cell? ⟨gbz1, 2, none⟩ = some (.int .i64 tz3) := (blk_cell BKz2.out 2).trans rfl
            have hcz48_3 : w37.cell? ⟨gbz1, 3, none⟩ = some (.int .i64 tz4) := (blk_cell BKz2.out 3).trans rfl
            have hfz48_0 := blk_frozen BKz2.out 0
            have hfz48_1 := blk_frozen BKz2.out 1
            have hfz48_2 := blk_frozen BKz2.out 2
            have hfz48_3 := blk_frozen BKz2.out 3
            have hnb49 := NBz7.out
            have hnc49 := NBz0.out
            have hnb50 := NBz8.out
            have hnc50 := NBz1.out
            have hcz51_0 : w37.cell? ⟨gbz0, 0, none⟩ = some (.int .i64 0) := (blk_cell BKz3.out 0).trans rfl
            have hcz51_1 : w37.cell? ⟨gbz0, 1, none⟩ = some (.int .i64 0) := (blk_cell BKz3.out 1).trans rfl
            have hcz51_2 : w37.cell? ⟨gbz0, 2, none⟩ = some (.int .i64 0) := (blk_cell BKz3.out 2).trans rfl
            have hcz51_3 : w37.cell? ⟨gbz0, 3, none⟩ = some (.int .i64 0) := (blk_cell BKz3.out 3).trans rfl
            have hfz51_0 := blk_frozen BKz3.out 0
            have hfz51_1 := blk_frozen BKz3.out 1
            have hfz51_2 := blk_frozen BKz3.out 2
            have hfz51_3 := blk_frozen BKz3.out 3
            go_wp2
            go_meet
            case rel => exact ⟨_, (decide (((rd_T47 tz0 x25_2).f1) < (wrap64 (tz2 + tz4)))), (by rfl), H', ⟨by have := HJ2.out; have := HK2.out; omega⟩, ⟨by (with_reducible repeat (first | apply Kd.R_alloc | apply Kd.R_drewN | apply Kd.R_drew)); exact Kd.R_mono (Kd.R_far (p := ⟨gbz0, 3, none⟩) (Kd.R_far (p := ⟨gbz0, 2, none⟩) (Kd.R_far (p := ⟨gbz0, 1, none⟩) (Kd.R_far (p := ⟨gbz0, 0, none⟩) (Kd.R_types HO_5.out BKz3.out (by decide)) (fun _ hk => hk.2) (.int .i64 ((rd_T47 tz0 x25_2).f0))) (fun _ hk => hk.2) (.int .i64 ((rd_T47 tz0 x25_2).f1))) (fun _ hk => hk.2) (.int .i64 ((rd_T47 tz0 x25_2).f2))) (fun _ hk => hk.2) (.int .i64 ((rd_T47 tz0 x25_2).f3))) (fun _ hk => trivial)⟩, ⟨by (with_reducible repeat (first | apply Kd.R_alloc | apply Kd.R_drewN | apply Kd.R_drew)); exact Kd.R_mono (Kd.R_far (p := ⟨gbz0, 3, none⟩) (Kd.R_far (p := ⟨gbz0, 2, none⟩) (Kd.R_far (p := ⟨gbz0, 1, none⟩) (Kd.R_far (p := ⟨gbz0, 0, none⟩) (Kd.R_mono HO_23.out (fun k_ hk => (⟨hk, hk.2⟩ : _ ∧ k_ ≠ gbz0))) (fun _ hk => hk.2) (.int .i64 ((rd_T47 tz0 x25_2).f0))) (fun _ hk => hk.2) (.int .i64 ((rd_T47 tz0 x25_2).f1))) (fun _ hk => hk.2) (.int .i64 ((rd_T47 tz0 x25_2).f2))) (fun _ hk => hk.2) (.int .i64 ((rd_T47 tz0 x25_2).f3))) (fun _ hk => ⟨hk.1.1, hk.1.2⟩)⟩, ⟨by refine blk_far ?_ NBz0.out _; refine blk_far ?_ NBz0.out _; refine blk_far ?_ NBz0.out _; refine blk_far ?_ NBz0.out _; (with_reducible repeat (first | refine blk_drewN ?_ _ | refine blk_drew ?_ | refine blk_alloc ?_ _)); exact BKz0.out⟩, ⟨by refine blk_far ?_ NBz1.out _; refine blk_far ?_ NBz1.out _; refine blk_far ?_ NBz1.out _; refine blk_far ?_ NBz1.out _; (with_reducible repeat (first | refine blk_drewN ?_ _ | refine blk_drew ?_ | refine blk_alloc ?_ _)); exact BKz1.out⟩, ⟨by refine blk_far ?_ NBz2.out _; refine blk_far ?_ NBz2.out _; refine blk_far ?_ NBz2.out _; refine blk_far ?_ NBz2.out _; (with_reducible repeat (first | refine blk_drewN ?_ _ | refine blk_drew ?_ | refine blk_alloc ?_ _)); exact BKz2.out⟩, ⟨by refine blk_put (cs := #[.int .i64 ((rd_T47 tz0 x25_2).f0), .int .i64 ((rd_T47 tz0 x25_2).f1), .int .i64 ((rd_T47 tz0 x25_2).f2), .int .i64 0]) ?_ 3 _ rfl; refine blk_put (cs := #[.int .i64 ((rd_T47 tz0 x25_2).f0), .int .i64 ((rd_T47 tz0 x25_2).f1), .int .i64 0, .int .i64 0]) ?_ 2 _ rfl; refine blk_put (cs := #[.int .i64 ((rd_T47 tz0 x25_2).f0), .int .i64 0, .int .i64 0, .int .i64 0]) ?_ 1 _ rfl; refine blk_put (cs := #[.int .i64 0, .int .i64 0, .int .i64 0, .int .i64 0]) ?_ 0 _ rfl; (with_reducible repeat (first | refine blk_drewN ?_ _ | refine blk_drew ?_ | refine blk_alloc ?_ _)); exact BKz3.out⟩, ⟨by repeat (with_reducible first | exact HB.out | refine below_set ?_ GEz0.out)⟩⟩
           rw [if_neg c44] at H
           have c44b0 : decide (tz2 < (wrap64 (((rd_T47 tz0 x25_2).f1) + ((rd_T47 tz0 x25_2).f3)))) = false := decide_eq_false c44
           clear c44
           have H' := mk H
           clear H
           have hnb52 := NBz5.out
           have hnc52 := NBz3.out
           have hnb53 := NBz6.out
           have hnc53 := NBz4.out
           have hnb54 := NBz2.out
           have hnc54 := NBz9.out
           have hcz55_0 : w37.cell? ⟨gbz1, 0, none⟩ = some (.int .i64 tz1) := (blk_cell BKz2.out 0).trans rfl
           have hcz55_1 : w37.cell? ⟨gbz1, 1, none⟩ = some (.int .i64 tz2) := (blk_cell BKz2.out 1).trans rfl
           have hcz55_2 : w37.cell? ⟨gbz1, 2, none⟩ = some (.int .i64 tz3) := (blk_cell BKz2.out 2).trans rfl
           have hcz55_3 : w37.cell? ⟨gbz1, 3, none⟩ = some (.int .i64 tz4) := (blk_cell BKz2.out 3).trans rfl
           have hfz55_0 := blk_frozen BKz2.out 0
           have hfz55_1 := blk_frozen BKz2.out 1
           have hfz55_2 := blk_frozen BKz2.out 2
           have hfz55_3 := blk_frozen BKz2.out 3
           have hnb56 := NBz7.out
           have hnc56 := NBz0.out
           have hnb57 := NBz8.out
           have hnc57 := NBz1.out
           have hcz58_0 : w37.cell? ⟨gbz0, 0, none⟩ = some (.int .i64 0) := (blk_cell BKz3.out 0).trans rfl
           have hcz58_1 : w37.cell? ⟨gbz0, 1, none⟩ = some (.int .i64 0) := (blk_cell BKz3.out 1).trans rfl
           have hcz58_2 : w37.cell? ⟨gbz0, 2, none⟩ = some (.int .i64 0) := (blk_cell BKz3.out 2).trans rfl
           have hcz58_3 : w37.cell? ⟨gbz0, 3, none⟩ = some (.int .i64 0) := (blk_cell BKz3.out 3).trans rfl
           have hfz58_0 := blk_frozen BKz3.out 0
           have hfz58_1 := blk_frozen BKz3.out 1
           have hfz58_2 := blk_frozen BKz3.out 2
           have hfz58_3 := blk_frozen BKz3.out 3
           go_wp2
           go_meet
           case rel => exact ⟨_, (false), (by rfl), H', ⟨by have := HJ2.out; have := HK2.out; omega⟩, ⟨by (with_reducible repeat (first | apply Kd.R_alloc | apply Kd.R_drewN | apply Kd.R_drew)); exact Kd.R_mono (Kd.R_far (p := ⟨gbz0, 3, none⟩) (Kd.R_far (p := ⟨gbz0, 2, none⟩) (Kd.R_far (p := ⟨gbz0, 1, none⟩) (Kd.R_far (p := ⟨gbz0, 0, none⟩) (Kd.R_types HO_5.out BKz3.out (by decide)) (fun _ hk => hk.2) (.int .i64 ((rd_T47 tz0 x25_2).f0))) (fun _ hk => hk.2) (.int .i64 ((rd_T47 tz0 x25_2).f1))) (fun _ hk => hk.2) (.int .i64 ((rd_T47 tz0 x25_2).f2))) (fun _ hk => hk.2) (.int .i64 ((rd_T47 tz0 x25_2).f3))) (fun _ hk => trivial)⟩, ⟨by (with_reducible repeat (first | apply Kd.R_alloc | apply Kd.R_drewN | apply Kd.R_drew)); exact Kd.R_mono (Kd.R_far (p := ⟨gbz0, 3, none⟩) (Kd.R_far (p := ⟨gbz0, 2, none⟩) (Kd.R_far (p := ⟨gbz0, 1, none⟩) (Kd.R_far (p := ⟨gbz0, 0, none⟩) (Kd.R_mono HO_23.out (fun k_ hk => (⟨hk, hk.2⟩ : _ ∧ k_ ≠ gbz0))) (fun _ hk => hk.2) (.int .i64 ((rd_T47 tz0 x25_2).f0))) (fun _ hk => hk.2) (.int .i64 ((rd_T47 tz0 x25_2).f1))) (fun _ hk => hk.2) (.int .i64 ((rd_T47 tz0 x25_2).f2))) (fun _ hk => hk.2) (.int .i64 ((rd_T47 tz0 x25_2).f3))) (fun _ hk => ⟨hk.1.1, hk.1.2⟩)⟩, ⟨by refine blk_far ?_ NBz0.out _; refine blk_far ?_ NBz0.out _; refine blk_far ?_ NBz0.out _; refine blk_far ?_ NBz0.out _; (with_reducible repeat (first | refine blk_drewN ?_ _ | refine blk_drew ?_ | refine blk_alloc ?_ _)); exact BKz0.out⟩, ⟨by refine blk_far ?_ NBz1.out _; refine blk_far ?_ NBz1.out _; refine blk_far ?_ NBz1.out _; refine blk_far ?_ NBz1.out _; (with_reducible repeat (first | refine blk_drewN ?_ _ | refine blk_drew ?_ | refine blk_alloc ?_ _)); exact BKz1.out⟩, ⟨by refine blk_far ?_ NBz2.out _; refine blk_far ?_ NBz2.out _; refine blk_far ?_ NBz2.out _; refine blk_far ?_ NBz2.out _; (with_reducible repeat (first | refine blk_drewN ?_ _ | refine blk_drew ?_ | refine blk_alloc ?_ _)); exact BKz2.out⟩, ⟨by refine blk_put (cs := #[.int .i64 ((rd_T47 tz0 x25_2).f0), .int .i64 ((rd_T47 tz0 x25_2).f1), .int .i64 ((rd_T47 tz0 x25_2).f2), .int .i64 0]) ?_ 3 _ rfl; refine blk_put (cs := #[.int .i64 ((rd_T47 tz0 x25_2).f0), .int .i64 ((rd_T47 tz0 x25_2).f1), .int .i64 0, .int .i64 0]) ?_ 2 _ rfl; refine blk_put (cs := #[.int .i64 ((rd_T47 tz0 x25_2).f0), .int .i64 0, .int .i64 0, .int .i64 0]) ?_ 1 _ rfl; refine blk_put (cs := #[.int .i64 0, .int .i64 0, .int .i64 0, .int .i64 0]) ?_ 0 _ rfl; (with_reducible repeat (first | refine blk_drewN ?_ _ | refine blk_drew ?_ | refine blk_alloc ?_ _)); exact BKz3.out⟩, ⟨by repeat (with_reducible first | exact HB.out | refine below_set ?_ GEz0.out)⟩⟩
          rw [if_neg c43] at H
          have c43b0 : decide (((rd_T47 tz0 x25_2).f0) < (wrap64 (tz1 + tz3))) = false := decide_eq_false c43
          clear c43
          have H' := mk H
          clear H
          have hnb59 := NBz5.out
          have hnc59 := NBz3.out
          have hnb60 := NBz6.out
          have hnc60 := NBz4.out
          have hnb61 := NBz2.out
          have hnc61 := NBz9.out
          have hcz62_0 : w37.cell? ⟨gbz1, 0, none⟩ = some (.int .i64 tz1) := (blk_cell BKz2.out 0).trans rfl
          have hcz62_1 : w37.cell? ⟨gbz1, 1, none⟩ = some (.int .i64 tz2) := (blk_cell BKz2.out 1).trans rfl
          have hcz62_2 : w37.cell? ⟨gbz1, 2, none⟩ = some (.int .i64 tz3) := (blk_cell BKz2.out 2).trans rfl
          have hcz62_3 : w37.cell? ⟨gbz1, 3, none⟩ = some (.int .i64 tz4) := (blk_cell BKz2.out 3).trans rfl
          have hfz62_0 := blk_frozen BKz2.out 0
          have hfz62_1 := blk_frozen BKz2.out 1
          have hfz62_2 := blk_frozen BKz2.out 2
          have hfz62_3 := blk_frozen BKz2.out 3
          have hnb63 := NBz7.out
          have hnc63 := NBz0.out
          have hnb64 := NBz8.out
          have hnc64 := NBz1.out
          have hcz65_0 : w37.cell? ⟨gbz0, 0, none⟩ = some (.int .i64 0) := (blk_cell BKz3.out 0).trans rfl
          have hcz65_1 : w37.cell? ⟨gbz0, 1, none⟩ = some (.int .i64 0) := (blk_cell BKz3.out 1).trans rfl
          have hcz65_2 : w37.cell? ⟨gbz0, 2, none⟩ = some (.int .i64 0) := (blk_cell BKz3.out 2).trans rfl
          have hcz65_3 : w37.cell? ⟨gbz0, 3, none⟩ = some (.int .i64 0) := (blk_cell BKz3.out 3).trans rfl
          have hfz65_0 := blk_frozen BKz3.out 0
          have hfz65_1 := blk_frozen BKz3.out 1
          have hfz65_2 := blk_frozen BKz3.out 2
          have hfz65_3 := blk_frozen BKz3.out 3
          go_wp2
          go_meet
          case rel => exact ⟨_, (false), (by rfl), H', ⟨by have := HJ2.out; have := HK2.out; omega⟩, ⟨by (with_reducible repeat (first | apply Kd.R_alloc | apply Kd.R_drewN | apply Kd.R_drew)); exact Kd.R_mono (Kd.R_far (p := ⟨gbz0, 3, none⟩) (Kd.R_far (p := ⟨gbz0, 2, none⟩) (Kd.R_far (p := ⟨gbz0, 1, none⟩) (Kd.R_far (p := ⟨gbz0, 0, none⟩) (Kd.R_types HO_5.out BKz3.out (by decide)) (fun _ hk => hk.2) (.int .i64 ((rd_T47 tz0 x25_2).f0))) (fun _ hk => hk.2) (.int .i64 ((rd_T47 tz0 x25_2).f1))) (fun _ hk => hk.2) (.int .i64 ((rd_T47 tz0 x25_2).f2))) (fun _ hk => hk.2) (.int .i64 ((rd_T47 tz0 x25_2).f3))) (fun _ hk => trivial)⟩, ⟨by (with_reducible repeat (first | apply Kd.R_alloc | apply Kd.R_drewN | apply Kd.R_drew)); exact Kd.R_mono (Kd.R_far (p := ⟨gbz0, 3, none⟩) (Kd.R_far (p := ⟨gbz0, 2, none⟩) (Kd.R_far (p := ⟨gbz0, 1, none⟩) (Kd.R_far (p := ⟨gbz0, 0, none⟩) (Kd.R_mono HO_23.out (fun k_ hk => (⟨hk, hk.2⟩ : _ ∧ k_ ≠ gbz0))) (fun _ hk => hk.2) (.int .i64 ((rd_T47 tz0 x25_2).f0))) (fun _ hk => hk.2) (.int .i64 ((rd_T47 tz0 x25_2).f1))) (fun _ hk => hk.2) (.int .i64 ((rd_T47 tz0 x25_2).f2))) (fun _ hk => hk.2) (.int .i64 ((rd_T47 tz0 x25_2).f3))) (fun _ hk => ⟨hk.1.1, hk.1.2⟩)⟩, ⟨by refine blk_far ?_ NBz0.out _; refine blk_far ?_ NBz0.out _; refine blk_far ?_ NBz0.out _; refine blk_far ?_ NBz0.out _; (with_reducible repeat (first | refine blk_drewN ?_ _ | refine blk_drew ?_ | refine blk_alloc ?_ _)); exact BKz0.out⟩, ⟨by refine blk_far ?_ NBz1.out _; refine blk_far ?_ NBz1.out _; refine blk_far ?_ NBz1.out _; refine blk_far ?_ NBz1.out _; (with_reducible repeat (first | refine blk_drewN ?_ _ | refine blk_drew ?_ | refine blk_alloc ?_ _)); exact BKz1.out⟩, ⟨by refine blk_far ?_ NBz2.out _; refine blk_far ?_ NBz2.out _; refine blk_far ?_ NBz2.out _; refine blk_far ?_ NBz2.out _; (with_reducible repeat (first | refine blk_drewN ?_ _ | refine blk_drew ?_ | refine blk_alloc ?_ _)); exact BKz2.out⟩, ⟨by refine blk_put (cs := #[.int .i64 ((rd_T47 tz0 x25_2).f0), .int .i64 ((rd_T47 tz0 x25_2).f1), .int .i64 ((rd_T47 tz0 x25_2).f2), .int .i64 0]) ?_ 3 _ rfl; refine blk_put (cs := #[.int .i64 ((rd_T47 tz0 x25_2).f0), .int .i64 ((rd_T47 tz0 x25_2).f1), .int .i64 0, .int .i64 0]) ?_ 2 _ rfl; refine blk_put (cs := #[.int .i64 ((rd_T47 tz0 x25_2).f0), .int .i64 0, .int .i64 0, .int .i64 0]) ?_ 1 _ rfl; refine blk_put (cs := #[.int .i64 0, .int .i64 0, .int .i64 0, .int .i64 0]) ?_ 0 _ rfl; (with_reducible repeat (first | refine blk_drewN ?_ _ | refine blk_drew ?_ | refine blk_alloc ?_ _)); exact BKz3.out⟩, ⟨by repeat (with_reducible first | exact HB.out | refine below_set ?_ GEz0.out)⟩⟩
         rw [if_neg c42] at H
         have c42b0 : decide (tz1 < (wrap64 (((rd_T47 tz0 x25_2).f0) + ((rd_T47 tz0 x25_2).f2)))) = false := decide_eq_false c42
         clear c42
         (skip)
         have H' := mk H
         clear H
         have hnb66 := NBz5.out
         have hnc66 := NBz3.out
         have hnb67 := NBz6.out
         have hnc67 := NBz4.out
         have hnb68 := NBz2.out
         have hnc68 := NBz9.out
         have hcz69_0 : w37.cell? ⟨gbz1, 0, none⟩ = some (.int .i64 tz1) := (blk_cell BKz2.out 0).trans rfl
         have hcz69_1 : w37.cell? ⟨gbz1, 1, none⟩ = some (.int .i64 tz2) := (blk_cell BKz2.out 1).trans rfl
         have hcz69_2 : w37.cell? ⟨gbz1, 2, none⟩ = some (.int .i64 tz3) := (blk_cell BKz2.out 2).trans rfl
         have hcz69_3 : w37.cell? ⟨gbz1, 3, none⟩ = some (.int .i64 tz4) := (blk_cell BKz2.out 3).trans rfl
         have hfz69_0 := blk_frozen BKz2.out 0
         have hfz69_1 := blk_frozen BKz2.out 1
         have hfz69_2 := blk_frozen BKz2.out 2
         have hfz69_3 := blk_frozen BKz2.out 3
         have hnb70 := NBz7.out
         have hnc70 := NBz0.out
         have hnb71 := NBz8.out
         have hnc71 := NBz1.out
         have hcz72_0 : w37.cell? ⟨gbz0, 0, none⟩ = some (.int .i64 0) := (blk_cell BKz3.out 0).trans rfl
         have hcz72_1 : w37.cell? ⟨gbz0, 1, none⟩ = some (.int .i64 0) := (blk_cell BKz3.out 1).trans rfl
         have hcz72_2 : w37.cell? ⟨gbz0, 2, none⟩ = some (.int .i64 0) := (blk_cell BKz3.out 2).trans rfl
         have hcz72_3 : w37.cell? ⟨gbz0, 3, none⟩ = some (.int .i64 0) := (blk_cell BKz3.out 3).trans rfl
         have hfz72_0 := blk_frozen BKz3.out 0
         have hfz72_1 := blk_frozen BKz3.out 1
         have hfz72_2 := blk_frozen BKz3.out 2
         have hfz72_3 := blk_frozen BKz3.out 3
         go_wp2
         go_meet
         case rel => exact ⟨_, (false), (by rfl), H', ⟨by have := HJ2.out; have := HK2.out; omega⟩, ⟨by (with_reducible repeat (first | apply Kd.R_alloc | apply Kd.R_drewN | apply Kd.R_drew)); exact Kd.R_mono (Kd.R_far (p := ⟨gbz0, 3, none⟩) (Kd.R_far (p := ⟨gbz0, 2, none⟩) (Kd.R_far (p := ⟨gbz0, 1, none⟩) (Kd.R_far (p := ⟨gbz0, 0, none⟩) (Kd.R_types HO_5.out BKz3.out (by decide)) (fun _ hk => hk.2) (.int .i64 ((rd_T47 tz0 x25_2).f0))) (fun _ hk => hk.2) (.int .i64 ((rd_T47 tz0 x25_2).f1))) (fun _ hk => hk.2) (.int .i64 ((rd_T47 tz0 x25_2).f2))) (fun _ hk => hk.2) (.int .i64 ((rd_T47 tz0 x25_2).f3))) (fun _ hk => trivial)⟩, ⟨by (with_reducible repeat (first | apply Kd.R_alloc | apply Kd.R_drewN | apply Kd.R_drew)); exact Kd.R_mono (Kd.R_far (p := ⟨gbz0, 3, none⟩) (Kd.R_far (p := ⟨gbz0, 2, none⟩) (Kd.R_far (p := ⟨gbz0, 1, none⟩) (Kd.R_far (p := ⟨gbz0, 0, none⟩) (Kd.R_mono HO_23.out (fun k_ hk => (⟨hk, hk.2⟩ : _ ∧ k_ ≠ gbz0))) (fun _ hk => hk.2) (.int .i64 ((rd_T47 tz0 x25_2).f0))) (fun _ hk => hk.2) (.int .i64 ((rd_T47 tz0 x25_2).f1))) (fun _ hk => hk.2) (.int .i64 ((rd_T47 tz0 x25_2).f2))) (fun _ hk => hk.2) (.int .i64 ((rd_T47 tz0 x25_2).f3))) (fun _ hk => ⟨hk.1.1, hk.1.2⟩)⟩, ⟨by refine blk_far ?_ NBz0.out _; refine blk_far ?_ NBz0.out _; refine blk_far ?_ NBz0.out _; refine blk_far ?_ NBz0.out _; (with_reducible repeat (first | refine blk_drewN ?_ _ | refine blk_drew ?_ | refine blk_alloc ?_ _)); exact BKz0.out⟩, ⟨by refine blk_far ?_ NBz1.out _; refine blk_far ?_ NBz1.out _; refine blk_far ?_ NBz1.out _; refine blk_far ?_ NBz1.out _; (with_reducible repeat (first | refine blk_drewN ?_ _ | refine blk_drew ?_ | refine blk_alloc ?_ _)); exact BKz1.out⟩, ⟨by refine blk_far ?_ NBz2.out _; refine blk_far ?_ NBz2.out _; refine blk_far ?_ NBz2.out _; refine blk_far ?_ NBz2.out _; (with_reducible repeat (first | refine blk_drewN ?_ _ | refine blk_drew ?_ | refine blk_alloc ?_ _)); exact BKz2.out⟩, ⟨by refine blk_put (cs := #[.int .i64 ((rd_T47 tz0 x25_2).f0), .int .i64 ((rd_T47 tz0 x25_2).f1), .int .i64 ((rd_T47 tz0 x25_2).f2), .int .i64 0]) ?_ 3 _ rfl; refine blk_put (cs := #[.int .i64 ((rd_T47 tz0 x25_2).f0), .int .i64 ((rd_T47 tz0 x25_2).f1), .int .i64 0, .int .i64 0]) ?_ 2 _ rfl; refine blk_put (cs := #[.int .i64 ((rd_T47 tz0 x25_2).f0), .int .i64 0, .int .i64 0, .int .i64 0]) ?_ 1 _ rfl; refine blk_put (cs := #[.int .i64 0, .int .i64 0, .int .i64 0, .int .i64 0]) ?_ 0 _ rfl; (with_reducible repeat (first | refine blk_drewN ?_ _ | refine blk_drew ?_ | refine blk_alloc ?_ _)); exact BKz3.out⟩, ⟨by repeat (with_reducible first | exact HB.out | refine below_set ?_ GEz0.out)⟩⟩
        case rest =>
         clear HC36
         try clear c1
         try clear c2
         try clear p2
         try clear c3
         try clear c4
         try clear p4
         try clear q4
         try clear hx4
         try clear c5
         try clear c6
         try clear p6
         try clear c7
         try clear c8
         try clear c9
         try clear c10
         try clear c15
         try clear c18
         try clear c23
         try clear c27
         try clear c28
         try clear c33
         try clear c33b0
         try clear c34
         try clear c34b0
         try clear c35
         try clear c35b0
         try clear c38
         try clear c39
         try clear c40
         try clear c42
         try clear c42b0
         try clear c43
         try clear c43b0
         try clear p43
         try clear q43
         try clear hx43
         try clear c44
         try clear c44b0
         try clear c45
         try clear c46
         try clear c47
         try clear c49
         try clear c50
         try clear c52
         try clear c53
         try clear c54
         try clear c56
         try clear c57
         try clear c59
         try clear c60
         try clear c61
         try clear c63
         try clear c64
         try clear p64
         try clear c66
         try clear c67
         try clear c68
         try clear c70
         try clear c71
         try clear hcz10_0
         try clear hcz10_1
         try clear hcz10_2
         try clear hcz10_3
         try clear hcz12_0
         try clear hcz12_1
         try clear hcz12_2
         try clear hcz12_3
         try clear hcz12_4
         try clear hcz12_5
         try clear hcz12_6
         try clear hcz12_7
         try clear hcz12_8
         try clear hcz13_0
         try clear hcz13_1
         try clear hcz13_2
         try clear hcz13_3
         try clear hcz16_0
         try clear hcz16_1
         try clear hcz16_2
         try clear hcz16_3
         try clear hcz24_0
         try clear hcz24_1
         try clear hcz24_2
         try clear hcz24_3
         try clear hcz24_4
         try clear hcz24_5
         try clear hcz24_6
         try clear hcz24_7
         try clear hcz24_8
         try clear hcz29_0
         try clear hcz29_1
         try clear hcz29_2
         try clear hcz29_3
         try clear hcz30_0
         try clear hcz30_1
         try clear hcz30_2
         try clear hcz30_3
         try clear hcz41_0
         try clear hcz41_1
         try clear hcz41_2
         try clear hcz41_3
         try clear hcz48_0
         try clear hcz48_1
         try clear hcz48_2
         try clear hcz48_3
         try clear hcz51_0
         try clear hcz51_1
         try clear hcz51_2
         try clear hcz51_3
         try clear hcz55_0
         try clear hcz55_1
         try clear hcz55_2
         try clear hcz55_3
         try clear hcz58_0
         try clear hcz58_1
         try clear hcz58_2
         try clear hcz58_3
         try clear hcz62_0
         try clear hcz62_1
         try clear hcz62_2
         try clear hcz62_3
         try clear hcz65_0
         try clear hcz65_1
         try clear hcz65_2
         try clear hcz65_3
         try clear hcz69_0
         try clear hcz69_1
         try clear hcz69_2
         try clear hcz69_3
         try clear hcz72_0
         try clear hcz72_1
         try clear hcz72_2
         try clear hcz72_3
         try clear hfz10_0
         try clear hfz10_1
         try clear hfz10_2
         try clear hfz10_3
         try clear hfz12_0
         try clear hfz12_1
         try clear hfz12_2
         try clear hfz12_3
         try clear hfz12_4
         try clear hfz12_5
         try clear hfz12_6
         try clear hfz12_7
         try clear hfz12_8
         try clear hfz13_0
         try clear hfz13_1
         try clear hfz13_2
         try clear hfz13_3
         try clear hfz16_0
         try clear hfz16_1
         try clear hfz16_2
         try clear hfz16_3
         try clear hfz24_0
         try clear hfz24_1
         try clear hfz24_2
         try clear hfz24_3
         try clear hfz24_4
         try clear hfz24_5
         try clear hfz24_6
         try clear hfz24_7
         try clear hfz24_8
         try clear hfz29_0
         try clear hfz29_1
         try clear hfz29_2
         try clear hfz29_3
         try clear hfz30_0
         try clear hfz30_1
         try clear hfz30_2
         try clear hfz30_3
         try clear hfz41_0
         try clear hfz41_1
         try clear hfz41_2
         try clear hfz41_3
         try clear hfz48_0
         try clear hfz48_1
         try clear hfz48_2
         try clear hfz48_3
         try clear hfz51_0
         try clear hfz51_1
         try clear hfz51_2
         try clear hfz51_3
         try clear hfz55_0
         try clear hfz55_1
         try clear hfz55_2
         try clear hfz55_3
         try clear hfz58_0
         try clear hfz58_1
         try clear hfz58_2
         try clear hfz58_3
         try clear hfz62_0
         try clear hfz62_1
         try clear hfz62_2
         try clear hfz62_3
         try clear hfz65_0
         try clear hfz65_1
         try clear hfz65_2
         try clear hfz65_3
         try clear hfz69_0
         try clear hfz69_1
         try clear hfz69_2
         try clear hfz69_3
         try clear hfz72_0
         try clear hfz72_1
         try clear hfz72_2
         try clear hfz72_3
         try clear hx43016_0
         try clear hx43016_1
         try clear hx43016_2
         try clear hx43016_3
         try clear p2
         try clear p43016
         try clear q43016
         obtain ⟨kq, x67_35, rfl, HA, HJ35, HO_5, HO_23, BKz0, BKz1, BKz2, BKz3, HB⟩ := hcut
         cases kq with
         | zero => exact absurd HA.out (by simp [impl_DirtyTiles.j2])
         | succ kj35 =>
          have H := HA.out
          clear HA
          simp only [impl_DirtyTiles.j2] at H
          by_cases c73 : x67_35 = true
          ·subst c73
           have H1 : (if x5_2.length < 17592186044416 then (impl_DirtyTiles.l0 kj35 (x5_2 ++ [x25_2]) tz0 (tz0.length : Int) (wrap64 (x25_2 + 1)) tz1 tz2 tz3 tz4) else none) = some r := by rw [if_pos rfl] at H; exact H
           clear H
           have H := H1
           clear H1
           by_cases c74 : x5_2.length < 17592186044416
           ·rw [if_pos c74] at H
            have LMc74 := mk c74
            clear c74
            obtain ⟨yz1, hyz1⟩ : ∃ y_ : List Int, y_ = (x5_2 ++ [x25_2]) := ⟨_, rfl⟩
            replace H : (impl_DirtyTiles.l0 kj35 yz1 tz0 (tz0.length : Int) (wrap64 (x25_2 + 1)) tz1 tz2 tz3 tz4) = some r := by (rw [hyz1]; with_reducible exact H)
            have Nyz1 := mk hyz1
            clear hyz1
            have H' := mk H
            clear H
            go_wp2_with (first | ((with_reducible refine gate_builtin (b := .append) (xs := #[.tmp 68, .tmp 70]) rfl ?_); at_builtin; refine Kd.R_append (Kd.int .i64) (w0 := w) w.heap.size rfl (.tmp 68) (.tmp 70) 22 3 (.int .i64 0) 8 rfl Try.underlying22 info3 rfl (by decide) (by omega) u5 x5_2 x25_2 [.int .i64 x25_2] (fun _ => True) (fun _ => False) rfl rfl ?aP (fun _ hk => hk.elim) ?aF ?aO ?aB ?aS ?aL ?_; (case aP => exact rfl); (case aB => exact HB.out); (case aF => exact (fun _ _ => trivial)); (case aO => exact HO_5.out); (case aS => exact (below_size HB.out)); (case aL => have := LMc74.out; omega); intro vz2 w75 ho hb hg hat; rw [← Nyz1.out] at ho; have n0_ := mk (Kd.R_over' HO_23.out (Kd.R_typed HO_5.out) (by decide) hg); have n1_ := mk (blk_grown (g := gbz3) (o := .cells #[.int .i64 a0_0, .int .i64 a0_1, .int .i64 a0_2, .slice A0_3 l0_3.length c0_3] 27 (0, 0)) BKz0.out hg (Kd.R_ne HO_5.out BKz0.out (by decide))); have n2_ := mk (blk_grown (g := gbz2) (o := .cells #[.int .i64 a1_0, .int .i64 a1_1, .int .i64 a1_2, .slice A1_3 l1_3.length c1_3, .int .i64 a1_4, .int .i64 a1_5, .int .i64 a1_6, .int .i64 a1_7, .bool a1_8] 55 (0, 0)) BKz1.out hg (Kd.R_ne HO_5.out BKz1.out (by decide))); have n3_ := mk (blk_grown (g := gbz1) (o := .cells #[.int .i64 tz1, .int .i64 tz2, .int .i64 tz3, .int .i64 tz4] 47 (0, 0)) BKz2.out hg (Kd.R_ne HO_5.out BKz2.out (by decide))); have n4_ := mk (blk_grown (g := gbz0) (o := .cells #[.int .i64 ((rd_T47 tz0 x25_2).f0), .int .i64 ((rd_T47 tz0 x25_2).f1), .int .i64 ((rd_T47 tz0 x25_2).f2), .int .i64 ((rd_T47 tz0 x25_2).f3)] 47 (0, 0)) BKz3.out hg (Kd.R_ne HO_5.out BKz3.out (by decide))); have n5_ := mk (hb); have n6_ := mk (ho); clear HO_23; clear BKz0; clear BKz1; clear BKz2; clear BKz3; clear HB; clear HO_5; have HO_23 := n0_; have BKz0 := n1_; have BKz1 := n2_; have BKz2 := n3_; have BKz3 := n4_; have HB := n5_; have HOz2 := n6_; clear ho hb hg hat))
            go_roundg kj35
            case measure => have := HJ2.out; have := HK2.out; have := HJ35.out; omega
            case rel => exact ⟨(yz1), (wrap64 (x25_2 + 1)), (by rfl), H', ⟨by have := HJ2.out; have := HK2.out; have := HJ35.out; omega⟩, ⟨by (with_reducible repeat (first | apply Kd.R_alloc | apply Kd.R_drewN | apply Kd.R_drew)); exact HOz2.out⟩, ⟨by (with_reducible repeat (first | apply Kd.R_alloc | apply Kd.R_drewN | apply Kd.R_drew)); exact Kd.R_mono HO_23.out (fun _ hk => hk.1)⟩, ⟨by (with_reducible repeat (first | refine blk_drewN ?_ _ | refine blk_drew ?_ | refine blk_alloc ?_ _)); exact BKz0.out⟩, ⟨by (with_reducible repeat (first | refine blk_drewN ?_ _ | refine blk_drew ?_ | refine blk_alloc ?_ _)); exact BKz1.out⟩, ⟨by (with_reducible repeat (first | refine blk_drewN ?_ _ | refine blk_drew ?_ | refine blk_alloc ?_ _)); exact BKz2.out⟩, ⟨by exact HB.out⟩⟩
           rw [if_neg c74] at H
           exact absurd H (by simp)
          replace c73 := Bool.eq_false_iff.mpr c73
          subst c73
          have H1 : (impl_DirtyTiles.l0 kj35 x5_2 tz0 (tz0.length : Int) (wrap64 (x25_2 + 1)) tz1 tz2 tz3 tz4) = some r := by rw [if_neg (show ¬ (false = true) by decide)] at H; exact H
          clear H
          have H := H1
          clear H1
          have H' := mk H
          clear H
          go_wp2
          go_roundg kj35
          case measure => have := HJ2.out; have := HK2.out; have := HJ35.out; omega
          case rel => exact ⟨(x5_2), (wrap64 (x25_2 + 1)), (by rfl), H', ⟨by have := HJ2.out; have := HK2.out; have := HJ35.out; omega⟩, ⟨by (with_reducible repeat (first | apply Kd.R_alloc | apply Kd.R_drewN | apply Kd.R_drew)); exact HO_5.out⟩, ⟨by (with_reducible repeat (first | apply Kd.R_alloc | apply Kd.R_drewN | apply Kd.R_drew)); exact Kd.R_mono HO_23.out (fun _ hk => hk.1)⟩, ⟨by (with_reducible repeat (first | refine blk_drewN ?_ _ | refine blk_drew ?_ | refine blk_alloc ?_ _)); exact BKz0.out⟩, ⟨by (with_reducible repeat (first | refine blk_drewN ?_ _ | refine blk_drew ?_ | refine blk_alloc ?_ _)); exact BKz1.out⟩, ⟨by (with_reducible repeat (first | refine blk_drewN ?_ _ | refine blk_drew ?_ | refine blk_alloc ?_ _)); exact BKz2.out⟩, ⟨by exact HB.out⟩⟩
       rw [if_neg c35] at H
       exact absurd H (by simp)
      rw [if_neg c34] at H
      exact absurd H (by simp)
     rw [if_neg c33] at H
     have c33b0 : decide (x25_2 < (tz0.length : Int)) = false := decide_eq_false c33
     clear c33
     obtain rfl := Option.some.inj H
     go_wp2
     go_ret
     exact ⟨_, by rfl, by (with_reducible repeat (first | apply Kd.R_alloc | apply Kd.R_drewN | apply Kd.R_drew)); exact HO_5.out, by exact HB.out⟩

end Go.Proofs.Ytnofkbbcbpjhfaa.Q

namespace Go.Proofs.Ytnofkbbcbpjhfaa.Q
open Go.RowKit Go.Proofs.YtnofkbbcbpjhfaaW.PrintWords Go.Proofs.YtnofkbbcbpjhfaaW.PrintLast Go.Proofs.YtnofkbbcbpjhfaaW.PrintMore
attribute [local go_sem] max2_int min2_int max_two min_two max_three min_three max_four min_four
set_option linter.unusedVariables false
set_option linter.unusedSimpArgs false
def IsS144 (w0 W : World) (g : Nat) (f0 : List Int) (f1 : Int) : Prop := ∃ A0 c0, W.heap[g]? = some (.cells #[.slice A0 f0.length c0, .int .i64 f1] 144 (0, 0)) ∧ w0.heap.size ≤ g ∧ Kd.C (Kd.int .u8) w0 A0 f0.length f0
theorem IsS144.grown {w0 W : World} {g : Nat} {f0 : List Int} {f1 : Int} {W1 : World} {row : Option Nat} (h : IsS144 w0 W g f0 f1) (hw : W.grownBy W1 row) (hne : some g ≠ row) : IsS144 w0 W1 g f0 f1 := by
 obtain ⟨A0, c0, hb, hg, hr0⟩ := h
 exact ⟨A0, c0, blk_grown hb hw hne, hg, hr0⟩
theorem IsS144.own_neN {w0 W : World} {g : Nat} {f0 : List Int} {f1 : Int} {α : Type} {d : Kd α} {e : Nat} {base : Nat} {ok : Nat → Prop} {v : Value} {xs : List α} (h : IsS144 w0 W g f0 f1) (ho : Kd.N d e W base ok v xs) (ht : e ≠ 144) : some g ≠ v.ownBlock := by
 obtain ⟨A0, c0, hb, hg, hr0⟩ := h
 exact Kd.N_ne ho hb ht
theorem IsS144.fresh {w0 W : World} {g : Nat} {f0 : List Int} {f1 : Int} (h : IsS144 w0 W g f0 f1) : ∀ k, W.heap.size ≤ k → k ≠ g := by
 obtain ⟨A0, c0, hb, hg, hr0⟩ := h
 exact Kd.freshB hb
theorem IsS144.kept {w0 W : World} {g : Nat} {f0 : List Int} {f1 : Int} {W1 : World} {S : Nat → Prop} (h : IsS144 w0 W g f0 f1) (hk : Kept W W1 S) (hne : ¬ S g) : IsS144 w0 W1 g f0 f1 := by
 obtain ⟨A0, c0, hb, hg, hr0⟩ := h
 exact ⟨A0, c0, blk_kept hb hk hne, hg, hr0⟩
theorem IsS144.below {w0 W : World} {g : Nat} {f0 : List Int} {f1 : Int} {W1 : World} (h : IsS144 w0 W g f0 f1) (hw : Below W.heap.size W W1) : IsS144 w0 W1 g f0 f1 := h.grown (grown_of_below hw none) (by simp)
theorem IsS144.alloc {w0 W : World} {g : Nat} {f0 : List Int} {f1 : Int} (h : IsS144 w0 W g f0 f1) (o : Obj) : IsS144 w0 (W.alloc o) g f0 f1 := h.below (below_alloc (Below.refl _ _) o)
theorem IsS144.drewN {w0 W : World} {g : Nat} {f0 : List Int} {f1 : Int} (h : IsS144 w0 W g f0 f1) (m : Nat) : IsS144 w0 (W.drewN m) g f0 f1 := h
theorem IsS144.drew {w0 W : World} {g : Nat} {f0 : List Int} {f1 : Int} (h : IsS144 w0 W g f0 f1) : IsS144 w0 W.drew g f0 f1 := h
theorem IsS144.at_ {w0 W : World} {g : Nat} {f0 : List Int} {f1 : Int} {w' : World} {m : Nat} (hq : W.drewN m = w') (h : IsS144 w0 W g f0 f1) : IsS144 w0 w' g f0 f1 := by subst hq; exact IsS144.drewN h m
theorem IsS144.apart {w0 W : World} {g : Nat} {f0 : List Int} {f1 : Int} {α : Type} {d : Kd α} {e : Nat} {base : Nat} {ok : Nat → Prop} {v : Value} {xs : List α} (h : IsS144 w0 W g f0 f1) (ho : d.R e W base ok v xs) (ht : ∀ q, q ∈ e :: d.E → q ≠ 144) : d.R e W base (fun k => ok k ∧ k ≠ g) v xs := by
 obtain ⟨A0, c0, hb, hg, hr0⟩ := h
 exact Kd.R_types ho hb ht
theorem IsS144.own_ne {w0 W : World} {g : Nat} {f0 : List Int} {f1 : Int} {α : Type} {d : Kd α} {e : Nat} {base : Nat} {ok : Nat → Prop} {v : Value} {xs : List α} (h : IsS144 w0 W g f0 f1) (ho : d.R e W base ok v xs) (ht : e ≠ 144) : some g ≠ v.ownBlock := by
 obtain ⟨A0, c0, hb, hg, hr0⟩ := h
 exact Kd.R_ne ho hb ht
theorem IsS144.apartQ {w0 W : World} {g : Nat} {f0 : List Int} {f1 : Int} {α : Type} {d : Kd α} {e : Nat} {base : Nat} {ok : Nat → Prop} {v : Value} {xs : List α} (h : IsS144 w0 W g f0 f1) (ho : d.Q e W base ok v xs) (ht : ∀ q, q ∈ e :: d.E → q ≠ 144) : d.Q e W base (fun k => ok k ∧ k ≠ g) v xs := by
 obtain ⟨A0, c0, hb, hg, hr0⟩ := h
 exact Kd.Q_types ho hb ht
theorem IsS144.own_neQ {w0 W : World} {g : Nat} {f0 : List Int} {f1 : Int} {α : Type} {d : Kd α} {e : Nat} {base : Nat} {ok : Nat → Prop} {v : Value} {xs : List α} (h : IsS144 w0 W g f0 f1) (ho : d.Q e W base ok v xs) (ht : e ≠ 144) : some g ≠ v.ownBlock := by
 obtain ⟨A0, c0, hb, hg, hr0⟩ := h
 exact Kd.Q_ne ho hb ht
theorem IsS144.apartS {w0 W : World} {g : Nat} {f0 : List Int} {f1 : Int} {α : Type} {d : Kd α} {e : Nat} {base : Nat} {ok : Nat → Prop} {v : Value} {xs : List α} (h : IsS144 w0 W g f0 f1) (ho : d.S e W base ok v xs) (ht : ∀ q, q ∈ e :: d.E → q ≠ 144) : d.S e W base (fun k => ok k ∧ k ≠ g) v xs := by
 obtain ⟨A0, c0, hb, hg, hr0⟩ := h
 exact Kd.S_types ho hb ht
theorem IsS144.own_neS {w0 W : World} {g : Nat} {f0 : List Int} {f1 : Int} {α : Type} {d : Kd α} {e : Nat} {base : Nat} {ok : Nat → Prop} {v : Value} {xs : List α} (h : IsS144 w0 W g f0 f1) (ho : d.S e W base ok v xs) (ht : e ≠ 144) : some g ≠ v.ownBlock := by
 obtain ⟨A0, c0, hb, hg, hr0⟩ := h
 exact Kd.S_ne ho hb ht
theorem IsS144.lt {w0 W : World} {g : Nat} {f0 : List Int} {f1 : Int} (h : IsS144 w0 W g f0 f1) : g < W.heap.size := by
 obtain ⟨A0, c0, hb, hg, hr0⟩ := h
 exact blk_lt hb
theorem IsS144.ge {w0 W : World} {g : Nat} {f0 : List Int} {f1 : Int} (h : IsS144 w0 W g f0 f1) : w0.heap.size ≤ g := by
 obtain ⟨A0, c0, hb, hg, hr0⟩ := h
 exact hg
theorem IsS144.ne_blk {w0 W : World} {g : Nat} {f0 : List Int} {f1 : Int} {a : Nat} {cs : Array Value} {t : TypeId} {fr : Nat × Nat} (h : IsS144 w0 W g f0 f1) (hb2 : W.heap[a]? = some (.cells cs t fr)) (ht : t ≠ 144) : g ≠ a := by
 obtain ⟨A0, c0, hb, hg, hr0⟩ := h
 rintro rfl
 rw [hb] at hb2
 injection hb2 with hb2
 injection hb2 with _ ht2
 exact ht ht2.symm
theorem IsS144.far {w0 W : World} {g : Nat} {f0 : List Int} {f1 : Int} {p : Addr} (h : IsS144 w0 W g f0 f1) (hne : g ≠ p.block) (u : Value) : IsS144 w0 (W.setCell p u) g f0 f1 := by
 obtain ⟨A0, c0, hb, hg, hr0⟩ := h
 exact ⟨A0, c0, blk_far hb hne u, hg, hr0⟩
theorem cellS144_0 {W : World} {g : Nat} {A0 : Option Addr} {c0 : Nat} {f0 : List Int} {f1 : Int} (h : W.heap[g]? = some (.cells #[.slice A0 f0.length c0, .int .i64 f1] 144 (0, 0))) : W.cell? ⟨g, 0, none⟩ = some (.slice A0 f0.length c0) := (blk_cell h 0).trans rfl
theorem cellS144_1 {W : World} {g : Nat} {A0 : Option Addr} {c0 : Nat} {f0 : List Int} {f1 : Int} (h : W.heap[g]? = some (.cells #[.slice A0 f0.length c0, .int .i64 f1] 144 (0, 0))) : W.cell? ⟨g, 1, none⟩ = some (.int .i64 f1) := (blk_cell h 1).trans rfl
theorem IsS144.set_1 {w0 W : World} {g : Nat} {f0 : List Int} {f1 : Int} (h : IsS144 w0 W g f0 f1) (x : Int) : IsS144 w0 (W.setCell ⟨g, 1, none⟩ (.int .i64 x)) g f0 x := by
 obtain ⟨A0, c0, hb, hg, hr0⟩ := h
 exact ⟨A0, c0, by simpa using blk_set hb 1 (.int .i64 x), hg, hr0⟩
theorem IsS144.new (w0 W : World) (A0 : Option Addr) (c0 : Nat) (f0 : List Int) (f1 : Int) (hB : Below w0.heap.size w0 W) (hr0 : Kd.C (Kd.int .u8) w0 A0 f0.length f0) : IsS144 w0 (W.alloc (.cells #[.slice A0 f0.length c0, .int .i64 f1] 144)) W.heap.size f0 f1 := ⟨A0, c0, by simpa using heap_alloc_new W _, hB.size, hr0⟩

def spec_reader_pick.j0 : Nat → Int → Bool → List Int → Int → Option (Int × Int)
 | 0, _, _, _, _ => none
 | k + 1, x1, x24, x1000, x1001 => if x24 = true then (some (0, x1001)) else (if (wrap64 (x1001 - 1)) < (x1000.length : Int) then (if 0 ≤ (wrap64 (x1001 - 1)) then (if x1 = 0 then (none) else (some (Int.tmod (wrap64 (rd x1000 (wrap64 (x1001 - 1)))) x1, x1001))) else (none)) else (if (x1000.length : Int) = 0 then (none) else (if 0 ≤ (Int.tmod (wrap64 (x1001 - 1)) (x1000.length : Int)) then (if (Int.tmod (wrap64 (x1001 - 1)) (x1000.length : Int)) < (x1000.length : Int) then (if 0 ≤ (Int.tmod (wrap64 ((wrap64 ((wrap64 (x1001 - 1)) * 7)) + 3)) (x1000.length : Int)) then (if (Int.tmod (wrap64 ((wrap64 ((wrap64 (x1001 - 1)) * 7)) + 3)) (x1000.length : Int)) < (x1000.length : Int) then (if x1 = 0 then (none) else (some (Int.tmod (Go.bits .xor .i64 (wrap64 ((wrap64 ((wrap64 ((wrap64 ((wrap64 (rd x1000 (Int.tmod (wrap64 (x1001 - 1)) (x1000.length : Int)))) * 131)) + (wrap64 ((wrap64 (rd x1000 (Int.tmod (wrap64 ((wrap64 ((wrap64 (x1001 - 1)) * 7)) + 3)) (x1000.length : Int)))) * 1117)))) + (wrap64 ((wrap64 (x1001 - 1)) * 29)))) + (wrap64 ((wrap64 (Int.tdiv (wrap64 (x1001 - 1)) (x1000.length : Int))) * 53)))) (wrap64 (Int.tdiv (wrap64 ((wrap64 ((wrap64 ((wrap64 ((wrap64 (rd x1000 (Int.tmod (wrap64 (x1001 - 1)) (x1000.length : Int)))) * 131)) + (wrap64 ((wrap64 (rd x1000 (Int.tmod (wrap64 ((wrap64 ((wrap64 (x1001 - 1)) * 7)) + 3)) (x1000.length : Int)))) * 1117)))) + (wrap64 ((wrap64 (x1001 - 1)) * 29)))) + (wrap64 ((wrap64 (Int.tdiv (wrap64 (x1001 - 1)) (x1000.length : Int))) * 53)))) 64))) x1, x1001))) else (none)) else (none)) else (none)) else (none))))
def spec_reader_pick.f (k : Nat) (s0_0 : List Int) (s0_1 : Int) (a1 : Int) : Option (Int × Int) := if a1 < 1 then (spec_reader_pick.j0 k a1 true s0_0 (wrap64 (s0_1 + 1))) else (spec_reader_pick.j0 k a1 ((s0_0.length : Int) == 0) s0_0 (wrap64 (s0_1 + 1)))
theorem spec_reader_pick.mono_l : ∀ k, (∀ y0 y1 y2 y3, LeO (spec_reader_pick.j0 k y0 y1 y2 y3) (spec_reader_pick.j0 (k + 1) y0 y1 y2 y3))
 | 0 => fun _ _ _ _ r h => by simp [spec_reader_pick.j0] at h
 | k + 1 => by
  have ih0 := spec_reader_pick.mono_l k
  ·intro y0 y1 y2 y3
   unfold spec_reader_pick.j0
   repeat' first
   | (with_reducible exact ih0 _ _ _ _)
   | (with_reducible exact LeO.refl _)
   | (with_reducible exact LeO.none _)
   | (with_reducible refine LeO.ite ?_ ?_)
   | (with_reducible refine LeO.bind ?_ (fun _ => ?_))
   | exact ih0 _ _ _ _
   | exact LeO.none _
   | refine LeO.ite ?_ ?_
   | refine LeO.bind ?_ (fun _ => ?_)
theorem spec_reader_pick.mono : ∀ a0 a1 a2 k, LeO (spec_reader_pick.f k a0 a1 a2) (spec_reader_pick.f (k + 1) a0 a1 a2) := by
 intro a0 a1 a2 k
 have ih0 := spec_reader_pick.mono_l k
 unfold spec_reader_pick.f
 repeat' first
   | (with_reducible exact ih0 _ _ _ _)
   | (with_reducible exact LeO.refl _)
   | (with_reducible exact LeO.none _)
   | (with_reducible refine LeO.ite ?_ ?_)
   | (with_reducible refine LeO.bind ?_ (fun _ => ?_))
   | exact ih0 _ _ _ _
   | exact LeO.none _
   | refine LeO.ite ?_ ?_
   | refine LeO.bind ?_ (fun _ => ?_)
set_option maxHeartbeats 8000000 in
set_option maxRecDepth 100000 in
theorem spec_reader_pick.calls (k : Nat) (g : Nat) (s0_0 : List Int) (s0_1 : Int) (a1 : Int) (r1 : Int) (r2 : Int) (w0 w : World) (hI : IsS144 w0 w g s0_0 s0_1) (hB : Below w0.heap.size w0 w) (h : spec_reader_pick.f k s0_0 s0_1 a1 = some (r1, r2)) :
  Calls Try.prog 127 #[.pointer (some ⟨g, 0, none⟩), .int .i64 a1] w fun e w' => e = .returned (.int .i64 r1) ∧ IsS144 w0 w' g s0_0 r2 ∧ Below w0.heap.size w0 w' ∧ KeepBut w w' g none := by
 have HI0 := Aside0.mk hI
 have HK := Aside0.mk (KeepBut.refl w g none)
 have HL := Aside0.mk hB.size
 clear hI
 have HW0 := Aside0.mk hB.size
 have HB := Aside0.mk hB
 clear hB
 have H : (if a1 < 1 then (spec_reader_pick.j0 k a1 true s0_0 (wrap64 (s0_1 + 1))) else (spec_reader_pick.j0 k a1 ((s0_0.length : Int) == 0) s0_0 (wrap64 (s0_1 + 1)))) = some (r1, r2) := h
 clear h
 have HC3 := Aside0.mk H
 clear H
 obtain ⟨ASz4_0, cSz4_0, HGz4, hgz4, HSz4_0⟩ := HI0.out
 have hcz4_0 := cellS144_0 HGz4
 have hcz4_1 := cellS144_1 HGz4
 have hfz4_1 := blk_frozen HGz4 1
 clear HGz4 hgz4
 go_enter Try.func127, Try.ntmps127
 go_upto_region 2 with (fail)
 repeat (go_quiet (fail); go_upto_region 2 with (fail))
 go_cut [24] (fun v24 wc => ∃ (kq : Nat) (x24_2 : Bool), v24 = .bool x24_2 ∧ Aside0 (spec_reader_pick.j0 kq a1 x24_2 s0_0 (wrap64 (s0_1 + 1)) = some (r1, r2)) ∧ Aside0 (kq ≤ k) ∧ Aside0 (IsS144 w0 wc g s0_0 (wrap64 (s0_1 + 1))) ∧ Aside0 (KeepBut w wc g none) ∧ Aside0 (Below w0.heap.size w0 wc))
 case first =>
  have H := HC3.out
  clear HC3
  by_cases c5 : a1 < 1
  ·rw [if_pos c5] at H
   have c5b0 : decide (a1 < 1) = true := decide_eq_true c5
   clear c5
   (first | rw [c5b0] | (simp only [i64_w, i32_w]; rw [c5b0]) | skip)
   have H' := Aside0.mk H
   clear H
   go_wp2
   repeat (go_quiet (fail); try go_wp2)
   go_meet
   case rel => exact ⟨_, (true), (by first | rfl | (simp; done) | (simp [*]; done)), H', ⟨by first | omega | exact Nat.le_refl _⟩, ⟨by repeat (first | (with_reducible first | exact HI0.out | apply IsS144.alloc | apply IsS144.drewN | apply IsS144.drew | apply IsS144.set_1) | exact HI0.out)⟩, ⟨by repeat (first | (with_reducible first | exact HK.out | apply KeepBut.set_ | apply keep_drewN | apply keep_drew | apply keep_alloc) | exact HK.out)⟩, ⟨by repeat (first | (with_reducible first | exact HB.out | apply below_alloc | apply pw_below_drewN | apply below_drew1 | refine below_set ?_ (IsS144.ge HI0.out)) | exact HB.out)⟩⟩
  ·rw [if_neg c5] at H
   have c5b0 : decide (a1 < 1) = false := decide_eq_false c5
   clear c5
   (first | rw [c5b0] | (simp only [i64_w, i32_w]; rw [c5b0]) | skip)
   have H' := Aside0.mk H
   clear H
   obtain ⟨ASz6_0, cSz6_0, HGz6, hgz6, HSz6_0⟩ := HI0.out
   have hcz6_0 := cellS144_0 HGz6
   have hcz6_1 := cellS144_1 HGz6
   have hfz6_1 := blk_frozen HGz6 1
   clear HGz6 hgz6
   go_wp2
   repeat (go_quiet (fail); try go_wp2)
   go_meet
   case rel => exact ⟨_, (((s0_0.length : Int) == 0)), (by first | rfl | (simp; done) | (simp [*]; done)), H', ⟨by first | omega | exact Nat.le_refl _⟩, ⟨by repeat (first | (with_reducible first | exact HI0.out | apply IsS144.alloc | apply IsS144.drewN | apply IsS144.drew | apply IsS144.set_1) | exact HI0.out)⟩, ⟨by repeat (first | (with_reducible first | exact HK.out | apply KeepBut.set_ | apply keep_drewN | apply keep_drew | apply keep_alloc) | exact HK.out)⟩, ⟨by repeat (first | (with_reducible first | exact HB.out | apply below_alloc | apply pw_below_drewN | apply below_drew1 | refine below_set ?_ (IsS144.ge HI0.out)) | exact HB.out)⟩⟩
 case rest =>
  clear HC3
  try clear c1
  try clear p2
  try clear c5
  try clear c5b0
  try clear p6
  try clear hcz4_0
  try clear hcz4_1
  try clear hcz6_0
  try clear hcz6_1
  try clear hfz4_1
  try clear hfz6_1
  obtain ⟨kq, x24_2, rfl, HA, HJ2, HI0, HK, HB⟩ := hcut
  cases kq with
  | zero => exact absurd HA.out (by simp [spec_reader_pick.j0])
  | succ kj2 =>
   have H := HA.out
   clear HA
   simp only [spec_reader_pick.j0] at H
   by_cases c7 : x24_2 = true
   ·subst c7
    have H1 : (some (0, (wrap64 (s0_1 + 1)))) = some (r1, r2) := by rw [if_pos rfl] at H; exact H
    clear H
    have H := H1
    clear H1
    simp only [Option.some.injEq, Prod.mk.injEq] at H
    obtain ⟨rfl, rfl⟩ := H
    go_wp2
    repeat (go_quiet (fail); try go_wp2)
    go_ret
    exact ⟨by first | rfl | (simp [errW_none, errW_some] <;> rfl) | (simp [*, errW_none, errW_some] <;> rfl), by repeat (first | (with_reducible first | exact HI0.out | apply IsS144.alloc | apply IsS144.drewN | apply IsS144.drew | apply IsS144.set_1) | exact HI0.out), by repeat (first | (with_reducible first | exact HB.out | apply below_alloc | apply pw_below_drewN | apply below_drew1 | refine below_set ?_ (IsS144.ge HI0.out)) | exact HB.out), by repeat (first | (with_reducible first | exact HK.out | apply KeepBut.set_ | apply keep_drewN | apply keep_drew | apply keep_alloc) | exact HK.out)⟩
   ·replace c7 := Bool.eq_false_iff.mpr c7
    subst c7
    have H1 : (if (wrap64 ((wrap64 (s0_1 + 1)) - 1)) < (s0_0.length : Int) then (if 0 ≤ (wrap64 ((wrap64 (s0_1 + 1)) - 1)) then (if a1 = 0 then (none) else (some (Int.tmod (wrap64 (rd s0_0 (wrap64 ((wrap64 (s0_1 + 1)) - 1)))) a1, (wrap64 (s0_1 + 1))))) else (none)) else (if (s0_0.length : Int) = 0 then (none) else (if 0 ≤ (Int.tmod (wrap64 ((wrap64 (s0_1 + 1)) - 1)) (s0_0.length : Int)) then (if (Int.tmod (wrap64 ((wrap64 (s0_1 + 1)) - 1)) (s0_0.length : Int)) < (s0_0.length : Int) then (if 0 ≤ (Int.tmod (wrap64 ((wrap64 ((wrap64 ((wrap64 (s0_1 + 1)) - 1)) * 7)) + 3)) (s0_0.length : Int)) then (if (Int.tmod (wrap64 ((wrap64 ((wrap64 ((wrap64 (s0_1 + 1)) - 1)) * 7)) + 3)) (s0_0.length : Int)) < (s0_0.length : Int) then (if a1 = 0 then (none) else (some (Int.tmod (Go.bits .xor .i64 (wrap64 ((wrap64 ((wrap64 ((wrap64 ((wrap64 (rd s0_0 (Int.tmod (wrap64 ((wrap64 (s0_1 + 1)) - 1)) (s0_0.length : Int)))) * 131)) + (wrap64 ((wrap64 (rd s0_0 (Int.tmod (wrap64 ((wrap64 ((wrap64 ((wrap64 (s0_1 + 1)) - 1)) * 7)) + 3)) (s0_0.length : Int)))) * 1117)))) + (wrap64 ((wrap64 ((wrap64 (s0_1 + 1)) - 1)) * 29)))) + (wrap64 ((wrap64 (Int.tdiv (wrap64 ((wrap64 (s0_1 + 1)) - 1)) (s0_0.length : Int))) * 53)))) (wrap64 (Int.tdiv (wrap64 ((wrap64 ((wrap64 ((wrap64 ((wrap64 (rd s0_0 (Int.tmod (wrap64 ((wrap64 (s0_1 + 1)) - 1)) (s0_0.length : Int)))) * 131)) + (wrap64 ((wrap64 (rd s0_0 (Int.tmod (wrap64 ((wrap64 ((wrap64 ((wrap64 (s0_1 + 1)) - 1)) * 7)) + 3)) (s0_0.length : Int)))) * 1117)))) + (wrap64 ((wrap64 ((wrap64 (s0_1 + 1)) - 1)) * 29)))) + (wrap64 ((wrap64 (Int.tdiv (wrap64 ((wrap64 (s0_1 + 1)) - 1)) (s0_0.length : Int))) * 53)))) 64))) a1, (wrap64 (s0_1 + 1))))) else (none)) else (none)) else (none)) else (none)))) = some (r1, r2) := by rw [if_neg (show ¬ (false = true) by decide)] at H; exact H
    clear H
    have H := H1
    clear H1
    by_cases c8 : (wrap64 ((wrap64 (s0_1 + 1)) - 1)) < (s0_0.length : Int)
    ·rw [if_pos c8] at H
     have c8b0 : decide ((wrap64 ((wrap64 (s0_1 + 1)) - 1)) < (s0_0.length : Int)) = true := decide_eq_true c8
     clear c8
     obtain ⟨ji9, hji9⟩ : ∃ j_ : Int, (wrap64 ((wrap64 (s0_1 + 1)) - 1)) = j_ := ⟨_, rfl⟩
     replace H : (if 0 ≤ (ji9) then (if a1 = 0 then (none) else (some (Int.tmod (wrap64 (rd s0_0 (ji9))) a1, (wrap64 (s0_1 + 1))))) else (none)) = some (r1, r2) := by first | (rw [hji9] at H; exact H) | (simp only [hji9] at H ⊢; exact H)
     (try rw [hji9] at c8b0)
     have hji9w : (IntKind.i64.wrap ((wrap64 (s0_1 + 1)) - 1)) = ji9 := (i64_w _).trans hji9
     by_cases c10 : 0 ≤ (ji9)
     ·rw [if_pos c10] at H
      have c10b0 : decide (0 ≤ (ji9)) = true := decide_eq_true c10
      clear c10
      by_cases c11 : a1 = 0
      ·rw [if_pos c11] at H
       exact absurd H (by simp)
      ·rw [if_neg c11] at H
       have c11b0 : (a1 == 0) = false := beq_eq_false_iff_ne.mpr c11
       have c11b1 : (a1 != 0) = true := bne_iff_ne.mpr c11
       simp only [Option.some.injEq, Prod.mk.injEq] at H
       obtain ⟨rfl, rfl⟩ := H
       obtain ⟨ASz12_0, cSz12_0, HGz12, hgz12, HSz12_0⟩ := HI0.out
       have hcz12_0 := cellS144_0 HGz12
       have hcz12_1 := cellS144_1 HGz12
       have hfz12_1 := blk_frozen HGz12 1
       clear HGz12 hgz12
       have p128001 : 0 ≤ ((ji9) : Int) := of_decide_eq_true (by first | (with_reducible assumption) | assumption)
       have q128001 : (ji9) < (s0_0.length : Int) := of_decide_eq_true (by first | (with_reducible assumption) | assumption)
       obtain ⟨ad128001, e128001, hx128001_0⟩ := Kd.at_int HSz12_0 (ji9) p128001 q128001
       cases e128001
       replace hx128001_0 := pw_cell_below HB.out hx128001_0
       replace p128001 := eq_true p128001
       replace q128001 := eq_true q128001
       go_wp2
       repeat (go_quiet (fail); try go_wp2)
       go_ret
       exact ⟨by first | rfl | (simp [errW_none, errW_some] <;> rfl) | (simp only [← hji9]; first | rfl | (simp [errW_none, errW_some] <;> rfl)) | (simp [*, errW_none, errW_some] <;> rfl), by repeat (first | (with_reducible first | exact HI0.out | apply IsS144.alloc | apply IsS144.drewN | apply IsS144.drew | apply IsS144.set_1) | exact HI0.out), by repeat (first | (with_reducible first | exact HB.out | apply below_alloc | apply pw_below_drewN | apply below_drew1 | refine below_set ?_ (IsS144.ge HI0.out)) | exact HB.out), by repeat (first | (with_reducible first | exact HK.out | apply KeepBut.set_ | apply keep_drewN | apply keep_drew | apply keep_alloc) | exact HK.out)⟩
     ·rw [if_neg c10] at H
      exact absurd H (by simp)
    ·rw [if_neg c8] at H
     have c8b0 : decide ((wrap64 ((wrap64 (s0_1 + 1)) - 1)) < (s0_0.length : Int)) = false := decide_eq_false c8
     clear c8
     by_cases c13 : (s0_0.length : Int) = 0
     ·rw [if_pos c13] at H
      exact absurd H (by simp)
     ·rw [if_neg c13] at H
      have c13b0 : ((s0_0.length : Int) == 0) = false := beq_eq_false_iff_ne.mpr c13
      have c13b1 : ((s0_0.length : Int) != 0) = true := bne_iff_ne.mpr c13
      have c13b2 : ¬ (s0_0 = []) := fun h_ => c13 (by rw [h_]; rfl)
      obtain ⟨ji14, hji14⟩ : ∃ j_ : Int, (Int.tmod (wrap64 ((wrap64 (s0_1 + 1)) - 1)) (s0_0.length : Int)) = j_ := ⟨_, rfl⟩
      replace H : (if 0 ≤ (ji14) then (if (ji14) < (s0_0.length : Int) then (if 0 ≤ (Int.tmod (wrap64 ((wrap64 ((wrap64 ((wrap64 (s0_1 + 1)) - 1)) * 7)) + 3)) (s0_0.length : Int)) then (if (Int.tmod (wrap64 ((wrap64 ((wrap64 ((wrap64 (s0_1 + 1)) - 1)) * 7)) + 3)) (s0_0.length : Int)) < (s0_0.length : Int) then (if a1 = 0 then (none) else (some (Int.tmod (Go.bits .xor .i64 (wrap64 ((wrap64 ((wrap64 ((wrap64 ((wrap64 (rd s0_0 (ji14))) * 131)) + (wrap64 ((wrap64 (rd s0_0 (Int.tmod (wrap64 ((wrap64 ((wrap64 ((wrap64 (s0_1 + 1)) - 1)) * 7)) + 3)) (s0_0.length : Int)))) * 1117)))) + (wrap64 ((wrap64 ((wrap64 (s0_1 + 1)) - 1)) * 29)))) + (wrap64 ((wrap64 (Int.tdiv (wrap64 ((wrap64 (s0_1 + 1)) - 1)) (s0_0.length : Int))) * 53)))) (wrap64 (Int.tdiv (wrap64 ((wrap64 ((wrap64 ((wrap64 ((wrap64 (rd s0_0 (ji14))) * 131)) + (wrap64 ((wrap64 (rd s0_0 (Int.tmod (wrap64 ((wrap64 ((wrap64 ((wrap64 (s0_1 + 1)) - 1)) * 7)) + 3)) (s0_0.length : Int)))) * 1117)))) + (wrap64 ((wrap64 ((wrap64 (s0_1 + 1)) - 1)) * 29)))) + (wrap64 ((wrap64 (Int.tdiv (wrap64 ((wrap64 (s0_1 + 1)) - 1)) (s0_0.length : Int))) * 53)))) 64))) a1, (wrap64 (s0_1 + 1))))) else (none)) else (none)) else (none)) else (none)) = some (r1, r2) := by first | (rw [hji14] at H; exact H) | (simp only [hji14] at H ⊢; exact H)
      by_cases c15 : 0 ≤ (ji14)
      ·rw [if_pos c15] at H
       have c15b0 : decide (0 ≤ (ji14)) = true := decide_eq_true c15
       clear c15
       by_cases c16 : (ji14) < (s0_0.length : Int)
       ·rw [if_pos c16] at H
        have c16b0 : decide ((ji14) < (s0_0.length : Int)) = true := decide_eq_true c16
        clear c16
        obtain ⟨ji17, hji17⟩ : ∃ j_ : Int, (Int.tmod (wrap64 ((wrap64 ((wrap64 ((wrap64 (s0_1 + 1)) - 1)) * 7)) + 3)) (s0_0.length : Int)) = j_ := ⟨_, rfl⟩
        replace H : (if 0 ≤ (ji17) then (if (ji17) < (s0_0.length : Int) then (if a1 = 0 then (none) else (some (Int.tmod (Go.bits .xor .i64 (wrap64 ((wrap64 ((wrap64 ((wrap64 ((wrap64 (rd s0_0 (ji14))) * 131)) + (wrap64 ((wrap64 (rd s0_0 (ji17))) * 1117)))) + (wrap64 ((wrap64 ((wrap64 (s0_1 + 1)) - 1)) * 29)))) + (wrap64 ((wrap64 (Int.tdiv (wrap64 ((wrap64 (s0_1 + 1)) - 1)) (s0_0.length : Int))) * 53)))) (wrap64 (Int.tdiv (wrap64 ((wrap64 ((wrap64 ((wrap64 ((wrap64 (rd s0_0 (ji14))) * 131)) + (wrap64 ((wrap64 (rd s0_0 (ji17))) * 1117)))) + (wrap64 ((wrap64 ((wrap64 (s0_1 + 1)) - 1)) * 29)))) + (wrap64 ((wrap64 (Int.tdiv (wrap64 ((wrap64 (s0_1 + 1)) - 1)) (s0_0.length : Int))) * 53)))) 64))) a1, (wrap64 (s0_1 + 1))))) else (none)) else (none)) = some (r1, r2) := by first | (rw [hji17] at H; exact H) | (simp only [hji17] at H ⊢; exact H)
        by_cases c18 : 0 ≤ (ji17)
        ·rw [if_pos c18] at H
         have c18b0 : decide (0 ≤ (ji17)) = true := decide_eq_true c18
         clear c18
         by_cases c19 : (ji17) < (s0_0.length : Int)
         ·rw [if_pos c19] at H
          have c19b0 : decide ((ji17) < (s0_0.length : Int)) = true := decide_eq_true c19
          clear c19
          by_cases c20 : a1 = 0
          ·rw [if_pos c20] at H
           exact absurd H (by simp)
          ·rw [if_neg c20] at H
           have c20b0 : (a1 == 0) = false := beq_eq_false_iff_ne.mpr c20
           have c20b1 : (a1 != 0) = true := bne_iff_ne.mpr c20
           simp only [Option.some.injEq, Prod.mk.injEq] at H
           obtain ⟨rfl, rfl⟩ := H
           obtain ⟨ASz21_0, cSz21_0, HGz21, hgz21, HSz21_0⟩ := HI0.out
           have hcz21_0 := cellS144_0 HGz21
           have hcz21_1 := cellS144_1 HGz21
           have hfz21_1 := blk_frozen HGz21 1
           clear HGz21 hgz21
           have p128002 : 0 ≤ ((ji14) : Int) := of_decide_eq_true (by first | (with_reducible assumption) | assumption)
           have q128002 : (ji14) < (s0_0.length : Int) := of_decide_eq_true (by first | (with_reducible assumption) | assumption)
           obtain ⟨ad128002, e128002, hx128002_0⟩ := Kd.at_int HSz21_0 (ji14) p128002 q128002
           cases e128002
           replace hx128002_0 := pw_cell_below HB.out hx128002_0
           replace p128002 := eq_true p128002
           replace q128002 := eq_true q128002
           have p128003 : 0 ≤ ((ji17) : Int) := of_decide_eq_true (by first | (with_reducible assumption) | assumption)
           have q128003 : (ji17) < (s0_0.length : Int) := of_decide_eq_true (by first | (with_reducible assumption) | assumption)
           obtain ⟨ad128003, e128003, hx128003_0⟩ := Kd.at_int HSz21_0 (ji17) p128003 q128003
           obtain rfl : ad128002 = ad128003 := (by injection e128003)
           replace hx128003_0 := pw_cell_below HB.out hx128003_0
           replace p128003 := eq_true p128003
           replace q128003 := eq_true q128003
           go_wp2
           repeat (go_quiet (fail); try go_wp2)
           go_ret
           exact ⟨by first | rfl | (simp [errW_none, errW_some] <;> rfl) | (simp only [← hji14, ← hji17]; first | rfl | (simp [errW_none, errW_some] <;> rfl)) | (simp [*, errW_none, errW_some] <;> rfl), by repeat (first | (with_reducible first | exact HI0.out | apply IsS144.alloc | apply IsS144.drewN | apply IsS144.drew | apply IsS144.set_1) | exact HI0.out), by repeat (first | (with_reducible first | exact HB.out | apply below_alloc | apply pw_below_drewN | apply below_drew1 | refine below_set ?_ (IsS144.ge HI0.out)) | exact HB.out), by repeat (first | (with_reducible first | exact HK.out | apply KeepBut.set_ | apply keep_drewN | apply keep_drew | apply keep_alloc) | exact HK.out)⟩
         ·rw [if_neg c19] at H
          exact absurd H (by simp)
        ·rw [if_neg c18] at H
         exact absurd H (by simp)
       ·rw [if_neg c16] at H
        exact absurd H (by simp)
      ·rw [if_neg c15] at H
       exact absurd H (by simp)

end Go.Proofs.Ytnofkbbcbpjhfaa.Q

namespace Go.Proofs.Ytnofkbbcbpjhfaa.Q
open Go.RowKit Go.Proofs.YtnofkbbcbpjhfaaW.PrintWords Go.Proofs.YtnofkbbcbpjhfaaW.PrintLast Go.Proofs.YtnofkbbcbpjhfaaW.PrintMore
open Go.Proofs.YtnofkbbcbpjhfaaW.PrintWords.Aside0 (mk)
attribute [local go_sem] max2_int min2_int max_two min_two max_three min_three max_four min_four
set_option linter.unusedVariables false
set_option linter.unusedSimpArgs false
def spec_newReader.f (l0 : List Int) : Option (List Int × Int) := if (l0.length : Int) > 2000 then (if 2000 ≤ (l0.length : Int) then (some (l0.take 2000, 0)) else (none)) else (some (l0, 0))
set_option maxHeartbeats 8000000 in
set_option maxRecDepth 100000 in
theorem spec_newReader.calls (A0 : Option Addr) (c0 : Nat) (l0 : List Int) (r1 : List Int) (r2 : Int) (w0 w : World) (hB : Below w0.heap.size w0 w) (hr0 : Kd.C (Kd.int .u8) w0 A0 l0.length l0) (hc0 : l0.length ≤ c0) (h : spec_newReader.f l0 = some (r1, r2)) :
  Calls Try.prog 86 #[.slice A0 l0.length c0] w fun e w' => ∃ g_ : Nat, e = .returned (.pointer (some ⟨g_, 0, none⟩)) ∧ IsS144 w0 w' g_ r1 r2 ∧ Below w0.heap.size w0 w' ∧ Below w.heap.size w w' := by
 have hu144 := Try.underlying144
 have HR0 := mk hr0
 have HC0 := mk hc0
 clear hr0 hc0
 have HBW := mk (Below.refl w.heap.size w)
 have HW0 := mk hB.size
 have HB := mk hB
 clear hB
 have H : (if (l0.length : Int) > 2000 then (if 2000 ≤ (l0.length : Int) then (some (l0.take 2000, 0)) else (none)) else (some (l0, 0))) = some (r1, r2) := h
 clear h
 by_cases c2 : (l0.length : Int) > 2000
 ·rw [if_pos c2] at H
  have c2b0 : decide (2000 < (l0.length : Int)) = true := decide_eq_true c2
  have c2b1 : decide (2000 < l0.length) = true := decide_eq_true (by omega)
  clear c2
  by_cases c3 : 2000 ≤ (l0.length : Int)
  ·rw [if_pos c3] at H
   have c3b0 := eq_true c3
   have c3b1 : decide (2000 ≤ (l0.length : Int)) = true := decide_eq_true c3
   clear c3
   simp only [Option.some.injEq, Prod.mk.injEq] at H
   obtain ⟨rfl, rfl⟩ := H
   obtain ⟨i04, hi04, _, hsz4, _⟩ := info_parts info5
   obtain ⟨hcut4, hA4, hC4⟩ := print_take_of (P := Try.prog) (Value.int .u8) 0 31 5 .i64 Try.underlying31 hi04 hsz4 A0 c0 l0 2000 (by omega) (of_decide_eq_true (by first | (with_reducible assumption) | assumption)) HC0.out
   have HR87001 := mk (Kd.C_of_reads (h1 := fun _ => rfl) (hA4 _ (Kd.reads_of_C HR0.out)))
   have HC87001 := mk hC4
   clear hA4 hC4 hi04 hsz4
   go_enter Try.func86, Try.ntmps86
   go_wp2_with (first | ((with_reducible refine gate_dst (N := 10) rfl ?_); refine box_event ?hg (N := 10) ?hd (cs := #[.slice A0 (l0.take 2000).length c0, .int .i64 0]) (t := 144) ?hr ?_; (case hd => rfl); (case hg => rfl); (case hr => first | (go_simp; done) | (go_simp; rfl)); intro gb87002 hg w5 hbox hb; have n0_ := mk (below_step HBW.out hb); have n1_ := mk (below_step (by repeat (first | (with_reducible first | exact HB.out | apply below_alloc | apply pw_below_drewN | apply below_drew1) | exact HB.out)) hb); have n2_ := mk (hbox); have n3_ := mk ((by rw [hg]; exact (below_size (by repeat (first | (with_reducible first | exact HBW.out | apply below_alloc | apply pw_below_drewN | apply below_drew1) | exact HBW.out))) : w.heap.size ≤ gb87002)); have n4_ := mk ((Nat.le_trans HW0.out (by rw [hg]; exact (below_size (by repeat (first | (with_reducible first | exact HBW.out | apply below_alloc | apply pw_below_drewN | apply below_drew1) | exact HBW.out))) : w.heap.size ≤ gb87002) : w0.heap.size ≤ gb87002)); clear HBW; clear HB; have HBW := n0_; have HB := n1_; have BK87002 := n2_; have GW87002 := n3_; have GE87002 := n4_; clear n0_ n1_ n2_ n3_ n4_; clear hb hbox hg))
   go_ret
   exact ⟨_, rfl, (show IsS144 w0 _ gb87002 (l0.take 2000) 0 from ⟨_, _, by (with_reducible repeat (first | refine blk_drewN ?_ _ | refine blk_drew ?_ | refine blk_alloc ?_ _)); exact BK87002.out, GE87002.out, HR87001.out⟩), by repeat (first | (with_reducible first | exact HB.out | apply below_alloc | apply pw_below_drewN | apply below_drew1 | refine below_set ?_ GE87002.out) | exact HB.out), by repeat (first | (with_reducible first | exact HBW.out | apply below_alloc | apply pw_below_drewN | apply below_drew1 | refine below_set ?_ GW87002.out) | exact HBW.out)⟩
  ·rw [if_neg c3] at H
   exact absurd H (by simp)
 ·rw [if_neg c2] at H
  have c2b0 : decide (2000 < (l0.length : Int)) = false := decide_eq_false c2
  have c2b1 : decide (2000 < l0.length) = false := decide_eq_false (by omega)
  clear c2
  simp only [Option.some.injEq, Prod.mk.injEq] at H
  obtain ⟨rfl, rfl⟩ := H
  go_enter Try.func86, Try.ntmps86
  go_wp2_with (first | ((with_reducible refine gate_dst (N := 10) rfl ?_); refine box_event ?hg (N := 10) ?hd (cs := #[.slice A0 l0.length c0, .int .i64 0]) (t := 144) ?hr ?_; (case hd => rfl); (case hg => rfl); (case hr => first | (go_simp; done) | (go_simp; rfl)); intro gb87003 hg w6 hbox hb; have n0_ := mk (below_step HBW.out hb); have n1_ := mk (below_step (by repeat (first | (with_reducible first | exact HB.out | apply below_alloc | apply pw_below_drewN | apply below_drew1) | exact HB.out)) hb); have n2_ := mk (hbox); have n3_ := mk ((by rw [hg]; exact (below_size (by repeat (first | (with_reducible first | exact HBW.out | apply below_alloc | apply pw_below_drewN | apply below_drew1) | exact HBW.out))) : w.heap.size ≤ gb87003)); have n4_ := mk ((Nat.le_trans HW0.out (by rw [hg]; exact (below_size (by repeat (first | (with_reducible first | exact HBW.out | apply below_alloc | apply pw_below_drewN | apply below_drew1) | exact HBW.out))) : w.heap.size ≤ gb87003) : w0.heap.size ≤ gb87003)); clear HBW; clear HB; have HBW := n0_; have HB := n1_; have BK87003 := n2_; have GW87003 := n3_; have GE87003 := n4_; clear n0_ n1_ n2_ n3_ n4_; clear hb hbox hg))
  go_ret
  exact ⟨_, rfl, (show IsS144 w0 _ gb87003 l0 0 from ⟨_, _, by (with_reducible repeat (first | refine blk_drewN ?_ _ | refine blk_drew ?_ | refine blk_alloc ?_ _)); exact BK87003.out, GE87003.out, HR0.out⟩), by repeat (first | (with_reducible first | exact HB.out | apply below_alloc | apply pw_below_drewN | apply below_drew1 | refine below_set ?_ GE87003.out) | exact HB.out), by repeat (first | (with_reducible first | exact HBW.out | apply below_alloc | apply pw_below_drewN | apply below_drew1 | refine below_set ?_ GW87003.out) | exact HBW.out)⟩

end Go.Proofs.Ytnofkbbcbpjhfaa.Q

namespace Go.Proofs.Ytnofkbbcbpjhfaa.Q
open Go.RowKit Go.Proofs.YtnofkbbcbpjhfaaW.PrintWords Go.Proofs.YtnofkbbcbpjhfaaW.PrintLast Go.Proofs.YtnofkbbcbpjhfaaW.PrintMore
attribute [local go_sem] max2_int min2_int max_two min_two max_three min_three max_four min_four
set_option linter.unusedVariables false
set_option linter.unusedSimpArgs false
def spec_reader_one.f (k : Nat) (s0_0 : List Int) (s0_1 : Int) (l1 : List Int) : Option (Int × Int) := (spec_reader_pick.f k s0_0 s0_1 (l1.length : Int)).bind fun bt148001 => (if 0 ≤ bt148001.1 then (if bt148001.1 < (l1.length : Int) then (some (rd l1 bt148001.1, bt148001.2)) else (none)) else (none))
theorem spec_reader_one.mono : ∀ a0 a1 a2 k, LeO (spec_reader_one.f k a0 a1 a2) (spec_reader_one.f (k + 1) a0 a1 a2) := by
 intro a0 a1 a2 k
 unfold spec_reader_one.f
 repeat' first
   | (with_reducible exact spec_reader_pick.mono _ _ _ _)
   | (with_reducible exact LeO.refl _)
   | (with_reducible exact LeO.none _)
   | (with_reducible refine LeO.ite ?_ ?_)
   | (with_reducible refine LeO.bind ?_ (fun _ => ?_))
   | exact spec_reader_pick.mono _ _ _ _
   | exact LeO.none _
   | refine LeO.ite ?_ ?_
   | refine LeO.bind ?_ (fun _ => ?_)
set_option maxHeartbeats 8000000 in
set_option maxRecDepth 100000 in
theorem spec_reader_one.calls (k : Nat) (g : Nat) (s0_0 : List Int) (s0_1 : Int) (A1 : Option Addr) (c1 : Nat) (l1 : List Int) (r1 : Int) (r2 : Int) (w0 w : World) (hI : IsS144 w0 w g s0_0 s0_1) (hB : Below w0.heap.size w0 w) (hr1 : Kd.C (Kd.int .i64) w A1 l1.length l1) (hc1 : l1.length ≤ c1) (hf1 : ∀ ad, A1 = some ad → 0 < l1.length → ad.block ≠ g) (h : spec_reader_one.f k s0_0 s0_1 l1 = some (r1, r2)) :
  Calls Try.prog 147 #[.pointer (some ⟨g, 0, none⟩), .slice A1 l1.length c1] w fun e w' => e = .returned (.int .i64 r1) ∧ IsS144 w0 w' g s0_0 r2 ∧ Below w0.heap.size w0 w' ∧ KeepBut w w' g none := by
 have HR1 := Aside0.mk hr1
 have HC1 := Aside0.mk hc1
 clear hr1 hc1
 have HI0 := Aside0.mk hI
 have HK := Aside0.mk (KeepBut.refl w g none)
 have HL := Aside0.mk hB.size
 clear hI
 have HW0 := Aside0.mk hB.size
 have HB := Aside0.mk hB
 clear hB
 have H : ((spec_reader_pick.f k s0_0 s0_1 (l1.length : Int)).bind fun bt148001 => (if 0 ≤ bt148001.1 then (if bt148001.1 < (l1.length : Int) then (some (rd l1 bt148001.1, bt148001.2)) else (none)) else (none))) = some (r1, r2) := h
 clear h
 replace H := Option.bind_eq_some_iff.mp H
 obtain ⟨⟨t148001, t148002⟩, A30, H⟩ := H
 replace H : (if 0 ≤ t148001 then (if t148001 < (l1.length : Int) then (some (rd l1 t148001, t148002)) else (none)) else (none)) = some (r1, r2) := H
 have A3 := Aside0.mk A30
 clear A30
 by_cases c4 : 0 ≤ t148001
 ·rw [if_pos c4] at H
  have c4b0 : decide (0 ≤ t148001) = true := decide_eq_true c4
  clear c4
  by_cases c5 : t148001 < (l1.length : Int)
  ·rw [if_pos c5] at H
   have c5b0 : decide (t148001 < (l1.length : Int)) = true := decide_eq_true c5
   clear c5
   simp only [Option.some.injEq, Prod.mk.injEq] at H
   obtain ⟨rfl, rfl⟩ := H
   go_enter Try.func147, Try.ntmps147
   go_wp2_with (first | ((with_reducible refine gate_callee (f := 127) rfl ?_); refine goesL_ (some 9) rfl rfl Try.func127 (by kernel_rfl) rfl #[.pointer (some ⟨g, 0, none⟩), .int .i64 (l1.length : Int)] rfl (by (try simp only [List.map_toArray, List.map_cons, List.map_nil]); first | done | rfl | (simp only [List.length_drop, List.length_take]; rfl)) ?_; (with_reducible refine (spec_reader_pick.calls k g s0_0 s0_1 (l1.length : Int) t148001 t148002 w0 _ ?side1 ?side2 A3.out).mono ?_); (case side1 => repeat (first | (with_reducible first | exact HI0.out | apply IsS144.alloc | apply IsS144.drewN | apply IsS144.drew | apply IsS144.set_1) | exact HI0.out)); (case side2 => repeat (first | (with_reducible first | exact HB.out | apply below_alloc | apply pw_below_drewN | apply below_drew1 | refine below_set ?_ (IsS144.ge HI0.out)) | exact HB.out)); rintro e w6 ⟨rfl, hi, hb, hk⟩; refine ⟨_, rfl, ?_⟩; have n0_ := Aside0.mk (KeepBut.trans (by repeat (first | (with_reducible first | exact HK.out | apply KeepBut.set_ | apply keep_drewN | apply keep_drew | apply keep_alloc) | exact HK.out)) hk (.inl rfl)); have n1_ := Aside0.mk (hb); have n2_ := Aside0.mk (hi); clear HK; clear HB; clear HI0; have HK := n0_; have HB := n1_; have HI0 := n2_; clear n0_ n1_ n2_; (try clear hb); (try clear hb2); (try clear hk); (try clear hi); have p148003 : 0 ≤ (t148001 : Int) := of_decide_eq_true (by first | (with_reducible assumption) | assumption); have q148003 : t148001 < (l1.length : Int) := of_decide_eq_true (by first | (with_reducible assumption) | assumption); obtain ⟨ad148003, e148003, hx148003_0⟩ := Kd.at_int HR1.out t148001 p148003 q148003; cases e148003; replace hx148003_0 := keep_cell HK.out hx148003_0 (by first | (rw [add_block]; exact hf1 _ rfl (by omega)) | exact hf1 _ rfl (by omega) | exact hf1 ad148003 rfl (by omega)); replace p148003 := eq_true p148003; replace q148003 := eq_true q148003))
   go_ret
   exact ⟨by first | rfl | (simp [errW_none, errW_some] <;> rfl) | (simp [*, errW_none, errW_some] <;> rfl), by repeat (first | (with_reducible first | exact HI0.out | apply IsS144.alloc | apply IsS144.drewN | apply IsS144.drew | apply IsS144.set_1) | exact HI0.out), by repeat (first | (with_reducible first | exact HB.out | apply below_alloc | apply pw_below_drewN | apply below_drew1 | refine below_set ?_ (IsS144.ge HI0.out)) | exact HB.out), by repeat (first | (with_reducible first | exact HK.out | apply KeepBut.set_ | apply keep_drewN | apply keep_drew | apply keep_alloc) | exact HK.out)⟩
  ·rw [if_neg c5] at H
   exact absurd H (by simp)
 ·rw [if_neg c4] at H
  exact absurd H (by simp)

end Go.Proofs.Ytnofkbbcbpjhfaa.Q

namespace Go.Proofs.Ytnofkbbcbpjhfaa.Q
open Go.RowKit Go.Proofs.YtnofkbbcbpjhfaaW.PrintWords Go.Proofs.YtnofkbbcbpjhfaaW.PrintLast Go.Proofs.YtnofkbbcbpjhfaaW.PrintMore
open Go.Proofs.YtnofkbbcbpjhfaaW.PrintWords.Aside0 (mk)
attribute [local go_sem] max2_int min2_int max_two min_two max_three min_three max_four min_four
set_option linter.unusedVariables false
set_option linter.unusedSimpArgs false
def spec_spoilImage.f (k : Nat) (s0_0 : List Int) (s0_1 : Int) (a1_0 : Int) (a1_1 : Int) (a1_2 : Int) (l1_3 : List Int) : Option (Int × Int × Int × List Int × Int) := (spec_reader_pick.f k s0_0 s0_1 40).bind fun btz0 => (if btz0.1 = 0 then ((spec_reader_one.f k s0_0 btz0.2 (([0, 17, wrap64 (a1_0 + 1)] : List Int))).bind fun btz1 => (some (btz1.1, a1_1, a1_2, l1_3, btz1.2))) else (if btz0.1 = 1 then (if 1 ≤ (l1_3.length : Int) then (some (a1_0, a1_1, a1_2, (l1_3.drop (1 : Int).toNat), btz0.2)) else none) else (if btz0.1 = 2 then ((spec_reader_one.f k s0_0 btz0.2 (([(-1), 256] : List Int))).bind fun btz2 => (if 0 < (l1_3.length : Int) then (some (a1_0, a1_1, a1_2, (l1_3.set (0 : Int).toNat btz2.1), btz2.2)) else none)) else (if btz0.1 = 3 then ((spec_reader_one.f k s0_0 btz0.2 ([0, 5] : List Int)).bind fun btz3 => (some (a1_0, a1_1, btz3.1, l1_3, btz3.2))) else (some (a1_0, a1_1, a1_2, l1_3, btz0.2))))))
theorem spec_spoilImage.mono : ∀ a0 a1 a2 a3 a4 a5 k, LeO (spec_spoilImage.f k a0 a1 a2 a3 a4 a5) (spec_spoilImage.f (k + 1) a0 a1 a2 a3 a4 a5) := by
 intro a0 a1 a2 a3 a4 a5 k
 unfold spec_spoilImage.f
 repeat' first | (with_reducible exact spec_reader_one.mono _ _ _ _) | (with_reducible exact spec_reader_pick.mono _ _ _ _) | (with_reducible exact LeO.refl _) | (with_reducible refine LeO.ite ?_ ?_) | (with_reducible refine LeO.bind ?_ (fun _ => ?_))
set_option maxHeartbeats 8000000 in
set_option maxRecDepth 100000 in
theorem spec_spoilImage.calls (k : Nat) (g : Nat) (s0_0 : List Int) (s0_1 : Int) (a1_0 : Int) (a1_1 : Int) (a1_2 : Int) (P1_3_ : Nat → Prop) (u9000_ : Value) (l1_3 : List Int) (r1 : Int) (r2 : Int) (r3 : Int) (r4 : List Int) (r5 : Int) (w0 w : World) (hI : IsS144 w0 w g s0_0 s0_1) (hB : Below w0.heap.size w0 w) (ho1_3 : Kd.R (Kd.int .i64) 3 w w0.heap.size P1_3_ u9000_ l1_3) (h : spec_spoilImage.f k s0_0 s0_1 a1_0 a1_1 a1_2 l1_3 = some (r1, r2, r3, r4, r5)) :
  Calls Try.prog 136 #[.pointer (some ⟨g, 0, none⟩), .agg #[.int .i64 a1_0, .int .i64 a1_1, .int .i64 a1_2, u9000_]] w fun e w' => ∃ v3_ : Value, e = .returned (.agg #[.int .i64 r1, .int .i64 r2, .int .i64 r3, v3_]) ∧ Kd.Q (Kd.int .i64) 3 w' w0.heap.size (fun k_ => (P1_3_ k_ ∨ w.heap.size ≤ k_)) v3_ r4 ∧ IsS144 w0 w' g s0_0 r5 ∧ Below w0.heap.size w0 w' ∧ Kept w w' (fun k_ => (P1_3_ k_) ∨ k_ = g) := by
 have hu27 := Try.underlying27
 have HO1_3 := mk (show Kd.R (Kd.int .i64) 3 w w0.heap.size (fun k_ => (P1_3_ k_ ∨ w.heap.size ≤ k_)) u9000_ l1_3 from Kd.R_mono ho1_3 (fun k_ hk => (.inl hk)))
 have HI0 := mk hI
 have HL := mk hB.size
 clear hI
 have HK := mk (Kept.refl w (fun k_ => (P1_3_ k_) ∨ k_ = g))
 have HW0 := mk hB.size
 have HB := mk hB
 clear hB
 have H : ((spec_reader_pick.f k s0_0 s0_1 40).bind fun btz0 => (if btz0.1 = 0 then ((spec_reader_one.f k s0_0 btz0.2 (([0, 17, wrap64 (a1_0 + 1)] : List Int))).bind fun btz1 => (some (btz1.1, a1_1, a1_2, l1_3, btz1.2))) else (if btz0.1 = 1 then (if 1 ≤ (l1_3.length : Int) then (some (a1_0, a1_1, a1_2, (l1_3.drop (1 : Int).toNat), btz0.2)) else none) else (if btz0.1 = 2 then ((spec_reader_one.f k s0_0 btz0.2 (([(-1), 256] : List Int))).bind fun btz2 => (if 0 < (l1_3.length : Int) then (some (a1_0, a1_1, a1_2, (l1_3.set (0 : Int).toNat btz2.1), btz2.2)) else none)) else (if btz0.1 = 3 then ((spec_reader_one.f k s0_0 btz0.2 ([0, 5] : List Int)).bind fun btz3 => (some (a1_0, a1_1, btz3.1, l1_3, btz3.2))) else (some (a1_0, a1_1, a1_2, l1_3, btz0.2))))))) = some (r1, r2, r3, r4, r5) := h
 clear h
 replace H := Option.bind_eq_some_iff.mp H
 obtain ⟨⟨tz0, tz1⟩, A30, H⟩ := H
 replace H : (if tz0 = 0 then ((spec_reader_one.f k s0_0 tz1 (([0, 17, wrap64 (a1_0 + 1)] : List Int))).bind fun btz1 => (some (btz1.1, a1_1, a1_2, l1_3, btz1.2))) else (if tz0 = 1 then (if 1 ≤ (l1_3.length : Int) then (some (a1_0, a1_1, a1_2, (l1_3.drop (1 : Int).toNat), tz1)) else none) else (if tz0 = 2 then ((spec_reader_one.f k s0_0 tz1 (([(-1), 256] : List Int))).bind fun btz2 => (if 0 < (l1_3.length : Int) then (some (a1_0, a1_1, a1_2, (l1_3.set (0 : Int).toNat btz2.1), btz2.2)) else none)) else (if tz0 = 3 then ((spec_reader_one.f k s0_0 tz1 ([0, 5] : List Int)).bind fun btz3 => (some (a1_0, a1_1, btz3.1, l1_3, btz3.2))) else (some (a1_0, a1_1, a1_2, l1_3, tz1)))))) = some (r1, r2, r3, r4, r5) := H
 have A3 := mk A30
 clear A30
 by_cases c4 : tz0 = 0
 ·rw [if_pos c4] at H
  have c4b0 : (tz0 == 0) = true := beq_iff_eq.mpr c4
  have c4b1 : (tz0 != 0) = false := bne_eq_false_iff_eq.mpr c4
  clear c4
  obtain ⟨yz2, hyz0⟩ : ∃ y_ : List Int, y_ = (([0, 17, wrap64 (a1_0 + 1)] : List Int)) := ⟨_, rfl⟩
  replace H : ((spec_reader_one.f k s0_0 tz1 yz2).bind fun btz1 => (some (btz1.1, a1_1, a1_2, l1_3, btz1.2))) = some (r1, r2, r3, r4, r5) := by (rw [hyz0]; with_reducible exact H)
  have Nyz1 := mk hyz0
  clear hyz0
  replace H := Option.bind_eq_some_iff.mp H
  obtain ⟨⟨tz3, tz6⟩, A50, H⟩ := H
  replace H : (some (tz3, a1_1, a1_2, l1_3, tz6)) = some (r1, r2, r3, r4, r5) := H
  have A5 := mk A50
  clear A50
  simp only [Option.some.injEq, Prod.mk.injEq] at H
  obtain ⟨rfl, rfl, rfl, rfl, rfl⟩ := H
  obtain ⟨Ao6, co6, eo6⟩ := Kd.R_slice HO1_3.out
  subst eo6
  go_enter Try.func136, Try.ntmps136
  go_wp2_with (first | ((with_reducible refine gate_dst (N := 3) rfl ?_); refine box_event (by rfl) (N := 3) (by rfl) (cs := #[.int .i64 a1_0, .int .i64 a1_1, .int .i64 a1_2, .slice Ao6 l1_3.length co6]) (t := 27) (by go_simp; done) ?_; intro gbz1 hg w7 hbox hb; have n0_ := mk (Kd.R_below HO1_3.out hb); have n1_ := mk (IsS144.below HI0.out hb); have n2_ := mk (Kept.below (S := (fun k_ => (P1_3_ k_) ∨ k_ = g)) HK.out hb); have n3_ := mk (below_step HB.out hb); have n4_ := mk (hbox); have n5_ := mk (by rw [hg]; exact HK.out.1 : w.heap.size ≤ gbz1); have n6_ := mk ((by rw [hg]; exact (below_size HB.out) : w0.heap.size ≤ gbz1)); have n7_ := mk ((by rw [hg]; exact Nat.ne_of_lt (IsS144.lt (show IsS144 w0 _ g s0_0 s0_1 from by exact HI0.out)) : g ≠ gbz1)); have n8_ := mk ((by rw [hg]; exact Nat.ne_of_gt (IsS144.lt (show IsS144 w0 _ g s0_0 s0_1 from by exact HI0.out)) : gbz1 ≠ g)); clear HO1_3; clear HI0; clear HK; clear HB; have HO1_3 := n0_; have HI0 := n1_; have HK := n2_; have HB := n3_; have BKz0 := n4_; have GWz1 := n5_; have GEz1 := n6_; have NBz5 := n7_; have NBz1 := n8_; clear n0_ n1_ n2_ n3_ n4_ n5_ n6_ n7_ n8_; clear hb hbox hg) | ((with_reducible refine gate_dst (N := 4) rfl ?_); refine box_event (by rfl) (N := 4) (by rfl) (cs := #[.int .i64 0, .int .i64 0, .int .i64 0, .slice none 0 0]) (t := 27) (by go_simp; done) ?_; intro gbz0 hg w8 hbox hb; have n0_ := mk (Kd.R_below HO1_3.out hb); have n1_ := mk (IsS144.below HI0.out hb); have n2_ := mk (blk_below BKz0.out hb); have n3_ := mk (Kept.below (S := (fun k_ => (P1_3_ k_) ∨ k_ = g)) HK.out hb); have n4_ := mk (below_step HB.out hb); have n5_ := mk (hbox); have n6_ := mk (by rw [hg]; exact HK.out.1 : w.heap.size ≤ gbz0); have n7_ := mk ((by rw [hg]; exact (below_size HB.out) : w0.heap.size ≤ gbz0)); have n8_ := mk ((by rw [hg]; exact Nat.ne_of_lt (blk_lt BKz0.out) : gbz1 ≠ gbz0)); have n9_ := mk ((by rw [hg]; exact Nat.ne_of_gt (blk_lt BKz0.out) : gbz0 ≠ gbz1)); have n10_ := mk ((by rw [hg]; exact Nat.ne_of_lt (IsS144.lt (show IsS144 w0 _ g s0_0 s0_1 from by exact HI0.out)) : g ≠ gbz0)); have n11_ := mk ((by rw [hg]; exact Nat.ne_of_gt (IsS144.lt (show IsS144 w0 _ g s0_0 s0_1 from by exact HI0.out)) : gbz0 ≠ g)); clear HO1_3; clear HI0; clear BKz0; clear HK; clear HB; have HO1_3 := n0_; have HI0 := n1_; have BKz0 := n2_; have HK := n3_; have HB := n4_; have BKz1 := n5_; have GWz0 := n6_; have GEz0 := n7_; have NBz3 := n8_; have NBz0 := n9_; have NBz4 := n10_; have NBz2 := n11_; clear n0_ n1_ n2_ n3_ n4_ n5_ n6_ n7_ n8_ n9_ n10_ n11_; clear hb hbox hg) | ((with_reducible refine gate_callee (f := 127) rfl ?_); refine goesL_ (some 6) rfl rfl Try.func127 (by kernel_rfl) rfl #[.pointer (some ⟨g, 0, none⟩), .int .i64 40] rfl (by (try simp only [List.map_toArray, List.map_cons, List.map_nil]); rfl) ?_; (with_reducible refine (spec_reader_pick.calls k g s0_0 s0_1 40 tz0 tz1 w0 _ ?side1 ?side2 A3.out).mono ?_); (case side1 => repeat (with_reducible exact HI0.out)); (case side2 => repeat (with_reducible exact HB.out)); rintro e w9 ⟨rfl, hi, hb, hk⟩; refine ⟨_, rfl, ?_⟩; have n0_ := mk (Kd.R_mono (Kd.R_keep (IsS144.apart (show IsS144 w0 _ g s0_0 s0_1 from by exact HI0.out) HO1_3.out (by decide)) hk (fun _ h => h.2)) (fun _ h => h.1)); have n1_ := mk (KeepBut.blk hk (g' := gbz1) (o := .cells #[.int .i64 a1_0, .int .i64 a1_1, .int .i64 a1_2, .slice Ao6 l1_3.length co6] 27 (0, 0)) BKz0.out NBz1.out (by simp)); have n2_ := mk (KeepBut.blk hk (g' := gbz0) (o := .cells #[.int .i64 0, .int .i64 0, .int .i64 0, .slice none 0 0] 27 (0, 0)) BKz1.out NBz2.out (by simp)); have n3_ := mk (Kept.of_keep (S := (fun k_ => (P1_3_ k_) ∨ k_ = g)) HK.out hk (.inl (.inr rfl))); have n4_ := mk (hb); have n5_ := mk (hi); clear HO1_3; clear BKz0; clear BKz1; clear HK; clear HB; clear HI0; have HO1_3 := n0_; have BKz0 := n1_; have BKz1 := n2_; have HK := n3_; have HB := n4_; have HI0 := n5_; clear n0_ n1_ n2_ n3_ n4_ n5_; (try clear hb); (try clear hk); (try clear hi); have hnb10 := NBz3.out; have hnc10 := NBz0.out; have hnb11 := NBz1.out; have hnc11 := NBz5.out; have hcz12_0 : w9.cell? ⟨gbz1, 0, none⟩ = some (.int .i64 a1_0) := (blk_cell BKz0.out 0).trans rfl; have hcz12_1 : w9.cell? ⟨gbz1, 1, none⟩ = some (.int .i64 a1_1) := (blk_cell BKz0.out 1).trans rfl; have hcz12_2 : w9.cell? ⟨gbz1, 2, none⟩ = some (.int .i64 a1_2) := (blk_cell BKz0.out 2).trans rfl; have hcz12_3 : w9.cell? ⟨gbz1, 3, none⟩ = some (.slice Ao6 l1_3.length co6) := (blk_cell BKz0.out 3).trans rfl; have hfz12_0 := blk_frozen BKz0.out 0; have hfz12_1 := blk_frozen BKz0.out 1; have hfz12_2 := blk_frozen BKz0.out 2; have hfz12_3 := blk_frozen BKz0.out 3) | ((with_reducible refine gate_dst (N := 13) rfl ?_); refine Kd.R_lit (Kd.int .i64) _ 3 ?hg (N := 13) ?hd (xs := ([0, 17, wrap64 (a1_0 + 1)] : List Int)) (inner := [.int .i64 0, .int .i64 17, .int .i64 (wrap64 (a1_0 + 1))]) (ok := fun _ => True) (okp := fun _ => True) ?hr ?hp (fun _ hk => hk) trivial (Below.refl _ _) (Nat.le_refl _) (by simp) ?_; (case hd => rfl); (case hg => rfl); (case hr => (go_simp; done)); (case hp => exact (Reps.one (show Kd.M (Kd.int .i64) _ _ _ 0 [.int .i64 0] from rfl) (Reps.one (show Kd.M (Kd.int .i64) _ _ _ 17 [.int .i64 17] from rfl) (Reps.one (show Kd.M (Kd.int .i64) _ _ _ (wrap64 (a1_0 + 1)) [.int .i64 (wrap64 (a1_0 + 1))] from rfl) (Reps.none _ _))))); intro vz0 w13 ho14 hb hg_ hnew_; clear hg_ hnew_; (rw [← Nyz1.out] at ho14); have n0_ := mk (Kd.R_elder' HO1_3.out (Kd.R_base ho14) hb); have n1_ := mk (Kd.R_lower (Kd.R_new' (Kd.R_newM (M := fun k_ => (P1_3_ k_ ∨ w.heap.size ≤ k_)) ho14 HK.out.1 (fun k_ h_ => .inr h_)) (Kd.R_lt HO1_3.out)) (below_size HB.out)); have n2_ := mk (IsS144.below HI0.out hb); have n3_ := mk (blk_below BKz0.out hb); have n4_ := mk (blk_below BKz1.out hb); have n5_ := mk (Kept.below (S := (fun k_ => (P1_3_ k_) ∨ k_ = g)) HK.out hb); have n6_ := mk (below_step HB.out hb); clear HO1_3; clear HI0; clear BKz0; clear BKz1; clear HK; clear HB; have HO1_3 := n0_; have HOz1 := n1_; have HI0 := n2_; have BKz0 := n3_; have BKz1 := n4_; have HK := n5_; have HB := n6_; clear n0_ n1_ n2_ n3_ n4_ n5_ n6_; clear hb ho14; obtain ⟨Ao15, co15, eo15⟩ := Kd.R_slice HOz1.out; subst eo15) | ((with_reducible refine gate_callee (f := 147) rfl ?_); refine goesL_ (some 14) rfl rfl Try.func147 (by kernel_rfl) rfl #[.pointer (some ⟨g, 0, none⟩), .slice Ao15 yz2.length co15] rfl (by (try simp only [List.map_toArray, List.map_cons, List.map_nil]); rfl) ?_; (with_reducible refine (spec_reader_one.calls k g s0_0 tz1 _ _ yz2 tz3 tz6 w0 _ ?side1 ?side2 ?side3 ?side4 ?side5 A5.out).mono ?_); (case side1 => repeat (with_reducible exact HI0.out)); (case side2 => repeat (with_reducible exact HB.out)); (case side3 => repeat (exact (Kd.R_reads' HOz1.out).2.2)); (case side4 => exact (Kd.R_reads' HOz1.out).2.1); (case side5 => exact far_slice (IsS144.own_ne HI0.out HOz1.out (by decide))); rintro e w16 ⟨rfl, hi, hb, hk⟩; refine ⟨_, rfl, ?_⟩; have n0_ := mk (Kd.R_mono (Kd.R_keep (IsS144.apart (show IsS144 w0 _ g s0_0 tz1 from by exact HI0.out) HO1_3.out (by decide)) hk (fun _ h => h.2)) (fun _ h => h.1)); have n1_ := mk (KeepBut.blk hk (g' := gbz1) (o := .cells #[.int .i64 a1_0, .int .i64 a1_1, .int .i64 a1_2, .slice Ao6 l1_3.length co6] 27 (0, 0)) BKz0.out NBz1.out (by simp)); have n2_ := mk (KeepBut.blk hk (g' := gbz0) (o := .cells #[.int .i64 0, .int .i64 0, .int .i64 0, .slice none 0 0] 27 (0, 0)) BKz1.out NBz2.out (by simp)); have n3_ := mk (Kd.R_mono (Kd.R_keep (IsS144.apart (show IsS144 w0 _ g s0_0 tz1 from by exact HI0.out) HOz1.out (by decide)) hk (fun _ h => h.2)) (fun _ h => h.1)); have n4_ := mk (Kept.of_keep (S := (fun k_ => (P1_3_ k_) ∨ k_ = g)) HK.out hk (.inl (.inr rfl))); have n5_ := mk (hb); have n6_ := mk (hi); clear HO1_3; clear BKz0; clear BKz1; clear HOz1; clear HK; clear HB; clear HI0; have HO1_3 := n0_; have BKz0 := n1_; have BKz1 := n2_; have HOz1 := n3_; have HK := n4_; have HB := n5_; have HI0 := n6_; clear n0_ n1_ n2_ n3_ n4_ n5_ n6_; (try clear hb); (try clear hk); (try clear hi); have hcz17_0 : w16.cell? ⟨gbz1, 0, none⟩ = some (.int .i64 a1_0) := (blk_cell BKz0.out 0).trans rfl; have hcz17_1 : w16.cell? ⟨gbz1, 1, none⟩ = some (.int .i64 a1_1) := (blk_cell BKz0.out 1).trans rfl; have hcz17_2 : w16.cell? ⟨gbz1, 2, none⟩ = some (.int .i64 a1_2) := (blk_cell BKz0.out 2).trans rfl; have hcz17_3 : w16.cell? ⟨gbz1, 3, none⟩ = some (.slice Ao6 l1_3.length co6) := (blk_cell BKz0.out 3).trans rfl; have hfz17_0 := blk_frozen BKz0.out 0; have hfz17_1 := blk_frozen BKz0.out 1; have hfz17_2 := blk_frozen BKz0.out 2; have hfz17_3 := blk_frozen BKz0.out 3; have hnb18 := NBz2.out; have hnc18 := NBz4.out; have hcz19_0 : w16.cell? ⟨gbz0, 0, none⟩ = some (.int .i64 0) := (blk_cell BKz1.out 0).trans rfl; have hcz19_1 : w16.cell? ⟨gbz0, 1, none⟩ = some (.int .i64 0) := (blk_cell BKz1.out 1).trans rfl; have hcz19_2 : w16.cell? ⟨gbz0, 2, none⟩ = some (.int .i64 0) := (blk_cell BKz1.out 2).trans rfl; have hcz19_3 : w16.cell? ⟨gbz0, 3, none⟩ = some (.slice none 0 0) := (blk_cell BKz1.out 3).trans rfl; have hfz19_0 := blk_frozen BKz1.out 0; have hfz19_1 := blk_frozen BKz1.out 1; have hfz19_2 := blk_frozen BKz1.out 2; have hfz19_3 := blk_frozen BKz1.out 3))
  refine bodyPost_ret (results_cell_row rfl _ _ gbz0 27 #[.int .i64 tz3, .int .i64 a1_1, .int .i64 a1_2, .slice Ao6 l1_3.length co6] (0, 0) _ rfl (by refine blk_put (cs := #[.int .i64 tz3, .int .i64 a1_1, .int .i64 a1_2, .slice none 0 0]) ?_ 3 _ rfl; refine blk_put (cs := #[.int .i64 tz3, .int .i64 a1_1, .int .i64 0, .slice none 0 0]) ?_ 2 _ rfl; refine blk_put (cs := #[.int .i64 tz3, .int .i64 0, .int .i64 0, .slice none 0 0]) ?_ 1 _ rfl; refine blk_put (cs := #[.int .i64 0, .int .i64 0, .int .i64 0, .slice none 0 0]) ?_ 0 _ rfl; refine blk_far ?_ NBz0.out _; (with_reducible repeat (first | refine blk_drewN ?_ _ | refine blk_drew ?_ | refine blk_alloc ?_ _)); exact BKz1.out) Try.underlying27 rfl (by kernel_rfl)) rfl ?_
  exact ⟨_, by rfl, Kd.Q_of_R (by exact Kd.R_mono (Kd.R_far (p := ⟨gbz0, 3, none⟩) (Kd.R_far (p := ⟨gbz0, 2, none⟩) (Kd.R_far (p := ⟨gbz0, 1, none⟩) (Kd.R_far (p := ⟨gbz0, 0, none⟩) (Kd.R_far (p := ⟨gbz1, 0, none⟩) (Kd.R_types (Kd.R_types HO1_3.out BKz0.out (by decide)) BKz1.out (by decide)) (fun _ hk => hk.1.2) (.int .i64 tz3)) (fun _ hk => hk.2) (.int .i64 tz3)) (fun _ hk => hk.2) (.int .i64 a1_1)) (fun _ hk => hk.2) (.int .i64 a1_2)) (fun _ hk => hk.2) (.slice Ao6 l1_3.length co6)) (fun _ hk => hk.1.1.1)), by repeat (with_reducible first | exact HI0.out | refine IsS144.far ?_ NBz5.out _ | refine IsS144.far ?_ NBz4.out _), by repeat (with_reducible first | exact HB.out | refine below_set ?_ GEz1.out | refine below_set ?_ GEz0.out), by repeat ((with_reducible first | exact HK.out | refine Kept.setCell ?_ (.inr GWz1.out) _ | refine Kept.setCell ?_ (.inr GWz0.out) _))⟩
 rw [if_neg c4] at H
 have c4b0 : (tz0 == 0) = false := beq_eq_false_iff_ne.mpr c4
 have c4b1 : (tz0 != 0) = true := bne_iff_ne.mpr c4
 by_cases c20 : tz0 = 1
 ·rw [if_pos c20] at H
  have c20b0 : (tz0 == 1) = true := beq_iff_eq.mpr c20
  have c20b1 : (tz0 != 1) = false := bne_eq_false_iff_eq.mpr c20
  clear c20
  by_cases c21 : 1 ≤ (l1_3.length : Int)
  ·rw [if_pos c21] at H
   have c21b0 := eq_true c21
   have c21b1 : decide (1 ≤ (l1_3.length : Int)) = true := decide_eq_true c21
   clear c21
   obtain ⟨yz0, hyz1⟩ : ∃ y_ : List Int, y_ = (l1_3.drop (1 : Int).toNat) := ⟨_, rfl⟩
   replace H : (some (a1_0, a1_1, a1_2, yz0, tz1)) = some (r1, r2, r3, r4, r5) := by (rw [hyz1]; with_reducible exact H)
   have Nyz0 := mk hyz1
   clear hyz1
   simp only [Option.some.injEq, Prod.mk.injEq] at H
   obtain ⟨rfl, rfl, rfl, rfl, rfl⟩ := H
   obtain ⟨Ao22, co22, eo22⟩ := Kd.R_slice HO1_3.out
   subst eo22
   go_enter Try.func136, Try.ntmps136
   go_wp2_with (first | ((with_reducible refine gate_dst (N := 3) rfl ?_); refine box_event (by rfl) (N := 3) (by rfl) (cs := #[.int .i64 a1_0, .int .i64 a1_1, .int .i64 a1_2, .slice Ao22 l1_3.length co22]) (t := 27) (by go_simp; done) ?_; intro gbz1 hg w23 hbox hb; have n0_ := mk (Kd.R_below HO1_3.out hb); have n1_ := mk (IsS144.below HI0.out hb); have n2_ := mk (Kept.below (S := (fun k_ => (P1_3_ k_) ∨ k_ = g)) HK.out hb); have n3_ := mk (below_step HB.out hb); have n4_ := mk (hbox); have n5_ := mk (by rw [hg]; exact HK.out.1 : w.heap.size ≤ gbz1); have n6_ := mk ((by rw [hg]; exact (below_size HB.out) : w0.heap.size ≤ gbz1)); have n7_ := mk ((by rw [hg]; exact Nat.ne_of_lt (IsS144.lt (show IsS144 w0 _ g s0_0 s0_1 from by exact HI0.out)) : g ≠ gbz1)); have n8_ := mk ((by rw [hg]; exact Nat.ne_of_gt (IsS144.lt (show IsS144 w0 _ g s0_0 s0_1 from by exact HI0.out)) : gbz1 ≠ g)); clear HO1_3; clear HI0; clear HK; clear HB; have HO1_3 := n0_; have HI0 := n1_; have HK := n2_; have HB := n3_; have BKz0 := n4_; have GWz1 := n5_; have GEz1 := n6_; have NBz5 := n7_; have NBz1 := n8_; clear n0_ n1_ n2_ n3_ n4_ n5_ n6_ n7_ n8_; clear hb hbox hg) | ((with_reducible refine gate_dst (N := 4) rfl ?_); refine box_event (by rfl) (N := 4) (by rfl) (cs := #[.int .i64 0, .int .i64 0, .int .i64 0, .slice none 0 0]) (t := 27) (by go_simp; done) ?_; intro gbz0 hg w24 hbox hb; have n0_ := mk (Kd.R_below HO1_3.out hb); have n1_ := mk (IsS144.below HI0.out hb); have n2_ := mk (blk_below BKz0.out hb); have n3_ := mk (Kept.below (S := (fun k_ => (P1_3_ k_) ∨ k_ = g)) HK.out hb); have n4_ := mk (below_step HB.out hb); have n5_ := mk (hbox); have n6_ := mk (by rw [hg]; exact HK.out.1 : w.heap.size ≤ gbz0); have n7_ := mk ((by rw [hg]; exact (below_size HB.out) : w0.heap.size ≤ gbz0)); have n8_ := mk ((by rw [hg]; exact Nat.ne_of_lt (blk_lt BKz0.out) : gbz1 ≠ gbz0)); have n9_ := mk ((by rw [hg]; exact Nat.ne_of_gt (blk_lt BKz0.out) : gbz0 ≠ gbz1)); have n10_ := mk ((by rw [hg]; exact Nat.ne_of_lt (IsS144.lt (show IsS144 w0 _ g s0_0 s0_1 from by exact HI0.out)) : g ≠ gbz0)); have n11_ := mk ((by rw [hg]; exact Nat.ne_of_gt (IsS144.lt (show IsS144 w0 _ g s0_0 s0_1 from by exact HI0.out)) : gbz0 ≠ g)); clear HO1_3; clear HI0; clear BKz0; clear HK; clear HB; have HO1_3 := n0_; have HI0 := n1_; have BKz0 := n2_; have HK := n3_; have HB := n4_; have BKz1 := n5_; have GWz0 := n6_; have GEz0 := n7_; have NBz3 := n8_; have NBz0 := n9_; have NBz4 := n10_; have NBz2 := n11_; clear n0_ n1_ n2_ n3_ n4_ n5_ n6_ n7_ n8_ n9_ n10_ n11_; clear hb hbox hg) | ((with_reducible refine gate_callee (f := 127) rfl ?_); refine goesL_ (some 6) rfl rfl Try.func127 (by kernel_rfl) rfl #[.pointer (some ⟨g, 0, none⟩), .int .i64 40] rfl (by (try simp only [List.map_toArray, List.map_cons, List.map_nil]); rfl) ?_; (with_reducible refine (spec_reader_pick.calls k g s0_0 s0_1 40 tz0 tz1 w0 _ ?side1 ?side2 A3.out).mono ?_); (case side1 => repeat (with_reducible exact HI0.out)); (case side2 => repeat (with_reducible exact HB.out)); rintro e w25 ⟨rfl, hi, hb, hk⟩; refine ⟨_, rfl, ?_⟩; have n0_ := mk (Kd.R_mono (Kd.R_keep (IsS144.apart (show IsS144 w0 _ g s0_0 s0_1 from by exact HI0.out) HO1_3.out (by decide)) hk (fun _ h => h.2)) (fun _ h => h.1)); have n1_ := mk (KeepBut.blk hk (g' := gbz1) (o := .cells #[.int .i64 a1_0, .int .i64 a1_1, .int .i64 a1_2, .slice Ao22 l1_3.length co22] 27 (0, 0)) BKz0.out NBz1.out (by simp)); have n2_ := mk (KeepBut.blk hk (g' := gbz0) (o := .cells #[.int .i64 0, .int .i64 0, .int .i64 0, .slice none 0 0] 27 (0, 0)) BKz1.out NBz2.out (by simp)); have n3_ := mk (Kept.of_keep (S := (fun k_ => (P1_3_ k_) ∨ k_ = g)) HK.out hk (.inl (.inr rfl))); have n4_ := mk (hb); have n5_ := mk (hi); clear HO1_3; clear BKz0; clear BKz1; clear HK; clear HB; clear HI0; have HO1_3 := n0_; have BKz0 := n1_; have BKz1 := n2_; have HK := n3_; have HB := n4_; have HI0 := n5_; clear n0_ n1_ n2_ n3_ n4_ n5_; (try clear hb); (try clear hk); (try clear hi); have hnb26 := NBz3.out; have hnc26 := NBz0.out; have hnb27 := NBz1.out; have hnc27 := NBz5.out; have hcz28_0 : w25.cell? ⟨gbz1, 0, none⟩ = some (.int .i64 a1_0) := (blk_cell BKz0.out 0).trans rfl; have hcz28_1 : w25.cell? ⟨gbz1, 1, none⟩ = some (.int .i64 a1_1) := (blk_cell BKz0.out 1).trans rfl; have hcz28_2 : w25.cell? ⟨gbz1, 2, none⟩ = some (.int .i64 a1_2) := (blk_cell BKz0.out 2).trans rfl; have hcz28_3 : w25.cell? ⟨gbz1, 3, none⟩ = some (.slice Ao22 l1_3.length co22) := (blk_cell BKz0.out 3).trans rfl; have hfz28_0 := blk_frozen BKz0.out 0; have hfz28_1 := blk_frozen BKz0.out 1; have hfz28_2 := blk_frozen BKz0.out 2; have hfz28_3 := blk_frozen BKz0.out 3; have q29 : (1 : Int) ≤ ((l1_3.length : Int) : Int) := of_decide_eq_true (by (with_reducible assumption)); obtain ⟨i029, hi029, _, hsz29, _⟩ := info_parts info3; have hcut29 := cut_from (P := Try.prog) 22 3 .i64 Try.underlying22 hi029 1 hsz29 Ao22 l1_3.length co22 1 (by omega) q29; have hr29 := Kd.Q_drop (k := (1 : Int).toNat) (Kd.Q_of_R HO1_3.out) (by omega); obtain ⟨A29, hA29⟩ : ∃ A1, A1 = (if co22 = (1 : Int).toNat then Ao22 else (Ao22 : Option Addr).map (·.add ((1 : Int).toNat * 1))) := ⟨_, rfl⟩; obtain ⟨c29, hc29⟩ : ∃ c1, c1 = co22 - (1 : Int).toNat := ⟨_, rfl⟩; have hy29 : yz0.length = l1_3.length - (1 : Int).toNat := (by rw [Nyz0.out, List.length_drop]); rw [← Nyz0.out] at hr29; rw [← hy29, ← hA29, ← hc29] at hcut29; replace hr29 : Kd.Q (Kd.int .i64) 3 w25 w0.heap.size (fun k_ => (P1_3_ k_ ∨ w.heap.size ≤ k_)) (.slice A29 yz0.length c29) yz0 := (by rw [hA29, hc29, hy29]; exact hr29); have HE29 : Aside0 ((Value.slice A29 yz0.length c29).ownBlock = (.slice Ao22 l1_3.length co22 : Value).ownBlock) := ⟨by rw [hA29]; split <;> (cases (Ao22 : Option Addr) <;> rfl)⟩; clear hy29 hi029 hsz29 HO1_3 hA29 hc29; have HOz3 := mk hr29; clear hr29; replace q29 := eq_true q29; have hnb30 := NBz2.out; have hnc30 := NBz4.out; have hcz31_0 : w25.cell? ⟨gbz0, 0, none⟩ = some (.int .i64 0) := (blk_cell BKz1.out 0).trans rfl; have hcz31_1 : w25.cell? ⟨gbz0, 1, none⟩ = some (.int .i64 0) := (blk_cell BKz1.out 1).trans rfl; have hcz31_2 : w25.cell? ⟨gbz0, 2, none⟩ = some (.int .i64 0) := (blk_cell BKz1.out 2).trans rfl; have hcz31_3 : w25.cell? ⟨gbz0, 3, none⟩ = some (.slice none 0 0) := (blk_cell BKz1.out 3).trans rfl; have hfz31_0 := blk_frozen BKz1.out 0; have hfz31_1 := blk_frozen BKz1.out 1; have hfz31_2 := blk_frozen BKz1.out 2; have hfz31_3 := blk_frozen BKz1.out 3))
   refine bodyPost_ret (results_cell_row rfl _ _ gbz0 27 #[.int .i64 a1_0, .int .i64 a1_1, .int .i64 a1_2, .slice A29 yz0.length c29] (0, 0) _ rfl (by refine blk_put (cs := #[.int .i64 a1_0, .int .i64 a1_1, .int .i64 a1_2, .slice none 0 0]) ?_ 3 _ rfl; refine blk_put (cs := #[.int .i64 a1_0, .int .i64 a1_1, .int .i64 0, .slice none 0 0]) ?_ 2 _ rfl; refine blk_put (cs := #[.int .i64 a1_0, .int .i64 0, .int .i64 0, .slice none 0 0]) ?_ 1 _ rfl; refine blk_put (cs := #[.int .i64 0, .int .i64 0, .int .i64 0, .slice none 0 0]) ?_ 0 _ rfl; refine blk_far ?_ NBz0.out _; (with_reducible repeat (first | refine blk_drewN ?_ _ | refine blk_drew ?_ | refine blk_alloc ?_ _)); exact BKz1.out) Try.underlying27 rfl (by kernel_rfl)) rfl ?_
   exact ⟨_, by rfl, by (with_reducible repeat (first | apply Kd.Q_alloc | apply Kd.Q_drewN | apply Kd.Q_drew)); exact Kd.Q_mono (Kd.Q_far (p := ⟨gbz0, 3, none⟩) (Kd.Q_far (p := ⟨gbz0, 2, none⟩) (Kd.Q_far (p := ⟨gbz0, 1, none⟩) (Kd.Q_far (p := ⟨gbz0, 0, none⟩) (Kd.Q_far (p := ⟨gbz1, 3, none⟩) (Kd.Q_types (Kd.Q_types HOz3.out BKz0.out (by decide)) BKz1.out (by decide)) (fun _ hk => hk.1.2) (.slice A29 yz0.length c29)) (fun _ hk => hk.2) (.int .i64 a1_0)) (fun _ hk => hk.2) (.int .i64 a1_1)) (fun _ hk => hk.2) (.int .i64 a1_2)) (fun _ hk => hk.2) (.slice A29 yz0.length c29)) (fun _ hk => hk.1.1), by repeat (with_reducible first | exact HI0.out | refine IsS144.far ?_ NBz5.out _ | refine IsS144.far ?_ NBz4.out _), by repeat (with_reducible first | exact HB.out | refine below_set ?_ GEz1.out | refine below_set ?_ GEz0.out), by repeat ((with_reducible first | exact HK.out | refine Kept.setCell ?_ (.inr GWz1.out) _ | refine Kept.setCell ?_ (.inr GWz0.out) _))⟩
  rw [if_neg c21] at H
  exact absurd H (by simp)
 rw [if_neg c20] at H
 have c20b0 : (tz0 == 1) = false := beq_eq_false_iff_ne.mpr c20
 have c20b1 : (tz0 != 1) = true := bne_iff_ne.mpr c20
 by_cases c32 : tz0 = 2
 ·rw [if_pos c32] at H
  have c32b0 : (tz0 == 2) = true := beq_iff_eq.mpr c32
  have c32b1 : (tz0 != 2) = false := bne_eq_false_iff_eq.mpr c32
  clear c32
  obtain ⟨yz1, hyz2⟩ : ∃ y_ : List Int, y_ = (([(-1), 256] : List Int)) := ⟨_, rfl⟩
  replace H : ((spec_reader_one.f k s0_0 tz1 yz1).bind fun btz2 => (if 0 < (l1_3.length : Int) then (some (a1_0, a1_1, a1_2, (l1_3.set (0 : Int).toNat btz2.1), btz2.2)) else none)) = some (r1, r2, r3, r4, r5) := by (rw [hyz2]; with_reducible exact H)
  have Nyz2 := mk hyz2
  clear hyz2
  replace H := Option.bind_eq_some_iff.mp H
  obtain ⟨⟨tz2, tz5⟩, A330, H⟩ := H
  replace H : (if 0 < (l1_3.length : Int) then (some (a1_0, a1_1, a1_2, (l1_3.set (0 : Int).toNat tz2), tz5)) else none) = some (r1, r2, r3, r4, r5) := H
  have A33 := mk A330
  clear A330
  by_cases c34 : 0 < (l1_3.length : Int)
  ·rw [if_pos c34] at H
   have c34b0 : decide (0 < (l1_3.length : Int)) = true := decide_eq_true c34
   have c34b1 : decide (0 < l1_3.length) = true := decide_eq_true (by omega)
   clear c34
   obtain ⟨yz4, hyz3⟩ : ∃ y_ : List Int, y_ = (l1_3.set (0 : Int).toNat tz2) := ⟨_, rfl⟩
   replace H : (some (a1_0, a1_1, a1_2, yz4, tz5)) = some (r1, r2, r3, r4, r5) := by (rw [hyz3]; with_reducible exact H)
   have Nyz3 := mk hyz3
   clear hyz3
   simp only [Option.some.injEq, Prod.mk.injEq] at H
   obtain ⟨rfl, rfl, rfl, rfl, rfl⟩ := H
   obtain ⟨Ao36, co36, eo36⟩ := Kd.R_slice HO1_3.out
   subst eo36
   go_enter Try.func136, Try.ntmps136
   try go_wp2_with (first | ((with_reducible refine gate_dst (N := 3) rfl ?_); refine box_event (by rfl) (N := 3) (by rfl) (cs := #[.int .i64 a1_0, .int .i64 a1_1, .int .i64 a1_2, .slice Ao36 l1_3.length co36]) (t := 27) (by go_simp; done) ?_; intro gbz1 hg w37 hbox hb; have n0_ := mk (Kd.R_below HO1_3.out hb); have n1_ := mk (IsS144.below HI0.out hb); have n2_ := mk (Kept.below (S := (fun k_ => (P1_3_ k_) ∨ k_ = g)) HK.out hb); have n3_ := mk (below_step HB.out hb); have n4_ := mk (hbox); have n5_ := mk (by rw [hg]; exact HK.out.1 : w.heap.size ≤ gbz1); have n6_ := mk ((by rw [hg]; exact (below_size HB.out) : w0.heap.size ≤ gbz1)); have n7_ := mk ((by rw [hg]; exact Nat.ne_of_lt (IsS144.lt (show IsS144 w0 _ g s0_0 s0_1 from by exact HI0.out)) : g ≠ gbz1)); have n8_ := mk ((by rw [hg]; exact Nat.ne_of_gt (IsS144.lt (show IsS144 w0 _ g s0_0 s0_1 from by exact HI0.out)) : gbz1 ≠ g)); clear HO1_3; clear HI0; clear HK; clear HB; have HO1_3 := n0_; have HI0 := n1_; have HK := n2_; have HB := n3_; have BKz0 := n4_; have GWz1 := n5_; have GEz1 := n6_; have NBz5 := n7_; have NBz1 := n8_; clear n0_ n1_ n2_ n3_ n4_ n5_ n6_ n7_ n8_; clear hb hbox hg) | ((with_reducible refine gate_dst (N := 4) rfl ?_); refine box_event (by rfl) (N := 4) (by rfl) (cs := #[.int .i64 0, .int .i64 0, .int .i64 0, .slice none 0 0]) (t := 27) (by go_simp; done) ?_; intro gbz0 hg w38 hbox hb; have n0_ := mk (Kd.R_below HO1_3.out hb); have n1_ := mk (IsS144.below HI0.out hb); have n2_ := mk (blk_below BKz0.out hb); have n3_ := mk (Kept.below (S := (fun k_ => (P1_3_ k_) ∨ k_ = g)) HK.out hb); have n4_ := mk (below_step HB.out hb); have n5_ := mk (hbox); have n6_ := mk (by rw [hg]; exact HK.out.1 : w.heap.size ≤ gbz0); have n7_ := mk ((by rw [hg]; exact (below_size HB.out) : w0.heap.size ≤ gbz0)); have n8_ := mk ((by rw [hg]; exact Nat.ne_of_lt (blk_lt BKz0.out) : gbz1 ≠ gbz0)); have n9_ := mk ((by rw [hg]; exact Nat.ne_of_gt (blk_lt BKz0.out) : gbz0 ≠ gbz1)); have n10_ := mk ((by rw [hg]; exact Nat.ne_of_lt (IsS144.lt (show IsS144 w0 _ g s0_0 s0_1 from by exact HI0.out)) : g ≠ gbz0)); have n11_ := mk ((by rw [hg]; exact Nat.ne_of_gt (IsS144.lt (show IsS144 w0 _ g s0_0 s0_1 from by exact HI0.out)) : gbz0 ≠ g)); clear HO1_3; clear HI0; clear BKz0; clear HK; clear HB; have HO1_3 := n0_; have HI0 := n1_; have BKz0 := n2_; have HK := n3_; have HB := n4_; have BKz1 := n5_; have GWz0 := n6_; have GEz0 := n7_; have NBz3 := n8_; have NBz0 := n9_; have NBz4 := n10_; have NBz2 := n11_; clear n0_ n1_ n2_ n3_ n4_ n5_ n6_ n7_ n8_ n9_ n10_ n11_; clear hb hbox hg) | ((with_reducible refine gate_callee (f := 127) rfl ?_); refine goesL_ (some 6) rfl rfl Try.func127 (by kernel_rfl) rfl #[.pointer (some ⟨g, 0, none⟩), .int .i64 40] rfl (by (try simp only [List.map_toArray, List.map_cons, List.map_nil]); rfl) ?_; (with_reducible refine (spec_reader_pick.calls k g s0_0 s0_1 40 tz0 tz1 w0 _ ?side1 ?side2 A3.out).mono ?_); (case side1 => repeat (with_reducible exact HI0.out)); (case side2 => repeat (with_reducible exact HB.out)); rintro e w39 ⟨rfl, hi, hb, hk⟩; refine ⟨_, rfl, ?_⟩; have n0_ := mk (Kd.R_mono (Kd.R_keep (IsS144.apart (show IsS144 w0 _ g s0_0 s0_1 from by exact HI0.out) HO1_3.out (by decide)) hk (fun _ h => h.2)) (fun _ h => h.1)); have n1_ := mk (KeepBut.blk hk (g' := gbz1) (o := .cells #[.int .i64 a1_0, .int .i64 a1_1, .int .i64 a1_2, .slice Ao36 l1_3.length co36] 27 (0, 0)) BKz0.out NBz1.out (by simp)); have n2_ := mk (KeepBut.blk hk (g' := gbz0) (o := .cells #[.int .i64 0, .int .i64 0, .int .i64 0, .slice none 0 0] 27 (0, 0)) BKz1.out NBz2.out (by simp)); have n3_ := mk (Kept.of_keep (S := (fun k_ => (P1_3_ k_) ∨ k_ = g)) HK.out hk (.inl (.inr rfl))); have n4_ := mk (hb); have n5_ := mk (hi); clear HO1_3; clear BKz0; clear BKz1; clear HK; clear HB; clear HI0; have HO1_3 := n0_; have BKz0 := n1_; have BKz1 := n2_; have HK := n3_; have HB := n4_; have HI0 := n5_; clear n0_ n1_ n2_ n3_ n4_ n5_; (try clear hb); (try clear hk); (try clear hi)))
   have n0_ := mk (Kd.R_drew HO1_3.out)
   have n1_ := mk (blk_drew BKz0.out)
   have n2_ := mk (blk_drew BKz1.out)
   have n3_ := mk (IsS144.drew HI0.out)
   have n4_ := mk (Kept.drew HK.out)
   have n5_ := mk (below_drew1 HB.out)
   clear HO1_3 BKz0 BKz1 HI0 HK HB
   revert n0_ n1_ n2_ n3_ n4_ n5_; intro HO1_3 BKz0 BKz1 HI0 HK HB
   refine start_ (n := 7) (S := fun w' => w'.cell? ⟨gbz1, 0, none⟩ = some (.int .i64 a1_0) ∧ w'.cell? ⟨gbz1, 1, none⟩ = some (.int .i64 a1_1) ∧ w'.cell? ⟨gbz1, 2, none⟩ = some (.int .i64 a1_2) ∧ w'.cell? ⟨gbz1, 3, none⟩ = some (.slice Ao36 l1_3.length co36)) (ds := [6]) #[false, false, false, false, false, false, false] (by kernel_rfl) rfl rfl ⟨(blk_cell BKz0.out 0).trans rfl, (blk_cell BKz0.out 1).trans rfl, (blk_cell BKz0.out 2).trans rfl, (blk_cell BKz0.out 3).trans rfl⟩ (fun hHeld => ?_)
   generalize w39.drew = w40 at HO1_3 BKz0 BKz1 HI0 HK HB hHeld ⊢
   refine pure_ (i := 0) (N := some 24) (v := ?_) (a' := ?_) #[true, false, false, false, false, false, false] rfl rfl (by kernel_rfl) (fun _ _ _ h => h) (Or.inl ⟨by rfl, ?_⟩) ?_ ?_
   rotate_left
   ·intro w'
    go_simp
    with_reducible rfl
   rotate_left
   ·simp only [Act.put, List.setIfInBounds_toArray, List.set_cons_zero, List.set_cons_succ, i64_w, i32_w]
    rfl
   refine pure_ (i := 2) (N := some 26) (v := ?_) (a' := ?_) #[true, false, true, false, false, false, false] rfl rfl (by kernel_rfl) (fun _ _ _ h => h) (Or.inl ⟨by rfl, ?_⟩) ?_ ?_
   rotate_left
   ·intro w'
    go_simp
    with_reducible rfl
   rotate_left
   ·simp only [Act.put, List.setIfInBounds_toArray, List.set_cons_zero, List.set_cons_succ, i64_w, i32_w]
    rfl
   refine take_ (i := 1) (N := some 25) (v := ?_) (a' := ?_) #[true, true, true, false, false, false, false] rfl rfl (by kernel_rfl) (fun _ _ _ h => h) (Or.inl ⟨by rfl, ?_⟩) hHeld ?_ ?_
   rotate_left
   ·rintro w' ⟨s0, s1, s2, s3⟩
    go_simp
    with_reducible rfl
   rotate_left
   ·simp only [Act.put, List.setIfInBounds_toArray, List.set_cons_zero, List.set_cons_succ, i64_w, i32_w]
    rfl
   refine one_ (i := 3) (N := some 27) #[true, true, true, true, false, false, false] rfl rfl (by kernel_rfl) (by decide) (fun K hK => ?_)
   refine Kd.R_lit_step (Kd.int .i64) _ 3 ?hg (N := 27) ?hd (xs := ([(-1), 256] : List Int)) (inner := [.int .i64 (-1), .int .i64 256]) (ok := fun _ => True) (okp := fun _ => True) ?hr ?hp (fun _ hk => hk) trivial (Below.refl _ _) (Nat.le_refl _) (by simp) ?_; (case hd => rfl); (case hg => rfl); (case hr => (go_simp; done)); (case hp => exact (Reps.one (show Kd.M (Kd.int .i64) _ _ _ (-1) [.int .i64 (-1)] from rfl) (Reps.one (show Kd.M (Kd.int .i64) _ _ _ 256 [.int .i64 256] from rfl) (Reps.none _ _))))
   intro vz1 w41 ho42 hb hg_ hnew_
   clear hg_ hnew_
   (rw [← Nyz2.out] at ho42)
   have n0_ := mk (Kd.R_elder' HO1_3.out (Kd.R_base ho42) hb)
   have n1_ := mk (Kd.R_lower (Kd.R_new' (Kd.R_newM (M := fun k_ => (P1_3_ k_ ∨ w.heap.size ≤ k_)) ho42 HK.out.1 (fun k_ h_ => .inr h_)) (Kd.R_lt HO1_3.out)) (below_size HB.out))
   have n2_ := mk (IsS144.below HI0.out hb)
   have n3_ := mk (blk_below BKz0.out hb)
   have n4_ := mk (blk_below BKz1.out hb)
   have n5_ := mk (Kept.below (S := (fun k_ => (P1_3_ k_) ∨ k_ = g)) HK.out hb)
   have n6_ := mk (below_step HB.out hb)
   clear HO1_3 HI0 BKz0 BKz1 HK HB
   revert n0_ n1_ n2_ n3_ n4_ n5_ n6_; intro HO1_3 HOz0 HI0 BKz0 BKz1 HK HB
   clear hb ho42
   obtain ⟨Ao43, co43, eo43⟩ := Kd.R_slice HOz0.out
   (subst eo43)
   refine hK.out _ _ ⟨(blk_cell BKz0.out 0).trans rfl, (blk_cell BKz0.out 1).trans rfl, (blk_cell BKz0.out 2).trans rfl, (blk_cell BKz0.out 3).trans rfl⟩ (fun hHeld => ?_)
   clear hK K
   refine norm_ (a' := ?_) ?_ ?_
   rotate_left
   ·show Act.put _ (some 27) _ = _
    simp only [Act.put, List.setIfInBounds_toArray, List.set_cons_zero, List.set_cons_succ, i64_w, i32_w]
    rfl
   refine one_ (i := 4) (N := some 28) #[true, true, true, true, true, false, false] rfl rfl (by kernel_rfl) (by decide) (fun K hK => ?_)
   refine goes_ Try.func147 (by kernel_rfl) rfl #[.pointer (some ⟨g, 0, none⟩), .slice Ao43 yz1.length co43] (by rfl) rfl rfl (by (try simp only [List.map_toArray, List.map_cons, List.map_nil]); rfl) ?_
   with_reducible refine (spec_reader_one.calls k g s0_0 tz1 _ _ yz1 tz2 tz5 w0 _ ?side1 ?side2 ?side3 ?side4 ?side5 A33.out).mono ?_
   (case side1 => repeat (with_reducible exact HI0.out))
   (case side2 => repeat (with_reducible exact HB.out))
   (case side3 => repeat (exact (Kd.R_reads' HOz0.out).2.2))
   (case side4 => exact (Kd.R_reads' HOz0.out).2.1)
   (case side5 => exact far_slice (IsS144.own_ne HI0.out HOz0.out (by decide)))
   rintro e w44 ⟨rfl, hi, hb, hk⟩
   refine ⟨_, rfl, ?_⟩
   have n0_ := mk (Kd.R_mono (Kd.R_keep (IsS144.apart (show IsS144 w0 _ g s0_0 tz1 from by exact HI0.out) HO1_3.out (by decide)) hk (fun _ h => h.2)) (fun _ h => h.1))
   have n1_ := mk (KeepBut.blk hk (g' := gbz1) (o := .cells #[.int .i64 a1_0, .int .i64 a1_1, .int .i64 a1_2, .slice Ao36 l1_3.length co36] 27 (0, 0)) BKz0.out NBz1.out (by simp))
   have n2_ := mk (KeepBut.blk hk (g' := gbz0) (o := .cells #[.int .i64 0, .int .i64 0, .int .i64 0, .slice none 0 0] 27 (0, 0)) BKz1.out NBz2.out (by simp))
   have n3_ := mk (Kd.R_mono (Kd.R_keep (IsS144.apart (show IsS144 w0 _ g s0_0 tz1 from by exact HI0.out) HOz0.out (by decide)) hk (fun _ h => h.2)) (fun _ h => h.1))
   have n4_ := mk (Kept.of_keep (S := (fun k_ => (P1_3_ k_) ∨ k_ = g)) HK.out hk (.inl (.inr rfl)))
   have n5_ := mk (hb)
   have n6_ := mk (hi)
   clear HO1_3 BKz0 BKz1 HOz0 HK HB HI0
   revert n0_ n1_ n2_ n3_ n4_ n5_ n6_; intro HO1_3 BKz0 BKz1 HOz0 HK HB HI0
   (try clear hb)
   (try clear hk)
   (try clear hi)
   have p35 : 0 ≤ (0 : Int) := (by omega)
   have q35 : (0 : Int) < ((l1_3.length : Int) : Int) := of_decide_eq_true (by (with_reducible assumption))
   have qi35 : (0 < l1_3.length) = True := eq_true (by omega)
   obtain ⟨go35, co35, eo35, gb35, gl35, cl35, HG35⟩ := Kd.R_form HO1_3.out (by omega)
   (cases eo35)
   have GB35 := mk gb35
   have GG35 := mk HG35
   clear gb35 gl35 HG35
   have HMgo35 := mk (show (P1_3_ go35 ∨ w.heap.size ≤ go35) from (HO1_3.out.1 _ rfl).1)
   obtain ⟨hx35_0, hf35_0⟩ := Kd.R_celln 0 HO1_3.out (0 : Int) p35 q35
   (try rw [show (0 : Int).toNat = 0 from rfl] at hx35_0)
   (try rw [show (0 : Int).toNat = 0 from rfl] at hf35_0)
   replace p35 := eq_true p35
   replace q35 := eq_true q35
   have HN0_go35 := mk (show g ≠ go35 from by have h_ := IsS144.own_ne HI0.out HO1_3.out (by decide); intro e_; exact h_ (by rw [e_]; rfl))
   have HP45 := Kd.R_putn HO1_3.out (0 : Int) tz2
   rw [← Nyz3.out] at HP45
   have HQ45 := mk HP45
   clear HP45
   refine hK.out _ _ ⟨(blk_cell BKz0.out 0).trans rfl, (blk_cell BKz0.out 1).trans rfl, (blk_cell BKz0.out 2).trans rfl, (blk_cell BKz0.out 3).trans rfl⟩ (fun hHeld => ?_)
   clear hK K
   refine norm_ (a' := ?_) ?_ ?_
   rotate_left
   ·show Act.put _ (some 28) _ = _
    simp only [Act.put, List.setIfInBounds_toArray, List.set_cons_zero, List.set_cons_succ, i64_w, i32_w]
    rfl
   refine pure_ (i := 5) (N := some 29) (v := ?_) (a' := ?_) #[true, true, true, true, true, true, false] rfl rfl (by kernel_rfl) (fun _ _ _ h => h) (Or.inl ⟨by rfl, ?_⟩) ?_ ?_
   rotate_left
   ·intro w'
    go_simp
    with_reducible rfl
   rotate_left
   ·simp only [Act.put, List.setIfInBounds_toArray, List.set_cons_zero, List.set_cons_succ, i64_w, i32_w]
    rfl
   refine last_ (i := 6) (N := none) #[true, true, true, true, true, true, true] rfl rfl (by kernel_rfl) (by decide) (fun K hK => ?_)
   refine skip_ (w1 := ?_) (by rfl) rfl ?_ ?_
   rotate_left
   ·go_simp
    rfl
   refine hK.out _ _ ?_
   clear hK K
   refine done_ (by kernel_rfl) ?_
   have n0_ : Aside0 (Kd.R (Kd.int .i64) 3 (w44.setCell ⟨go35, 0, none⟩ (.int .i64 tz2)) w0.heap.size (fun k_ => (P1_3_ k_ ∨ w.heap.size ≤ k_) ∧ some k_ ≠ (.slice Ao43 yz1.length co43 : Value).ownBlock) (.slice (some ⟨go35, 0, none⟩) l1_3.length co36) yz4) := ⟨by (with_reducible repeat (first | apply Kd.R_alloc | apply Kd.R_drewN | apply Kd.R_drew)); exact HQ45.out⟩
   have n1_ : Aside0 (Kd.R (Kd.int .i64) 3 (w44.setCell ⟨go35, 0, none⟩ (.int .i64 tz2)) w0.heap.size (fun k_ => (P1_3_ k_ ∨ w.heap.size ≤ k_) ∧ some k_ ≠ (.slice (some ⟨go35, 0, none⟩) l1_3.length co36 : Value).ownBlock) (.slice Ao43 yz1.length co43) yz1) := ⟨by (with_reducible repeat (first | apply Kd.R_alloc | apply Kd.R_drewN | apply Kd.R_drew)); exact Kd.R_mono (Kd.R_far (p := ⟨go35, 0, none⟩) (Kd.R_mono HOz0.out (fun k_ hk => (⟨hk, fun e_ => hk.2 (by rw [e_]; rfl)⟩ : _ ∧ k_ ≠ go35))) (fun _ hk => hk.2) (.int .i64 tz2)) (fun _ hk => ⟨hk.1.1.1, hk.1.2⟩)⟩
   have n2_ : Aside0 ((w44.setCell ⟨go35, 0, none⟩ (.int .i64 tz2)).heap[gbz1]? = some (.cells #[.int .i64 a1_0, .int .i64 a1_1, .int .i64 a1_2, .slice (some ⟨go35, 0, none⟩) l1_3.length co36] 27 (0, 0))) := ⟨by refine blk_far ?_ (by have h_ := Kd.R_ne HO1_3.out BKz0.out (by decide); intro e_; exact h_ (by rw [e_]; rfl)) _; (with_reducible repeat (first | refine blk_drewN ?_ _ | refine blk_drew ?_ | refine blk_alloc ?_ _)); exact BKz0.out⟩
   have n3_ : Aside0 ((w44.setCell ⟨go35, 0, none⟩ (.int .i64 tz2)).heap[gbz0]? = some (.cells #[.int .i64 0, .int .i64 0, .int .i64 0, .slice none 0 0] 27 (0, 0))) := ⟨by refine blk_far ?_ (by have h_ := Kd.R_ne HO1_3.out BKz1.out (by decide); intro e_; exact h_ (by rw [e_]; rfl)) _; (with_reducible repeat (first | refine blk_drewN ?_ _ | refine blk_drew ?_ | refine blk_alloc ?_ _)); exact BKz1.out⟩
   have n4_ : Aside0 (IsS144 w0 (w44.setCell ⟨go35, 0, none⟩ (.int .i64 tz2)) g s0_0 tz5) := ⟨by repeat (with_reducible first | exact HI0.out | refine IsS144.far ?_ HN0_go35.out _)⟩
   have n5_ : Aside0 (Kept w (w44.setCell ⟨go35, 0, none⟩ (.int .i64 tz2)) (fun k_ => (P1_3_ k_) ∨ k_ = g)) := ⟨by repeat ((with_reducible first | exact HK.out | refine Kept.setCell ?_ (Or.imp_left Or.inl HMgo35.out) _))⟩
   have n6_ : Aside0 (Below w0.heap.size w0 (w44.setCell ⟨go35, 0, none⟩ (.int .i64 tz2))) := ⟨by repeat (with_reducible first | exact HB.out | refine below_set ?_ GB35.out)⟩
   (try clear HO1_3)
   (try clear HOz0)
   (try clear BKz0)
   (try clear BKz1)
   (try clear HI0)
   (try clear HK)
   (try clear HB)
   generalize (w44.setCell ⟨go35, 0, none⟩ (.int .i64 tz2)) = w46 at n0_ n1_ n2_ n3_ n4_ n5_ n6_ ⊢
   revert n0_ n1_ n2_ n3_ n4_ n5_ n6_; intro HO1_3 HOz0 BKz0 BKz1 HI0 HK HB
   have hnb47 := NBz3.out
   have hnc47 := NBz0.out
   have hnb48 := NBz1.out
   have hnc48 := NBz5.out
   have hcz49_0 : w46.cell? ⟨gbz1, 0, none⟩ = some (.int .i64 a1_0) := (blk_cell BKz0.out 0).trans rfl
   have hcz49_1 : w46.cell? ⟨gbz1, 1, none⟩ = some (.int .i64 a1_1) := (blk_cell BKz0.out 1).trans rfl
   have hcz49_2 : w46.cell? ⟨gbz1, 2, none⟩ = some (.int .i64 a1_2) := (blk_cell BKz0.out 2).trans rfl
   have hcz49_3 : w46.cell? ⟨gbz1, 3, none⟩ = some (.slice (some ⟨go35, 0, none⟩) l1_3.length co36) := (blk_cell BKz0.out 3).trans rfl
   have hfz49_0 := blk_frozen BKz0.out 0
   have hfz49_1 := blk_frozen BKz0.out 1
   have hfz49_2 := blk_frozen BKz0.out 2
   have hfz49_3 := blk_frozen BKz0.out 3
   have hnb50 := NBz2.out
   have hnc50 := NBz4.out
   have hcz51_0 : w46.cell? ⟨gbz0, 0, none⟩ = some (.int .i64 0) := (blk_cell BKz1.out 0).trans rfl
   have hcz51_1 : w46.cell? ⟨gbz0, 1, none⟩ = some (.int .i64 0) := (blk_cell BKz1.out 1).trans rfl
   have hcz51_2 : w46.cell? ⟨gbz0, 2, none⟩ = some (.int .i64 0) := (blk_cell BKz1.out 2).trans rfl
   have hcz51_3 : w46.cell? ⟨gbz0, 3, none⟩ = some (.slice none 0 0) := (blk_cell BKz1.out 3).trans rfl
   have hfz51_0 := blk_frozen BKz1.out 0
   have hfz51_1 := blk_frozen BKz1.out 1
   have hfz51_2 := blk_frozen BKz1.out 2
   have hfz51_3 := blk_frozen BKz1.out 3
   try go_wp2
   refine bodyPost_ret (results_cell_row rfl _ _ gbz0 27 #[.int .i64 a1_0, .int .i64 a1_1, .int .i64 a1_2, .slice (some ⟨go35, 0, none⟩) l1_3.length co36] (0, 0) _ rfl (by refine blk_put (cs := #[.int .i64 a1_0, .int .i64 a1_1, .int .i64 a1_2, .slice none 0 0]) ?_ 3 _ rfl; refine blk_put (cs := #[.int .i64 a1_0, .int .i64 a1_1, .int .i64 0, .slice none 0 0]) ?_ 2 _ rfl; refine blk_put (cs := #[.int .i64 a1_0, .int .i64 0, .int .i64 0, .slice none 0 0]) ?_ 1 _ rfl; refine blk_put (cs := #[.int .i64 0, .int .i64 0, .int .i64 0, .slice none 0 0]) ?_ 0 _ rfl; (with_reducible repeat (first | refine blk_drewN ?_ _ | refine blk_drew ?_ | refine blk_alloc ?_ _)); exact BKz1.out) Try.underlying27 rfl (by kernel_rfl)) rfl ?_
   exact ⟨_, by rfl, Kd.Q_of_R (by exact Kd.R_mono (Kd.R_far (p := ⟨gbz0, 3, none⟩) (Kd.R_far (p := ⟨gbz0, 2, none⟩) (Kd.R_far (p := ⟨gbz0, 1, none⟩) (Kd.R_far (p := ⟨gbz0, 0, none⟩) (Kd.R_types HO1_3.out BKz1.out (by decide)) (fun _ hk => hk.2) (.int .i64 a1_0)) (fun _ hk => hk.2) (.int .i64 a1_1)) (fun _ hk => hk.2) (.int .i64 a1_2)) (fun _ hk => hk.2) (.slice (some ⟨go35, 0, none⟩) l1_3.length co36)) (fun _ hk => hk.1.1)), by repeat (with_reducible first | exact HI0.out | refine IsS144.far ?_ NBz4.out _), by repeat (with_reducible first | exact HB.out | refine below_set ?_ GEz0.out), by repeat ((with_reducible first | exact HK.out | refine Kept.setCell ?_ (.inr GWz0.out) _))⟩
  rw [if_neg c34] at H
  exact absurd H (by simp)
 rw [if_neg c32] at H
 have c32b0 : (tz0 == 2) = false := beq_eq_false_iff_ne.mpr c32
 have c32b1 : (tz0 != 2) = true := bne_iff_ne.mpr c32
 by_cases c52 : tz0 = 3
 ·rw [if_pos c52] at H
  have c52b0 : (tz0 == 3) = true := beq_iff_eq.mpr c52
  have c52b1 : (tz0 != 3) = false := bne_eq_false_iff_eq.mpr c52
  clear c52
  obtain ⟨yz3, hyz4⟩ : ∃ y_ : List Int, y_ = ([0, 5] : List Int) := ⟨_, rfl⟩
  replace H : ((spec_reader_one.f k s0_0 tz1 yz3).bind fun btz3 => (some (a1_0, a1_1, btz3.1, l1_3, btz3.2))) = some (r1, r2, r3, r4, r5) := by (rw [hyz4]; with_reducible exact H)
  have Nyz4 := mk hyz4
  clear hyz4
  replace H := Option.bind_eq_some_iff.mp H
  obtain ⟨⟨tz4, tz7⟩, A530, H⟩ := H
  replace H : (some (a1_0, a1_1, tz4, l1_3, tz7)) = some (r1, r2, r3, r4, r5) := H
  have A53 := mk A530
  clear A530
  simp only [Option.some.injEq, Prod.mk.injEq] at H
  obtain ⟨rfl, rfl, rfl, rfl, rfl⟩ := H
  obtain ⟨Ao54, co54, eo54⟩ := Kd.R_slice HO1_3.out
  subst eo54
  go_enter Try.func136, Try.ntmps136
  go_wp2_with (first | ((with_reducible refine gate_dst (N := 3) rfl ?_); refine box_event (by rfl) (N := 3) (by rfl) (cs := #[.int .i64 a1_0, .int .i64 a1_1, .int .i64 a1_2, .slice Ao54 l1_3.length co54]) (t := 27) (by go_simp; done) ?_; intro gbz1 hg w55 hbox hb; have n0_ := mk (Kd.R_below HO1_3.out hb); have n1_ := mk (IsS144.below HI0.out hb); have n2_ := mk (Kept.below (S := (fun k_ => (P1_3_ k_) ∨ k_ = g)) HK.out hb); have n3_ := mk (below_step HB.out hb); have n4_ := mk (hbox); have n5_ := mk (by rw [hg]; exact HK.out.1 : w.heap.size ≤ gbz1); have n6_ := mk ((by rw [hg]; exact (below_size HB.out) : w0.heap.size ≤ gbz1)); have n7_ := mk ((by rw [hg]; exact Nat.ne_of_lt (IsS144.lt (show IsS144 w0 _ g s0_0 s0_1 from by exact HI0.out)) : g ≠ gbz1)); have n8_ := mk ((by rw [hg]; exact Nat.ne_of_gt (IsS144.lt (show IsS144 w0 _ g s0_0 s0_1 from by exact HI0.out)) : gbz1 ≠ g)); clear HO1_3; clear HI0; clear HK; clear HB; have HO1_3 := n0_; have HI0 := n1_; have HK := n2_; have HB := n3_; have BKz0 := n4_; have GWz1 := n5_; have GEz1 := n6_; have NBz5 := n7_; have NBz1 := n8_; clear n0_ n1_ n2_ n3_ n4_ n5_ n6_ n7_ n8_; clear hb hbox hg) | ((with_reducible refine gate_dst (N := 4) rfl ?_); refine box_event (by rfl) (N := 4) (by rfl) (cs := #[.int .i64 0, .int .i64 0, .int .i64 0, .slice none 0 0]) (t := 27) (by go_simp; done) ?_; intro gbz0 hg w56 hbox hb; have n0_ := mk (Kd.R_below HO1_3.out hb); have n1_ := mk (IsS144.below HI0.out hb); have n2_ := mk (blk_below BKz0.out hb); have n3_ := mk (Kept.below (S := (fun k_ => (P1_3_ k_) ∨ k_ = g)) HK.out hb); have n4_ := mk (below_step HB.out hb); have n5_ := mk (hbox); have n6_ := mk (by rw [hg]; exact HK.out.1 : w.heap.size ≤ gbz0); have n7_ := mk ((by rw [hg]; exact (below_size HB.out) : w0.heap.size ≤ gbz0)); have n8_ := mk ((by rw [hg]; exact Nat.ne_of_lt (blk_lt BKz0.out) : gbz1 ≠ gbz0)); have n9_ := mk ((by rw [hg]; exact Nat.ne_of_gt (blk_lt BKz0.out) : gbz0 ≠ gbz1)); have n10_ := mk ((by rw [hg]; exact Nat.ne_of_lt (IsS144.lt (show IsS144 w0 _ g s0_0 s0_1 from by exact HI0.out)) : g ≠ gbz0)); have n11_ := mk ((by rw [hg]; exact Nat.ne_of_gt (IsS144.lt (show IsS144 w0 _ g s0_0 s0_1 from by exact HI0.out)) : gbz0 ≠ g)); clear HO1_3; clear HI0; clear BKz0; clear HK; clear HB; have HO1_3 := n0_; have HI0 := n1_; have BKz0 := n2_; have HK := n3_; have HB := n4_; have BKz1 := n5_; have GWz0 := n6_; have GEz0 := n7_; have NBz3 := n8_; have NBz0 := n9_; have NBz4 := n10_; have NBz2 := n11_; clear n0_ n1_ n2_ n3_ n4_ n5_ n6_ n7_ n8_ n9_ n10_ n11_; clear hb hbox hg) | ((with_reducible refine gate_callee (f := 127) rfl ?_); refine goesL_ (some 6) rfl rfl Try.func127 (by kernel_rfl) rfl #[.pointer (some ⟨g, 0, none⟩), .int .i64 40] rfl (by (try simp only [List.map_toArray, List.map_cons, List.map_nil]); rfl) ?_; (with_reducible refine (spec_reader_pick.calls k g s0_0 s0_1 40 tz0 tz1 w0 _ ?side1 ?side2 A3.out).mono ?_); (case side1 => repeat (with_reducible exact HI0.out)); (case side2 => repeat (with_reducible exact HB.out)); rintro e w57 ⟨rfl, hi, hb, hk⟩; refine ⟨_, rfl, ?_⟩; have n0_ := mk (Kd.R_mono (Kd.R_keep (IsS144.apart (show IsS144 w0 _ g s0_0 s0_1 from by exact HI0.out) HO1_3.out (by decide)) hk (fun _ h => h.2)) (fun _ h => h.1)); have n1_ := mk (KeepBut.blk hk (g' := gbz1) (o := .cells #[.int .i64 a1_0, .int .i64 a1_1, .int .i64 a1_2, .slice Ao54 l1_3.length co54] 27 (0, 0)) BKz0.out NBz1.out (by simp)); have n2_ := mk (KeepBut.blk hk (g' := gbz0) (o := .cells #[.int .i64 0, .int .i64 0, .int .i64 0, .slice none 0 0] 27 (0, 0)) BKz1.out NBz2.out (by simp)); have n3_ := mk (Kept.of_keep (S := (fun k_ => (P1_3_ k_) ∨ k_ = g)) HK.out hk (.inl (.inr rfl))); have n4_ := mk (hb); have n5_ := mk (hi); clear HO1_3; clear BKz0; clear BKz1; clear HK; clear HB; clear HI0; have HO1_3 := n0_; have BKz0 := n1_; have BKz1 := n2_; have HK := n3_; have HB := n4_; have HI0 := n5_; clear n0_ n1_ n2_ n3_ n4_ n5_; (try clear hb); (try clear hk); (try clear hi)) | ((with_reducible refine gate_dst (N := 33) rfl ?_); refine Kd.R_lit (Kd.int .i64) _ 3 ?hg (N := 33) ?hd (xs := ([0, 5] : List Int)) (inner := [.int .i64 0, .int .i64 5]) (ok := fun _ => True) (okp := fun _ => True) ?hr ?hp (fun _ hk => hk) trivial (Below.refl _ _) (Nat.le_refl _) (by simp) ?_; (case hd => rfl); (case hg => rfl); (case hr => (go_simp; done)); (case hp => exact (Reps.one (show Kd.M (Kd.int .i64) _ _ _ 0 [.int .i64 0] from rfl) (Reps.one (show Kd.M (Kd.int .i64) _ _ _ 5 [.int .i64 5] from rfl) (Reps.none _ _)))); intro vz2 w58 ho59 hb hg_ hnew_; clear hg_ hnew_; (rw [← Nyz4.out] at ho59); have n0_ := mk (Kd.R_elder' HO1_3.out (Kd.R_base ho59) hb); have n1_ := mk (Kd.R_lower (Kd.R_new' (Kd.R_newM (M := fun k_ => (P1_3_ k_ ∨ w.heap.size ≤ k_)) ho59 HK.out.1 (fun k_ h_ => .inr h_)) (Kd.R_lt HO1_3.out)) (below_size HB.out)); have n2_ := mk (IsS144.below HI0.out hb); have n3_ := mk (blk_below BKz0.out hb); have n4_ := mk (blk_below BKz1.out hb); have n5_ := mk (Kept.below (S := (fun k_ => (P1_3_ k_) ∨ k_ = g)) HK.out hb); have n6_ := mk (below_step HB.out hb); clear HO1_3; clear HI0; clear BKz0; clear BKz1; clear HK; clear HB; have HO1_3 := n0_; have HOz2 := n1_; have HI0 := n2_; have BKz0 := n3_; have BKz1 := n4_; have HK := n5_; have HB := n6_; clear n0_ n1_ n2_ n3_ n4_ n5_ n6_; clear hb ho59; obtain ⟨Ao60, co60, eo60⟩ := Kd.R_slice HOz2.out; subst eo60) | ((with_reducible refine gate_callee (f := 147) rfl ?_); refine goesL_ (some 34) rfl rfl Try.func147 (by kernel_rfl) rfl #[.pointer (some ⟨g, 0, none⟩), .slice Ao60 yz3.length co60] rfl (by (try simp only [List.map_toArray, List.map_cons, List.map_nil]); rfl) ?_; (with_reducible refine (spec_reader_one.calls k g s0_0 tz1 _ _ yz3 tz4 tz7 w0 _ ?side1 ?side2 ?side3 ?side4 ?side5 A53.out).mono ?_); (case side1 => repeat (with_reducible exact HI0.out)); (case side2 => repeat (with_reducible exact HB.out)); (case side3 => repeat (exact (Kd.R_reads' HOz2.out).2.2)); (case side4 => exact (Kd.R_reads' HOz2.out).2.1); (case side5 => exact far_slice (IsS144.own_ne HI0.out HOz2.out (by decide))); rintro e w61 ⟨rfl, hi, hb, hk⟩; refine ⟨_, rfl, ?_⟩; have n0_ := mk (Kd.R_mono (Kd.R_keep (IsS144.apart (show IsS144 w0 _ g s0_0 tz1 from by exact HI0.out) HO1_3.out (by decide)) hk (fun _ h => h.2)) (fun _ h => h.1)); have n1_ := mk (KeepBut.blk hk (g' := gbz1) (o := .cells #[.int .i64 a1_0, .int .i64 a1_1, .int .i64 a1_2, .slice Ao54 l1_3.length co54] 27 (0, 0)) BKz0.out NBz1.out (by simp)); have n2_ := mk (KeepBut.blk hk (g' := gbz0) (o := .cells #[.int .i64 0, .int .i64 0, .int .i64 0, .slice none 0 0] 27 (0, 0)) BKz1.out NBz2.out (by simp)); have n3_ := mk (Kd.R_mono (Kd.R_keep (IsS144.apart (show IsS144 w0 _ g s0_0 tz1 from by exact HI0.out) HOz2.out (by decide)) hk (fun _ h => h.2)) (fun _ h => h.1)); have n4_ := mk (Kept.of_keep (S := (fun k_ => (P1_3_ k_) ∨ k_ = g)) HK.out hk (.inl (.inr rfl))); have n5_ := mk (hb); have n6_ := mk (hi); clear HO1_3; clear BKz0; clear BKz1; clear HOz2; clear HK; clear HB; clear HI0; have HO1_3 := n0_; have BKz0 := n1_; have BKz1 := n2_; have HOz2 := n3_; have HK := n4_; have HB := n5_; have HI0 := n6_; clear n0_ n1_ n2_ n3_ n4_ n5_ n6_; (try clear hb); (try clear hk); (try clear hi); have hnb62 := NBz3.out; have hnc62 := NBz0.out; have hnb63 := NBz1.out; have hnc63 := NBz5.out; have hcz64_0 : w61.cell? ⟨gbz1, 0, none⟩ = some (.int .i64 a1_0) := (blk_cell BKz0.out 0).trans rfl; have hcz64_1 : w61.cell? ⟨gbz1, 1, none⟩ = some (.int .i64 a1_1) := (blk_cell BKz0.out 1).trans rfl; have hcz64_2 : w61.cell? ⟨gbz1, 2, none⟩ = some (.int .i64 a1_2) := (blk_cell BKz0.out 2).trans rfl; have hcz64_3 : w61.cell? ⟨gbz1, 3, none⟩ = some (.slice Ao54 l1_3.length co54) := (blk_cell BKz0.out 3).trans rfl; have hfz64_0 := blk_frozen BKz0.out 0; have hfz64_1 := blk_frozen BKz0.out 1; have hfz64_2 := blk_frozen BKz0.out 2; have hfz64_3 := blk_frozen BKz0.out 3; have hnb65 := NBz2.out; have hnc65 := NBz4.out; have hcz66_0 : w61.cell? ⟨gbz0, 0, none⟩ = some (.int .i64 0) := (blk_cell BKz1.out 0).trans rfl; have hcz66_1 : w61.cell? ⟨gbz0, 1, none⟩ = some (.int .i64 0) := (blk_cell BKz1.out 1).trans rfl; have hcz66_2 : w61.cell? ⟨gbz0, 2, none⟩ = some (.int .i64 0) := (blk_cell BKz1.out 2).trans rfl; have hcz66_3 : w61.cell? ⟨gbz0, 3, none⟩ = some (.slice none 0 0) := (blk_cell BKz1.out 3).trans rfl; have hfz66_0 := blk_frozen BKz1.out 0; have hfz66_1 := blk_frozen BKz1.out 1; have hfz66_2 := blk_frozen BKz1.out 2; have hfz66_3 := blk_frozen BKz1.out 3))
  refine bodyPost_ret (results_cell_row rfl _ _ gbz0 27 #[.int .i64 a1_0, .int .i64 a1_1, .int .i64 tz4, .slice Ao54 l1_3.length co54] (0, 0) _ rfl (by refine blk_put (cs := #[.int .i64 a1_0, .int .i64 a1_1, .int .i64 tz4, .slice none 0 0]) ?_ 3 _ rfl; refine blk_put (cs := #[.int .i64 a1_0, .int .i64 a1_1, .int .i64 0, .slice none 0 0]) ?_ 2 _ rfl; refine blk_put (cs := #[.int .i64 a1_0, .int .i64 0, .int .i64 0, .slice none 0 0]) ?_ 1 _ rfl; refine blk_put (cs := #[.int .i64 0, .int .i64 0, .int .i64 0, .slice none 0 0]) ?_ 0 _ rfl; refine blk_far ?_ NBz0.out _; (with_reducible repeat (first | refine blk_drewN ?_ _ | refine blk_drew ?_ | refine blk_alloc ?_ _)); exact BKz1.out) Try.underlying27 rfl (by kernel_rfl)) rfl ?_
  exact ⟨_, by rfl, Kd.Q_of_R (by exact Kd.R_mono (Kd.R_far (p := ⟨gbz0, 3, none⟩) (Kd.R_far (p := ⟨gbz0, 2, none⟩) (Kd.R_far (p := ⟨gbz0, 1, none⟩) (Kd.R_far (p := ⟨gbz0, 0, none⟩) (Kd.R_far (p := ⟨gbz1, 2, none⟩) (Kd.R_types (Kd.R_types HO1_3.out BKz0.out (by decide)) BKz1.out (by decide)) (fun _ hk => hk.1.2) (.int .i64 tz4)) (fun _ hk => hk.2) (.int .i64 a1_0)) (fun _ hk => hk.2) (.int .i64 a1_1)) (fun _ hk => hk.2) (.int .i64 tz4)) (fun _ hk => hk.2) (.slice Ao54 l1_3.length co54)) (fun _ hk => hk.1.1.1)), by repeat (with_reducible first | exact HI0.out | refine IsS144.far ?_ NBz5.out _ | refine IsS144.far ?_ NBz4.out _), by repeat (with_reducible first | exact HB.out | refine below_set ?_ GEz1.out | refine below_set ?_ GEz0.out), by repeat ((with_reducible first | exact HK.out | refine Kept.setCell ?_ (.inr GWz1.out) _ | refine Kept.setCell ?_ (.inr GWz0.out) _))⟩
 rw [if_neg c52] at H
 have c52b0 : (tz0 == 3) = false := beq_eq_false_iff_ne.mpr c52
 have c52b1 : (tz0 != 3) = true := bne_iff_ne.mpr c52
 simp only [Option.some.injEq, Prod.mk.injEq] at H
 obtain ⟨rfl, rfl, rfl, rfl, rfl⟩ := H
 obtain ⟨Ao67, co67, eo67⟩ := Kd.R_slice HO1_3.out
 subst eo67
 go_enter Try.func136, Try.ntmps136
 go_wp2_with (first | ((with_reducible refine gate_dst (N := 3) rfl ?_); refine box_event (by rfl) (N := 3) (by rfl) (cs := #[.int .i64 a1_0, .int .i64 a1_1, .int .i64 a1_2, .slice Ao67 l1_3.length co67]) (t := 27) (by go_simp; done) ?_; intro gbz1 hg w68 hbox hb; have n0_ := mk (Kd.R_below HO1_3.out hb); have n1_ := mk (IsS144.below HI0.out hb); have n2_ := mk (Kept.below (S := (fun k_ => (P1_3_ k_) ∨ k_ = g)) HK.out hb); have n3_ := mk (below_step HB.out hb); have n4_ := mk (hbox); have n5_ := mk (by rw [hg]; exact HK.out.1 : w.heap.size ≤ gbz1); have n6_ := mk ((by rw [hg]; exact (below_size HB.out) : w0.heap.size ≤ gbz1)); have n7_ := mk ((by rw [hg]; exact Nat.ne_of_lt (IsS144.lt (show IsS144 w0 _ g s0_0 s0_1 from by exact HI0.out)) : g ≠ gbz1)); have n8_ := mk ((by rw [hg]; exact Nat.ne_of_gt (IsS144.lt (show IsS144 w0 _ g s0_0 s0_1 from by exact HI0.out)) : gbz1 ≠ g)); clear HO1_3; clear HI0; clear HK; clear HB; have HO1_3 := n0_; have HI0 := n1_; have HK := n2_; have HB := n3_; have BKz0 := n4_; have GWz1 := n5_; have GEz1 := n6_; have NBz5 := n7_; have NBz1 := n8_; clear n0_ n1_ n2_ n3_ n4_ n5_ n6_ n7_ n8_; clear hb hbox hg) | ((with_reducible refine gate_dst (N := 4) rfl ?_); refine box_event (by rfl) (N := 4) (by rfl) (cs := #[.int .i64 0, .int .i64 0, .int .i64 0, .slice none 0 0]) (t := 27) (by go_simp; done) ?_; intro gbz0 hg w69 hbox hb; have n0_ := mk (Kd.R_below HO1_3.out hb); have n1_ := mk (IsS144.below HI0.out hb); have n2_ := mk (blk_below BKz0.out hb); have n3_ := mk (Kept.below (S := (fun k_ => (P1_3_ k_) ∨ k_ = g)) HK.out hb); have n4_ := mk (below_step HB.out hb); have n5_ := mk (hbox); have n6_ := mk (by rw [hg]; exact HK.out.1 : w.heap.size ≤ gbz0); have n7_ := mk ((by rw [hg]; exact (below_size HB.out) : w0.heap.size ≤ gbz0)); have n8_ := mk ((by rw [hg]; exact Nat.ne_of_lt (blk_lt BKz0.out) : gbz1 ≠ gbz0)); have n9_ := mk ((by rw [hg]; exact Nat.ne_of_gt (blk_lt BKz0.out) : gbz0 ≠ gbz1)); have n10_ := mk ((by rw [hg]; exact Nat.ne_of_lt (IsS144.lt (show IsS144 w0 _ g s0_0 s0_1 from by exact HI0.out)) : g ≠ gbz0)); have n11_ := mk ((by rw [hg]; exact Nat.ne_of_gt (IsS144.lt (show IsS144 w0 _ g s0_0 s0_1 from by exact HI0.out)) : gbz0 ≠ g)); clear HO1_3; clear HI0; clear BKz0; clear HK; clear HB; have HO1_3 := n0_; have HI0 := n1_; have BKz0 := n2_; have HK := n3_; have HB := n4_; have BKz1 := n5_; have GWz0 := n6_; have GEz0 := n7_; have NBz3 := n8_; have NBz0 := n9_; have NBz4 := n10_; have NBz2 := n11_; clear n0_ n1_ n2_ n3_ n4_ n5_ n6_ n7_ n8_ n9_ n10_ n11_; clear hb hbox hg) | ((with_reducible refine gate_callee (f := 127) rfl ?_); refine goesL_ (some 6) rfl rfl Try.func127 (by kernel_rfl) rfl #[.pointer (some ⟨g, 0, none⟩), .int .i64 40] rfl (by (try simp only [List.map_toArray, List.map_cons, List.map_nil]); rfl) ?_; (with_reducible refine (spec_reader_pick.calls k g s0_0 s0_1 40 tz0 tz1 w0 _ ?side1 ?side2 A3.out).mono ?_); (case side1 => repeat (with_reducible exact HI0.out)); (case side2 => repeat (with_reducible exact HB.out)); rintro e w70 ⟨rfl, hi, hb, hk⟩; refine ⟨_, rfl, ?_⟩; have n0_ := mk (Kd.R_mono (Kd.R_keep (IsS144.apart (show IsS144 w0 _ g s0_0 s0_1 from by exact HI0.out) HO1_3.out (by decide)) hk (fun _ h => h.2)) (fun _ h => h.1)); have n1_ := mk (KeepBut.blk hk (g' := gbz1) (o := .cells #[.int .i64 a1_0, .int .i64 a1_1, .int .i64 a1_2, .slice Ao67 l1_3.length co67] 27 (0, 0)) BKz0.out NBz1.out (by simp)); have n2_ := mk (KeepBut.blk hk (g' := gbz0) (o := .cells #[.int .i64 0, .int .i64 0, .int .i64 0, .slice none 0 0] 27 (0, 0)) BKz1.out NBz2.out (by simp)); have n3_ := mk (Kept.of_keep (S := (fun k_ => (P1_3_ k_) ∨ k_ = g)) HK.out hk (.inl (.inr rfl))); have n4_ := mk (hb); have n5_ := mk (hi); clear HO1_3; clear BKz0; clear BKz1; clear HK; clear HB; clear HI0; have HO1_3 := n0_; have BKz0 := n1_; have BKz1 := n2_; have HK := n3_; have HB := n4_; have HI0 := n5_; clear n0_ n1_ n2_ n3_ n4_ n5_; (try clear hb); (try clear hk); (try clear hi); have hnb71 := NBz3.out; have hnc71 := NBz0.out; have hnb72 := NBz1.out; have hnc72 := NBz5.out; have hcz73_0 : w70.cell? ⟨gbz1, 0, none⟩ = some (.int .i64 a1_0) := (blk_cell BKz0.out 0).trans rfl; have hcz73_1 : w70.cell? ⟨gbz1, 1, none⟩ = some (.int .i64 a1_1) := (blk_cell BKz0.out 1).trans rfl; have hcz73_2 : w70.cell? ⟨gbz1, 2, none⟩ = some (.int .i64 a1_2) := (blk_cell BKz0.out 2).trans rfl; have hcz73_3 : w70.cell? ⟨gbz1, 3, none⟩ = some (.slice Ao67 l1_3.length co67) := (blk_cell BKz0.out 3).trans rfl; have hfz73_0 := blk_frozen BKz0.out 0; have hfz73_1 := blk_frozen BKz0.out 1; have hfz73_2 := blk_frozen BKz0.out 2; have hfz73_3 := blk_frozen BKz0.out 3; have hnb74 := NBz2.out; have hnc74 := NBz4.out; have hcz75_0 : w70.cell? ⟨gbz0, 0, none⟩ = some (.int .i64 0) := (blk_cell BKz1.out 0).trans rfl; have hcz75_1 : w70.cell? ⟨gbz0, 1, none⟩ = some (.int .i64 0) := (blk_cell BKz1.out 1).trans rfl; have hcz75_2 : w70.cell? ⟨gbz0, 2, none⟩ = some (.int .i64 0) := (blk_cell BKz1.out 2).trans rfl; have hcz75_3 : w70.cell? ⟨gbz0, 3, none⟩ = some (.slice none 0 0) := (blk_cell BKz1.out 3).trans rfl; have hfz75_0 := blk_frozen BKz1.out 0; have hfz75_1 := blk_frozen BKz1.out 1; have hfz75_2 := blk_frozen BKz1.out 2; have hfz75_3 := blk_frozen BKz1.out 3))
 refine bodyPost_ret (results_cell_row rfl _ _ gbz0 27 #[.int .i64 a1_0, .int .i64 a1_1, .int .i64 a1_2, .slice Ao67 l1_3.length co67] (0, 0) _ rfl (by refine blk_put (cs := #[.int .i64 a1_0, .int .i64 a1_1, .int .i64 a1_2, .slice none 0 0]) ?_ 3 _ rfl; refine blk_put (cs := #[.int .i64 a1_0, .int .i64 a1_1, .int .i64 0, .slice none 0 0]) ?_ 2 _ rfl; refine blk_put (cs := #[.int .i64 a1_0, .int .i64 0, .int .i64 0, .slice none 0 0]) ?_ 1 _ rfl; refine blk_put (cs := #[.int .i64 0, .int .i64 0, .int .i64 0, .slice none 0 0]) ?_ 0 _ rfl; (with_reducible repeat (first | refine blk_drewN ?_ _ | refine blk_drew ?_ | refine blk_alloc ?_ _)); exact BKz1.out) Try.underlying27 rfl (by kernel_rfl)) rfl ?_
 exact ⟨_, by rfl, Kd.Q_of_R (by exact Kd.R_mono (Kd.R_far (p := ⟨gbz0, 3, none⟩) (Kd.R_far (p := ⟨gbz0, 2, none⟩) (Kd.R_far (p := ⟨gbz0, 1, none⟩) (Kd.R_far (p := ⟨gbz0, 0, none⟩) (Kd.R_types HO1_3.out BKz1.out (by decide)) (fun _ hk => hk.2) (.int .i64 a1_0)) (fun _ hk => hk.2) (.int .i64 a1_1)) (fun _ hk => hk.2) (.int .i64 a1_2)) (fun _ hk => hk.2) (.slice Ao67 l1_3.length co67)) (fun _ hk => hk.1)), by repeat (with_reducible first | exact HI0.out | refine IsS144.far ?_ NBz4.out _), by repeat (with_reducible first | exact HB.out | refine below_set ?_ GEz0.out), by repeat ((with_reducible first | exact HK.out | refine Kept.setCell ?_ (.inr GWz0.out) _))⟩

end Go.Proofs.Ytnofkbbcbpjhfaa.Q

namespace Go.Proofs.Ytnofkbbcbpjhfaa.Q
open Go.RowKit Go.Proofs.YtnofkbbcbpjhfaaW.PrintWords Go.Proofs.YtnofkbbcbpjhfaaW.PrintLast Go.Proofs.YtnofkbbcbpjhfaaW.PrintMore
attribute [local go_sem] max2_int min2_int max_two min_two max_three min_three max_four min_four
set_option linter.unusedVariables false
set_option linter.unusedSimpArgs false
def spec_newImage.f (a0 : Int) (a1 : Int) (a2 : Int) : Option (Int × Int × Int × List Int) := if 0 ≤ (wrap64 ((wrap64 (a0 * a1)) * a2)) then (if (wrap64 ((wrap64 (a0 * a1)) * a2) : Int).toNat ≤ 35184372088832 then (some (a0, a1, a2, (List.replicate (wrap64 ((wrap64 (a0 * a1)) * a2) : Int).toNat 0))) else (none)) else (none)
set_option maxHeartbeats 8000000 in
set_option maxRecDepth 100000 in
theorem spec_newImage.calls (a0 : Int) (a1 : Int) (a2 : Int) (r1 : Int) (r2 : Int) (r3 : Int) (r4 : List Int) (w : World) (h : spec_newImage.f a0 a1 a2 = some (r1, r2, r3, r4)) :
  Calls Try.prog 111 #[.int .i64 a0, .int .i64 a1, .int .i64 a2] w fun e w' => ∃ v3_ : Value, e = .returned (.agg #[.int .i64 r1, .int .i64 r2, .int .i64 r3, v3_]) ∧ Kd.R (Kd.int .i64) 3 w' w.heap.size (fun _ => True) v3_ r4 ∧ Below w.heap.size w w' := by
 have hu27 := Try.underlying27
 have HB := Aside0.mk (Below.refl w.heap.size w)
 have H : (if 0 ≤ (wrap64 ((wrap64 (a0 * a1)) * a2)) then (if (wrap64 ((wrap64 (a0 * a1)) * a2) : Int).toNat ≤ 35184372088832 then (some (a0, a1, a2, (List.replicate (wrap64 ((wrap64 (a0 * a1)) * a2) : Int).toNat 0))) else (none)) else (none)) = some (r1, r2, r3, r4) := h
 clear h
 obtain ⟨ji4, hji4⟩ : ∃ j_ : Int, (wrap64 ((wrap64 (a0 * a1)) * a2)) = j_ := ⟨_, rfl⟩
 replace H : (if 0 ≤ (ji4) then (if (ji4 : Int).toNat ≤ 35184372088832 then (some (a0, a1, a2, (List.replicate (ji4 : Int).toNat 0))) else (none)) else (none)) = some (r1, r2, r3, r4) := by first | (rw [hji4] at H; exact H) | (simp only [hji4] at H ⊢; exact H)
 have hji4w : (IntKind.i64.wrap ((wrap64 (a0 * a1)) * a2)) = ji4 := (i64_w _).trans hji4
 by_cases c5 : 0 ≤ (ji4)
 ·rw [if_pos c5] at H
  have c5b0 := eq_true c5
  have c5b1 : decide (0 ≤ (ji4)) = true := decide_eq_true c5
  clear c5
  by_cases c6 : (ji4 : Int).toNat ≤ 35184372088832
  ·rw [if_pos c6] at H
   have c6b0 := eq_true c6
   have c6b1 : decide ((ji4 : Int).toNat ≤ 35184372088832) = true := decide_eq_true c6
   clear c6
   obtain ⟨y112002, hy112002⟩ : ∃ y_ : List Int, y_ = (List.replicate (ji4 : Int).toNat 0) := ⟨_, rfl⟩
   replace H : (some (a0, a1, a2, y112002)) = some (r1, r2, r3, r4) := by first | (rw [hy112002]; with_reducible exact H) | (have H2_ := (Option.bind_some _ _).symm.trans H; rw [hy112002]; with_reducible exact H2_) | (have H2_ := (Option.bind_some _ _).symm.trans H; with_reducible exact H2_) | with_reducible exact H | (rw [hy112002]; exact H) | exact H
   have Ny112002 := Aside0.mk hy112002
   clear hy112002
   simp only [Option.some.injEq, Prod.mk.injEq] at H
   obtain ⟨rfl, rfl, rfl, rfl⟩ := H
   go_enter Try.func111, Try.ntmps111
   go_wp2_with (first | ((with_reducible refine gate_dst (N := 6) rfl ?_); refine box_event ?hg (N := 6) ?hd (cs := #[.int .i64 0, .int .i64 0, .int .i64 0, .slice none 0 0]) (t := 27) ?hr ?_; (case hd => rfl); (case hg => rfl); (case hr => first | (go_simp; done) | (go_simp; rfl)); intro gb112001 hg w7 hbox hb; have n0_ := Aside0.mk (below_step (by repeat (first | (with_reducible first | exact HB.out | apply below_alloc | apply pw_below_drewN | apply below_drew1) | exact HB.out)) hb); have n1_ := Aside0.mk (hbox); have n2_ := Aside0.mk ((by rw [hg]; exact (below_size (by repeat (first | (with_reducible first | exact HB.out | apply below_alloc | apply pw_below_drewN | apply below_drew1) | exact HB.out))) : w.heap.size ≤ gb112001)); have n3_ := Aside0.mk ((by rw [hg]; exact (below_size (by repeat (first | (with_reducible first | exact HB.out | apply below_alloc | apply pw_below_drewN | apply below_drew1) | exact HB.out))) : w.heap.size ≤ gb112001)); clear HB; have HB := n0_; have BK112001 := n1_; have GW112001 := n2_; have GE112001 := n3_; clear n0_ n1_ n2_ n3_; clear hb hbox hg) | ((with_reducible refine gate_dst (N := 15) rfl ?_); refine Kd.R_make (Kd.int .i64) _ 3 rfl (N := 15) rfl 22 _ _ rfl ji4 rfl rfl Try.underlying22 (.int .i64 0) 8 info3 rfl (by decide) (by omega) 0 (ok := fun _ => True) (okp := fun _ => True) rfl (fun _ hk => hk) trivial (of_decide_eq_true (by first | (with_reducible assumption) | assumption)) (Nat.le_trans (Nat.mul_le_mul_right _ (of_decide_eq_true (by first | (with_reducible assumption) | assumption) : ji4.toNat ≤ 35184372088832)) (by omega)) (Below.refl _ _) (Nat.le_refl _) ?_; intro v112003 w8 ho9 hb hg_ hnew_; clear hg_ hnew_; (first | rw [← Ny112002.out] at ho9 | (simp only [Int.reduceToNat] at ho9; rw [← Ny112002.out] at ho9)); have n0_ := Aside0.mk (Kd.R_lower ho9 (below_size (by repeat (first | (with_reducible first | exact HB.out | apply below_alloc | apply pw_below_drewN | apply below_drew1 | refine below_set ?_ GE112001.out) | exact HB.out)))); have n1_ := Aside0.mk (blk_below (g := gb112001) (o := .cells #[.int .i64 0, .int .i64 0, .int .i64 0, .slice none 0 0] 27 (0, 0)) (by (with_reducible repeat (first | refine blk_drewN ?_ _ | refine blk_drew ?_ | refine blk_alloc ?_ _)); exact BK112001.out) hb); have n2_ := Aside0.mk (below_step (by repeat (first | (with_reducible first | exact HB.out | apply below_alloc | apply pw_below_drewN | apply below_drew1 | refine below_set ?_ GE112001.out) | exact HB.out)) hb); clear BK112001; clear HB; have HO112004 := n0_; have BK112001 := n1_; have HB := n2_; clear n0_ n1_ n2_; clear hb ho9; obtain ⟨Ao10, co10, eo10⟩ := Kd.R_slice HO112004.out; subst eo10; have hcz11_0 : w8.cell? ⟨gb112001, 0, none⟩ = some (.int .i64 0) := (blk_cell BK112001.out 0).trans rfl; have hcz11_1 : w8.cell? ⟨gb112001, 1, none⟩ = some (.int .i64 0) := (blk_cell BK112001.out 1).trans rfl; have hcz11_2 : w8.cell? ⟨gb112001, 2, none⟩ = some (.int .i64 0) := (blk_cell BK112001.out 2).trans rfl; have hcz11_3 : w8.cell? ⟨gb112001, 3, none⟩ = some (.slice none 0 0) := (blk_cell BK112001.out 3).trans rfl; have hfz11_0 := blk_frozen BK112001.out 0; have hfz11_1 := blk_frozen BK112001.out 1; have hfz11_2 := blk_frozen BK112001.out 2; have hfz11_3 := blk_frozen BK112001.out 3))
   refine bodyPost_ret (results_cell_row rfl _ _ gb112001 27 #[.int .i64 a0, .int .i64 a1, .int .i64 a2, .slice Ao10 y112002.length co10] (0, 0) _ rfl (by (with_reducible repeat (first | refine blk_drewN ?_ _ | refine blk_drew ?_ | refine blk_alloc ?_ _)); refine blk_put (cs := #[.int .i64 a0, .int .i64 a1, .int .i64 a2, .slice none 0 0]) ?_ 3 _ rfl; (with_reducible repeat (first | refine blk_drewN ?_ _ | refine blk_drew ?_ | refine blk_alloc ?_ _)); refine blk_put (cs := #[.int .i64 a0, .int .i64 a1, .int .i64 0, .slice none 0 0]) ?_ 2 _ rfl; (with_reducible repeat (first | refine blk_drewN ?_ _ | refine blk_drew ?_ | refine blk_alloc ?_ _)); refine blk_put (cs := #[.int .i64 a0, .int .i64 0, .int .i64 0, .slice none 0 0]) ?_ 1 _ rfl; (with_reducible repeat (first | refine blk_drewN ?_ _ | refine blk_drew ?_ | refine blk_alloc ?_ _)); refine blk_put (cs := #[.int .i64 0, .int .i64 0, .int .i64 0, .slice none 0 0]) ?_ 0 _ rfl; (with_reducible repeat (first | refine blk_drewN ?_ _ | refine blk_drew ?_ | refine blk_alloc ?_ _)); exact BK112001.out) Try.underlying27 rfl (by kernel_rfl)) rfl ?_
   exact ⟨_, by first | rfl | (simp [errW_none, errW_some] <;> rfl) | (simp only [← hji4]; first | rfl | (simp [errW_none, errW_some] <;> rfl)) | (simp [*, errW_none, errW_some] <;> rfl), by (with_reducible repeat (first | apply Kd.R_alloc | apply Kd.R_drewN | apply Kd.R_drew)); exact Kd.R_mono (Kd.R_far (p := ⟨gb112001, 3, none⟩) (Kd.R_far (p := ⟨gb112001, 2, none⟩) (Kd.R_far (p := ⟨gb112001, 1, none⟩) (Kd.R_far (p := ⟨gb112001, 0, none⟩) (Kd.R_types HO112004.out BK112001.out (by decide)) (fun _ hk => hk.2) (.int .i64 a0)) (fun _ hk => hk.2) (.int .i64 a1)) (fun _ hk => hk.2) (.int .i64 a2)) (fun _ hk => hk.2) (.slice Ao10 y112002.length co10)) (fun _ hk => trivial), by repeat (first | (with_reducible first | exact HB.out | apply below_alloc | apply pw_below_drewN | apply below_drew1 | refine below_set ?_ GE112001.out) | exact HB.out)⟩
  ·rw [if_neg c6] at H
   exact absurd H (by simp)
 ·rw [if_neg c5] at H
  exact absurd H (by simp)

end Go.Proofs.Ytnofkbbcbpjhfaa.Q

namespace Go.Proofs.Ytnofkbbcbpjhfaa.Q
open Go.RowKit Go.Proofs.YtnofkbbcbpjhfaaW.PrintWords Go.Proofs.YtnofkbbcbpjhfaaW.PrintLast Go.Proofs.YtnofkbbcbpjhfaaW.PrintMore
open Go.Proofs.YtnofkbbcbpjhfaaW.PrintWords.Aside0 (mk)
attribute [local go_sem] max2_int min2_int max_two min_two max_three min_three max_four min_four
set_option linter.unusedVariables false
set_option linter.unusedSimpArgs false
def spec_randomImage.l0 : Nat → Int → Int → Int → List Int → Int → Int → Int → Int → List Int → Option (Int × Int × Int × List Int × Int)
 | 0, _, _, _, _, _, _, _, _, _ => none
 | k + 1, x6, x7, x8, x1000, x1001, xz2, xz3, xz4, xz1 => if x8 < (xz1.length : Int) then (if x6 = 0 then ((spec_reader_pick.f k x1000 x1001 256).bind fun btz5 => (if 0 ≤ x8 then (spec_randomImage.l0 k x6 btz5.1 (wrap64 (x8 + 1)) x1000 btz5.2 xz2 xz3 xz4 (xz1.set (x8 : Int).toNat btz5.1)) else none)) else (if x6 = 1 then ((spec_reader_pick.f k x1000 x1001 5).bind fun btz6 => (if 0 ≤ x8 then (spec_randomImage.l0 k x6 (Int.tmod (wrap64 ((wrap64 (x7 + btz6.1)) + 254)) 256) (wrap64 (x8 + 1)) x1000 btz6.2 xz2 xz3 xz4 (xz1.set (x8 : Int).toNat (Int.tmod (wrap64 ((wrap64 (x7 + btz6.1)) + 254)) 256))) else none)) else (if x6 = 2 then ((spec_reader_pick.f k x1000 x1001 4).bind fun btz7 => (if 0 ≤ x8 then (spec_randomImage.l0 k x6 (wrap64 (60 * btz7.1)) (wrap64 (x8 + 1)) x1000 btz7.2 xz2 xz3 xz4 (xz1.set (x8 : Int).toNat (wrap64 (60 * btz7.1)))) else none)) else (if 0 ≤ x8 then (spec_randomImage.l0 k x6 x7 (wrap64 (x8 + 1)) x1000 x1001 xz2 xz3 xz4 (xz1.set (x8 : Int).toNat x7)) else none)))) else (some (xz2, xz3, xz4, xz1, x1001))
def spec_randomImage.f (k : Nat) (s0_0 : List Int) (s0_1 : Int) (a1 : Int) : Option (Int × Int × Int × List Int × Int) := (spec_reader_one.f k s0_0 s0_1 ([3, 4, 2, 5, 1, 8, 6] : List Int)).bind fun btz4 => ((spec_reader_one.f k s0_0 btz4.2 ([3, 2, 4, 1, 5, 8] : List Int)).bind fun btz3 => ((spec_newImage.f btz4.1 btz3.1 a1).bind fun btz0 => ((spec_reader_pick.f k s0_0 btz3.2 4).bind fun btz2 => ((spec_reader_pick.f k s0_0 btz2.2 256).bind fun btz1 => (spec_randomImage.l0 k btz2.1 btz1.1 0 s0_0 btz1.2 btz0.1 btz0.2.1 btz0.2.2.1 btz0.2.2.2)))))
theorem spec_randomImage.mono_l : ∀ k, (∀ y0 y1 y2 y3 y4 y5 y6 y7 y8, LeO (spec_randomImage.l0 k y0 y1 y2 y3 y4 y5 y6 y7 y8) (spec_randomImage.l0 (k + 1) y0 y1 y2 y3 y4 y5 y6 y7 y8))
 | 0 => fun _ _ _ _ _ _ _ _ _ r h => by simp [spec_randomImage.l0] at h
 | k + 1 => by
  have ih0 := spec_randomImage.mono_l k
  ·intro y0 y1 y2 y3 y4 y5 y6 y7 y8
   unfold spec_randomImage.l0
   repeat' first | (with_reducible exact ih0 _ _ _ _ _ _ _ _ _) | (with_reducible exact spec_reader_pick.mono _ _ _ _) | (with_reducible exact LeO.refl _) | (with_reducible refine LeO.ite ?_ ?_) | (with_reducible refine LeO.bind ?_ (fun _ => ?_))
theorem spec_randomImage.mono : ∀ a0 a1 a2 k, LeO (spec_randomImage.f k a0 a1 a2) (spec_randomImage.f (k + 1) a0 a1 a2) := by
 intro a0 a1 a2 k
 have ih0 := spec_randomImage.mono_l k
 unfold spec_randomImage.f
 repeat' first | (with_reducible exact ih0 _ _ _ _ _ _ _ _ _) | (with_reducible exact spec_reader_one.mono _ _ _ _) | (with_reducible exact spec_reader_pick.mono _ _ _ _) | (with_reducible exact LeO.refl _) | (with_reducible refine LeO.bind ?_ (fun _ => ?_))
set_option maxHeartbeats 8000000 in
set_option maxRecDepth 100000 in
theorem spec_randomImage.calls (k : Nat) (g : Nat) (s0_0 : List Int) (s0_1 : Int) (a1 : Int) (r1 : Int) (r2 : Int) (r3 : Int) (r4 : List Int) (r5 : Int) (w0 w : World) (hI : IsS144 w0 w g s0_0 s0_1) (hB : Below w0.heap.size w0 w) (h : spec_randomImage.f k s0_0 s0_1 a1 = some (r1, r2, r3, r4, r5)) :
  Calls Try.prog 137 #[.pointer (some ⟨g, 0, none⟩), .int .i64 a1] w fun e w' => ∃ v3_ : Value, e = .returned (.agg #[.int .i64 r1, .int .i64 r2, .int .i64 r3, v3_]) ∧ Kd.R (Kd.int .i64) 3 w' w.heap.size (fun _ => True) v3_ r4 ∧ IsS144 w0 w' g s0_0 r5 ∧ Below w0.heap.size w0 w' ∧ KeepBut w w' g none := by
 have hu27 := Try.underlying27
 have HI0 := mk hI
 have HK := mk (KeepBut.refl w g none)
 have HL := mk hB.size
 clear hI
 have HW0 := mk hB.size
 have HB := mk hB
 clear hB
 have H : ((spec_reader_one.f k s0_0 s0_1 ([3, 4, 2, 5, 1, 8, 6] : List Int)).bind fun btz4 => ((spec_reader_one.f k s0_0 btz4.2 ([3, 2, 4, 1, 5, 8] : List Int)).bind fun btz3 => ((spec_newImage.f btz4.1 btz3.1 a1).bind fun btz0 => ((spec_reader_pick.f k s0_0 btz3.2 4).bind fun btz2 => ((spec_reader_pick.f k s0_0 btz2.2 256).bind fun btz1 => (spec_randomImage.l0 k btz2.1 btz1.1 0 s0_0 btz1.2 btz0.1 btz0.2.1 btz0.2.2.1 btz0.2.2.2)))))) = some (r1, r2, r3, r4, r5) := h
 clear h
 obtain ⟨yz0, hyz0⟩ : ∃ y_ : List Int, y_ = ([3, 4, 2, 5, 1, 8, 6] : List Int) := ⟨_, rfl⟩
 replace H : ((spec_reader_one.f k s0_0 s0_1 yz0).bind fun btz4 => ((spec_reader_one.f k s0_0 btz4.2 ([3, 2, 4, 1, 5, 8] : List Int)).bind fun btz3 => ((spec_newImage.f btz4.1 btz3.1 a1).bind fun btz0 => ((spec_reader_pick.f k s0_0 btz3.2 4).bind fun btz2 => ((spec_reader_pick.f k s0_0 btz2.2 256).bind fun btz1 => (spec_randomImage.l0 k btz2.1 btz1.1 0 s0_0 btz1.2 btz0.1 btz0.2.1 btz0.2.2.1 btz0.2.2.2)))))) = some (r1, r2, r3, r4, r5) := by (rw [hyz0]; with_reducible exact H)
 have Nyz0 := mk hyz0
 clear hyz0
 replace H := Option.bind_eq_some_iff.mp H
 obtain ⟨⟨tz9, tz10⟩, A30, H⟩ := H
 replace H : ((spec_reader_one.f k s0_0 tz10 ([3, 2, 4, 1, 5, 8] : List Int)).bind fun btz3 => ((spec_newImage.f tz9 btz3.1 a1).bind fun btz0 => ((spec_reader_pick.f k s0_0 btz3.2 4).bind fun btz2 => ((spec_reader_pick.f k s0_0 btz2.2 256).bind fun btz1 => (spec_randomImage.l0 k btz2.1 btz1.1 0 s0_0 btz1.2 btz0.1 btz0.2.1 btz0.2.2.1 btz0.2.2.2))))) = some (r1, r2, r3, r4, r5) := H
 have A3 := mk A30
 clear A30
 obtain ⟨yz1, hyz1⟩ : ∃ y_ : List Int, y_ = ([3, 2, 4, 1, 5, 8] : List Int) := ⟨_, rfl⟩
 replace H : ((spec_reader_one.f k s0_0 tz10 yz1).bind fun btz3 => ((spec_newImage.f tz9 btz3.1 a1).bind fun btz0 => ((spec_reader_pick.f k s0_0 btz3.2 4).bind fun btz2 => ((spec_reader_pick.f k s0_0 btz2.2 256).bind fun btz1 => (spec_randomImage.l0 k btz2.1 btz1.1 0 s0_0 btz1.2 btz0.1 btz0.2.1 btz0.2.2.1 btz0.2.2.2))))) = some (r1, r2, r3, r4, r5) := by (rw [hyz1]; with_reducible exact H)
 have Nyz1 := mk hyz1
 clear hyz1
 replace H := Option.bind_eq_some_iff.mp H
 obtain ⟨⟨tz12, tz5⟩, A40, H⟩ := H
 replace H : ((spec_newImage.f tz9 tz12 a1).bind fun btz0 => ((spec_reader_pick.f k s0_0 tz5 4).bind fun btz2 => ((spec_reader_pick.f k s0_0 btz2.2 256).bind fun btz1 => (spec_randomImage.l0 k btz2.1 btz1.1 0 s0_0 btz1.2 btz0.1 btz0.2.1 btz0.2.2.1 btz0.2.2.2)))) = some (r1, r2, r3, r4, r5) := H
 have A4 := mk A40
 clear A40
 replace H := Option.bind_eq_some_iff.mp H
 obtain ⟨⟨tz0, tz1, tz2, tz4⟩, A50, H⟩ := H
 replace H : ((spec_reader_pick.f k s0_0 tz5 4).bind fun btz2 => ((spec_reader_pick.f k s0_0 btz2.2 256).bind fun btz1 => (spec_randomImage.l0 k btz2.1 btz1.1 0 s0_0 btz1.2 tz0 tz1 tz2 tz4))) = some (r1, r2, r3, r4, r5) := H
 have A5 := mk A50
 clear A50
 replace H := Option.bind_eq_some_iff.mp H
 obtain ⟨⟨tz3, tz11⟩, A60, H⟩ := H
 replace H : ((spec_reader_pick.f k s0_0 tz11 256).bind fun btz1 => (spec_randomImage.l0 k tz3 btz1.1 0 s0_0 btz1.2 tz0 tz1 tz2 tz4)) = some (r1, r2, r3, r4, r5) := H
 have A6 := mk A60
 clear A60
 replace H := Option.bind_eq_some_iff.mp H
 obtain ⟨⟨tz16, tz17⟩, A70, H⟩ := H
 replace H : (spec_randomImage.l0 k tz3 tz16 0 s0_0 tz17 tz0 tz1 tz2 tz4) = some (r1, r2, r3, r4, r5) := H
 have A7 := mk A70
 clear A70
 have H' := mk H
 clear H
 go_enter Try.func137, Try.ntmps137
 go_wp2_with (first | ((with_reducible refine gate_dst (N := 4) rfl ?_); refine box_event (by rfl) (N := 4) (by rfl) (cs := #[.int .i64 0, .int .i64 0, .int .i64 0, .slice none 0 0]) (t := 27) (by go_simp; done) ?_; intro gbz1 hg w8 hbox hb; have n0_ := mk (IsS144.below HI0.out hb); have n1_ := mk (KeepBut.trans HK.out (KeepBut.of_below hb g none) (.inl rfl)); have n2_ := mk (below_step HB.out hb); have n3_ := mk (hbox); have n4_ := mk ((by rw [hg]; exact (keep_size (w := w) (g := g) (row := none) HK.out) : w.heap.size ≤ gbz1)); have n5_ := mk ((Nat.le_trans HW0.out (by rw [hg]; exact (keep_size (w := w) (g := g) (row := none) HK.out) : w.heap.size ≤ gbz1) : w0.heap.size ≤ gbz1)); have n6_ := mk ((by rw [hg]; exact Nat.ne_of_lt (IsS144.lt (show IsS144 w0 _ g s0_0 s0_1 from by exact HI0.out)) : g ≠ gbz1)); have n7_ := mk ((by rw [hg]; exact Nat.ne_of_gt (IsS144.lt (show IsS144 w0 _ g s0_0 s0_1 from by exact HI0.out)) : gbz1 ≠ g)); clear HI0; clear HK; clear HB; have HI0 := n0_; have HK := n1_; have HB := n2_; have BKz1 := n3_; have GWz0 := n4_; have GEz0 := n5_; have NBz5 := n6_; have NBz4 := n7_; clear n0_ n1_ n2_ n3_ n4_ n5_ n6_ n7_; clear hb hbox hg) | ((with_reducible refine gate_dst (N := 10) rfl ?_); refine Kd.R_lit (Kd.int .i64) _ 3 ?hg (N := 10) ?hd (xs := ([3, 4, 2, 5, 1, 8, 6] : List Int)) (inner := [.int .i64 3, .int .i64 4, .int .i64 2, .int .i64 5, .int .i64 1, .int .i64 8, .int .i64 6]) (ok := fun _ => True) (okp := fun _ => True) ?hr ?hp (fun _ hk => hk) trivial (Below.refl _ _) (Nat.le_refl _) (by simp) ?_; (case hd => rfl); (case hg => rfl); (case hr => (go_simp; done)); (case hp => exact (Reps.one (show Kd.M (Kd.int .i64) _ _ _ 3 [.int .i64 3] from rfl) (Reps.one (show Kd.M (Kd.int .i64) _ _ _ 4 [.int .i64 4] from rfl) (Reps.one (show Kd.M (Kd.int .i64) _ _ _ 2 [.int .i64 2] from rfl) (Reps.one (show Kd.M (Kd.int .i64) _ _ _ 5 [.int .i64 5] from rfl) (Reps.one (show Kd.M (Kd.int .i64) _ _ _ 1 [.int .i64 1] from rfl) (Reps.one (show Kd.M (Kd.int .i64) _ _ _ 8 [.int .i64 8] from rfl) (Reps.one (show Kd.M (Kd.int .i64) _ _ _ 6 [.int .i64 6] from rfl) (Reps.none _ _))))))))); intro vz0 w9 ho10 hb hg_ hnew_; clear hg_ hnew_; (rw [← Nyz0.out] at ho10); have n0_ := mk (Kd.R_lower ho10 (keep_size (w := w) (g := g) (row := none) HK.out)); have n1_ := mk (IsS144.below HI0.out hb); have n2_ := mk (blk_below BKz1.out hb); have n3_ := mk (KeepBut.trans HK.out (KeepBut.of_below hb g none) (.inl rfl)); have n4_ := mk (below_step HB.out hb); clear HI0; clear BKz1; clear HK; clear HB; have HOz1 := n0_; have HI0 := n1_; have BKz1 := n2_; have HK := n3_; have HB := n4_; clear n0_ n1_ n2_ n3_ n4_; clear hb ho10; obtain ⟨Ao11, co11, eo11⟩ := Kd.R_slice HOz1.out; subst eo11) | ((with_reducible refine gate_callee (f := 147) rfl ?_); refine goesL_ (some 11) rfl rfl Try.func147 (by kernel_rfl) rfl #[.pointer (some ⟨g, 0, none⟩), .slice Ao11 yz0.length co11] rfl (by (try simp only [List.map_toArray, List.map_cons, List.map_nil]); rfl) ?_; (with_reducible refine (spec_reader_one.calls k g s0_0 s0_1 _ _ yz0 tz9 tz10 w0 _ ?side1 ?side2 ?side3 ?side4 ?side5 A3.out).mono ?_); (case side1 => repeat (with_reducible exact HI0.out)); (case side2 => repeat (with_reducible exact HB.out)); (case side3 => repeat (exact (Kd.R_reads' HOz1.out).2.2)); (case side4 => exact (Kd.R_reads' HOz1.out).2.1); (case side5 => exact far_slice (IsS144.own_ne HI0.out HOz1.out (by decide))); rintro e w12 ⟨rfl, hi, hb, hk⟩; refine ⟨_, rfl, ?_⟩; have n0_ := mk (KeepBut.blk hk (g' := gbz1) (o := .cells #[.int .i64 0, .int .i64 0, .int .i64 0, .slice none 0 0] 27 (0, 0)) BKz1.out NBz4.out (by simp)); have n1_ := mk (Kd.R_mono (Kd.R_keep (IsS144.apart (show IsS144 w0 _ g s0_0 s0_1 from by exact HI0.out) HOz1.out (by decide)) hk (fun _ h => h.2)) (fun _ h => h.1)); have n2_ := mk (KeepBut.trans HK.out hk (.inl rfl)); have n3_ := mk (hb); have n4_ := mk (hi); clear BKz1; clear HOz1; clear HK; clear HB; clear HI0; have BKz1 := n0_; have HOz1 := n1_; have HK := n2_; have HB := n3_; have HI0 := n4_; clear n0_ n1_ n2_ n3_ n4_; (try clear hb); (try clear hk); (try clear hi)) | ((with_reducible refine gate_dst (N := 13) rfl ?_); refine Kd.R_lit (Kd.int .i64) _ 3 ?hg (N := 13) ?hd (xs := ([3, 2, 4, 1, 5, 8] : List Int)) (inner := [.int .i64 3, .int .i64 2, .int .i64 4, .int .i64 1, .int .i64 5, .int .i64 8]) (ok := fun _ => True) (okp := fun _ => True) ?hr ?hp (fun _ hk => hk) trivial (Below.refl _ _) (Nat.le_refl _) (by simp) ?_; (case hd => rfl); (case hg => rfl); (case hr => (go_simp; done)); (case hp => exact (Reps.one (show Kd.M (Kd.int .i64) _ _ _ 3 [.int .i64 3] from rfl) (Reps.one (show Kd.M (Kd.int .i64) _ _ _ 2 [.int .i64 2] from rfl) (Reps.one (show Kd.M (Kd.int .i64) _ _ _ 4 [.int .i64 4] from rfl) (Reps.one (show Kd.M (Kd.int .i64) _ _ _ 1 [.int .i64 1] from rfl) (Reps.one (show Kd.M (Kd.int .i64) _ _ _ 5 [.int .i64 5] from rfl) (Reps.one (show Kd.M (Kd.int .i64) _ _ _ 8 [.int .i64 8] from rfl) (Reps.none _ _)))))))); intro vz1 w13 ho14 hb hg_ hnew_; clear hg_ hnew_; (rw [← Nyz1.out] at ho14); have n0_ := mk (Kd.R_elder' HOz1.out (Kd.R_base ho14) hb); have n1_ := mk (Kd.R_lower (Kd.R_new' ho14 (Kd.R_lt HOz1.out)) (keep_size (w := w) (g := g) (row := none) HK.out)); have n2_ := mk (IsS144.below HI0.out hb); have n3_ := mk (blk_below BKz1.out hb); have n4_ := mk (KeepBut.trans HK.out (KeepBut.of_below hb g none) (.inl rfl)); have n5_ := mk (below_step HB.out hb); clear HOz1; clear HI0; clear BKz1; clear HK; clear HB; have HOz1 := n0_; have HOz2 := n1_; have HI0 := n2_; have BKz1 := n3_; have HK := n4_; have HB := n5_; clear n0_ n1_ n2_ n3_ n4_ n5_; clear hb ho14; obtain ⟨Ao15, co15, eo15⟩ := Kd.R_slice HOz2.out; subst eo15) | ((with_reducible refine gate_callee (f := 147) rfl ?_); refine goesL_ (some 14) rfl rfl Try.func147 (by kernel_rfl) rfl #[.pointer (some ⟨g, 0, none⟩), .slice Ao15 yz1.length co15] rfl (by (try simp only [List.map_toArray, List.map_cons, List.map_nil]); rfl) ?_; (with_reducible refine (spec_reader_one.calls k g s0_0 tz10 _ _ yz1 tz12 tz5 w0 _ ?side1 ?side2 ?side3 ?side4 ?side5 A4.out).mono ?_); (case side1 => repeat (with_reducible exact HI0.out)); (case side2 => repeat (with_reducible exact HB.out)); (case side3 => repeat (exact (Kd.R_reads' HOz2.out).2.2)); (case side4 => exact (Kd.R_reads' HOz2.out).2.1); (case side5 => exact far_slice (IsS144.own_ne HI0.out HOz2.out (by decide))); rintro e w16 ⟨rfl, hi, hb, hk⟩; refine ⟨_, rfl, ?_⟩; have n0_ := mk (KeepBut.blk hk (g' := gbz1) (o := .cells #[.int .i64 0, .int .i64 0, .int .i64 0, .slice none 0 0] 27 (0, 0)) BKz1.out NBz4.out (by simp)); have n1_ := mk (Kd.R_mono (Kd.R_keep (IsS144.apart (show IsS144 w0 _ g s0_0 tz10 from by exact HI0.out) HOz1.out (by decide)) hk (fun _ h => h.2)) (fun _ h => h.1)); have n2_ := mk (Kd.R_mono (Kd.R_keep (IsS144.apart (show IsS144 w0 _ g s0_0 tz10 from by exact HI0.out) HOz2.out (by decide)) hk (fun _ h => h.2)) (fun _ h => h.1)); have n3_ := mk (KeepBut.trans HK.out hk (.inl rfl)); have n4_ := mk (hb); have n5_ := mk (hi); clear BKz1; clear HOz1; clear HOz2; clear HK; clear HB; clear HI0; have BKz1 := n0_; have HOz1 := n1_; have HOz2 := n2_; have HK := n3_; have HB := n4_; have HI0 := n5_; clear n0_ n1_ n2_ n3_ n4_ n5_; (try clear hb); (try clear hk); (try clear hi)) | ((with_reducible refine gate_callee (f := 111) rfl ?_); refine goesL_ (some 16) rfl rfl Try.func111 (by kernel_rfl) rfl #[.int .i64 tz9, .int .i64 tz12, .int .i64 a1] rfl (by (try simp only [List.map_toArray, List.map_cons, List.map_nil]); rfl) ?_; (with_reducible refine (spec_newImage.calls tz9 tz12 a1 tz0 tz1 tz2 tz4 _ A5.out).mono ?_); rintro e w17 ⟨vz2, rfl, ho0, hb⟩; refine ⟨_, rfl, ?_⟩; have n0_ := mk (Kd.R_elder' HOz1.out (Kd.R_base ho0) hb); have n1_ := mk (Kd.R_elder' HOz2.out (Kd.R_base ho0) hb); have n2_ := mk (Kd.R_lower (Kd.R_new' (Kd.R_new' ho0 (Kd.R_lt HOz1.out)) (Kd.R_lt HOz2.out)) (keep_size (w := w) (g := g) (row := none) HK.out)); have n3_ := mk (IsS144.below HI0.out hb); have n4_ := mk (blk_below BKz1.out hb); have n5_ := mk (KeepBut.trans HK.out (KeepBut.of_below hb g none) (.inl rfl)); have n6_ := mk (below_step HB.out hb); clear HOz1; clear HOz2; clear HI0; clear BKz1; clear HK; clear HB; have HOz1 := n0_; have HOz2 := n1_; have HOz3 := n2_; have HI0 := n3_; have BKz1 := n4_; have HK := n5_; have HB := n6_; clear n0_ n1_ n2_ n3_ n4_ n5_ n6_; (try clear hb); (try clear ho0)) | ((with_reducible refine gate_dst (N := 5) rfl ?_); refine box_event (by rfl) (N := 5) (by rfl) (cs := #[.int .i64 0, .int .i64 0, .int .i64 0, .slice none 0 0]) (t := 27) (by go_simp; done) ?_; intro gbz0 hg w18 hbox hb; have n0_ := mk (Kd.R_below HOz1.out hb); have n1_ := mk (Kd.R_below HOz2.out hb); have n2_ := mk (Kd.R_below HOz3.out hb); have n3_ := mk (IsS144.below HI0.out hb); have n4_ := mk (blk_below BKz1.out hb); have n5_ := mk (KeepBut.trans HK.out (KeepBut.of_below hb g none) (.inl rfl)); have n6_ := mk (below_step HB.out hb); have n7_ := mk (hbox); have n8_ := mk ((by rw [hg]; exact (keep_size (w := w) (g := g) (row := none) HK.out) : w.heap.size ≤ gbz0)); have n9_ := mk ((Nat.le_trans HW0.out (by rw [hg]; exact (keep_size (w := w) (g := g) (row := none) HK.out) : w.heap.size ≤ gbz0) : w0.heap.size ≤ gbz0)); have n10_ := mk ((by rw [hg]; exact Nat.ne_of_lt (blk_lt BKz1.out) : gbz1 ≠ gbz0)); have n11_ := mk ((by rw [hg]; exact Nat.ne_of_gt (blk_lt BKz1.out) : gbz0 ≠ gbz1)); have n12_ := mk ((by rw [hg]; exact Nat.ne_of_lt (IsS144.lt (show IsS144 w0 _ g s0_0 tz5 from by exact HI0.out)) : g ≠ gbz0)); have n13_ := mk ((by rw [hg]; exact Nat.ne_of_gt (IsS144.lt (show IsS144 w0 _ g s0_0 tz5 from by exact HI0.out)) : gbz0 ≠ g)); clear HOz1; clear HOz2; clear HOz3; clear HI0; clear BKz1; clear HK; clear HB; have HOz1 := n0_; have HOz2 := n1_; have HOz3 := n2_; have HI0 := n3_; have BKz1 := n4_; have HK := n5_; have HB := n6_; have BKz0 := n7_; have GWz1 := n8_; have GEz1 := n9_; have NBz0 := n10_; have NBz3 := n11_; have NBz2 := n12_; have NBz1 := n13_; clear n0_ n1_ n2_ n3_ n4_ n5_ n6_ n7_ n8_ n9_ n10_ n11_ n12_ n13_; clear hb hbox hg; have hnb19 := NBz3.out; have hnc19 := NBz0.out; have hnb20 := NBz1.out; have hnc20 := NBz2.out; have hcz21_0 : w18.cell? ⟨gbz0, 0, none⟩ = some (.int .i64 0) := (blk_cell BKz0.out 0).trans rfl; have hcz21_1 : w18.cell? ⟨gbz0, 1, none⟩ = some (.int .i64 0) := (blk_cell BKz0.out 1).trans rfl; have hcz21_2 : w18.cell? ⟨gbz0, 2, none⟩ = some (.int .i64 0) := (blk_cell BKz0.out 2).trans rfl; have hcz21_3 : w18.cell? ⟨gbz0, 3, none⟩ = some (.slice none 0 0) := (blk_cell BKz0.out 3).trans rfl; have hfz21_0 := blk_frozen BKz0.out 0; have hfz21_1 := blk_frozen BKz0.out 1; have hfz21_2 := blk_frozen BKz0.out 2; have hfz21_3 := blk_frozen BKz0.out 3; obtain ⟨Ao22, co22, eo22⟩ := Kd.R_slice HOz3.out; subst eo22) | ((with_reducible refine gate_callee (f := 127) rfl ?_); refine goesL_ (some 18) rfl rfl Try.func127 (by kernel_rfl) rfl #[.pointer (some ⟨g, 0, none⟩), .int .i64 4] rfl (by (try simp only [List.map_toArray, List.map_cons, List.map_nil]); rfl) ?_; (with_reducible refine (spec_reader_pick.calls k g s0_0 tz5 4 tz3 tz11 w0 _ ?side1 ?side2 A6.out).mono ?_); (case side1 => repeat (with_reducible first | exact HI0.out | refine IsS144.far ?_ NBz2.out _)); (case side2 => repeat (with_reducible first | exact HB.out | refine below_set ?_ GEz1.out)); rintro e w23 ⟨rfl, hi, hb, hk⟩; refine ⟨_, rfl, ?_⟩; have n0_ := mk (KeepBut.blk hk (g' := gbz1) (o := .cells #[.int .i64 0, .int .i64 0, .int .i64 0, .slice none 0 0] 27 (0, 0)) (by refine blk_far ?_ NBz0.out _; refine blk_far ?_ NBz0.out _; refine blk_far ?_ NBz0.out _; refine blk_far ?_ NBz0.out _; (with_reducible repeat (first | refine blk_drewN ?_ _ | refine blk_drew ?_ | refine blk_alloc ?_ _)); exact BKz1.out) NBz4.out (by simp)); have n1_ := mk (Kd.R_mono (Kd.R_keep (IsS144.apart (show IsS144 w0 _ g s0_0 tz5 from by repeat (with_reducible first | exact HI0.out | refine IsS144.far ?_ NBz2.out _)) (by exact (Kd.R_mono (Kd.R_far (p := ⟨gbz0, 3, none⟩) (Kd.R_far (p := ⟨gbz0, 2, none⟩) (Kd.R_far (p := ⟨gbz0, 1, none⟩) (Kd.R_far (p := ⟨gbz0, 0, none⟩) (Kd.R_types HOz1.out BKz0.out (by decide)) (fun _ hk => hk.2) (.int .i64 tz0)) (fun _ hk => hk.2) (.int .i64 tz1)) (fun _ hk => hk.2) (.int .i64 tz2)) (fun _ hk => hk.2) (.slice Ao22 tz4.length co22)) (fun _ h_ => h_.1))) (by decide)) hk (fun _ h => h.2)) (fun _ h => h.1)); have n2_ := mk (Kd.R_mono (Kd.R_keep (IsS144.apart (show IsS144 w0 _ g s0_0 tz5 from by repeat (with_reducible first | exact HI0.out | refine IsS144.far ?_ NBz2.out _)) (by exact (Kd.R_mono (Kd.R_far (p := ⟨gbz0, 3, none⟩) (Kd.R_far (p := ⟨gbz0, 2, none⟩) (Kd.R_far (p := ⟨gbz0, 1, none⟩) (Kd.R_far (p := ⟨gbz0, 0, none⟩) (Kd.R_types HOz2.out BKz0.out (by decide)) (fun _ hk => hk.2) (.int .i64 tz0)) (fun _ hk => hk.2) (.int .i64 tz1)) (fun _ hk => hk.2) (.int .i64 tz2)) (fun _ hk => hk.2) (.slice Ao22 tz4.length co22)) (fun _ h_ => h_.1))) (by decide)) hk (fun _ h => h.2)) (fun _ h => h.1)); have n3_ := mk (Kd.R_mono (Kd.R_keep (IsS144.apart (show IsS144 w0 _ g s0_0 tz5 from by repeat (with_reducible first | exact HI0.out | refine IsS144.far ?_ NBz2.out _)) (by exact (Kd.R_mono (Kd.R_far (p := ⟨gbz0, 3, none⟩) (Kd.R_far (p := ⟨gbz0, 2, none⟩) (Kd.R_far (p := ⟨gbz0, 1, none⟩) (Kd.R_far (p := ⟨gbz0, 0, none⟩) (Kd.R_types HOz3.out BKz0.out (by decide)) (fun _ hk => hk.2) (.int .i64 tz0)) (fun _ hk => hk.2) (.int .i64 tz1)) (fun _ hk => hk.2) (.int .i64 tz2)) (fun _ hk => hk.2) (.slice Ao22 tz4.length co22)) (fun _ h_ => h_.1))) (by decide)) hk (fun _ h => h.2)) (fun _ h => h.1)); have n4_ := mk (KeepBut.blk hk (g' := gbz0) (o := .cells #[.int .i64 tz0, .int .i64 tz1, .int .i64 tz2, .slice Ao22 tz4.length co22] 27 (0, 0)) (by refine blk_put (cs := #[.int .i64 tz0, .int .i64 tz1, .int .i64 tz2, .slice none 0 0]) ?_ 3 _ rfl; refine blk_put (cs := #[.int .i64 tz0, .int .i64 tz1, .int .i64 0, .slice none 0 0]) ?_ 2 _ rfl; refine blk_put (cs := #[.int .i64 tz0, .int .i64 0, .int .i64 0, .slice none 0 0]) ?_ 1 _ rfl; refine blk_put (cs := #[.int .i64 0, .int .i64 0, .int .i64 0, .slice none 0 0]) ?_ 0 _ rfl; (with_reducible repeat (first | refine blk_drewN ?_ _ | refine blk_drew ?_ | refine blk_alloc ?_ _)); exact BKz0.out) NBz1.out (by simp)); have n5_ := mk (KeepBut.trans (by repeat (with_reducible first | exact HK.out | refine keep_far ?_ GWz1.out _)) hk (.inl rfl)); have n6_ := mk (hb); have n7_ := mk (hi); clear BKz1; clear HOz1; clear HOz2; clear HOz3; clear BKz0; clear HK; clear HB; clear HI0; have BKz1 := n0_; have HOz1 := n1_; have HOz2 := n2_; have HOz3 := n3_; have BKz0 := n4_; have HK := n5_; have HB := n6_; have HI0 := n7_; clear n0_ n1_ n2_ n3_ n4_ n5_ n6_ n7_; (try clear hb); (try clear hk); (try clear hi)) | ((with_reducible refine gate_callee (f := 127) rfl ?_); refine goesL_ (some 20) rfl rfl Try.func127 (by kernel_rfl) rfl #[.pointer (some ⟨g, 0, none⟩), .int .i64 256] rfl (by (try simp only [List.map_toArray, List.map_cons, List.map_nil]); rfl) ?_; (with_reducible refine (spec_reader_pick.calls k g s0_0 tz11 256 tz16 tz17 w0 _ ?side1 ?side2 A7.out).mono ?_); (case side1 => repeat (with_reducible exact HI0.out)); (case side2 => repeat (with_reducible exact HB.out)); rintro e w24 ⟨rfl, hi, hb, hk⟩; refine ⟨_, rfl, ?_⟩; have n0_ := mk (KeepBut.blk hk (g' := gbz1) (o := .cells #[.int .i64 0, .int .i64 0, .int .i64 0, .slice none 0 0] 27 (0, 0)) BKz1.out NBz4.out (by simp)); have n1_ := mk (Kd.R_mono (Kd.R_keep (IsS144.apart (show IsS144 w0 _ g s0_0 tz11 from by exact HI0.out) HOz1.out (by decide)) hk (fun _ h => h.2)) (fun _ h => h.1)); have n2_ := mk (Kd.R_mono (Kd.R_keep (IsS144.apart (show IsS144 w0 _ g s0_0 tz11 from by exact HI0.out) HOz2.out (by decide)) hk (fun _ h => h.2)) (fun _ h => h.1)); have n3_ := mk (Kd.R_mono (Kd.R_keep (IsS144.apart (show IsS144 w0 _ g s0_0 tz11 from by exact HI0.out) HOz3.out (by decide)) hk (fun _ h => h.2)) (fun _ h => h.1)); have n4_ := mk (KeepBut.blk hk (g' := gbz0) (o := .cells #[.int .i64 tz0, .int .i64 tz1, .int .i64 tz2, .slice Ao22 tz4.length co22] 27 (0, 0)) BKz0.out NBz1.out (by simp)); have n5_ := mk (KeepBut.trans HK.out hk (.inl rfl)); have n6_ := mk (hb); have n7_ := mk (hi); clear BKz1; clear HOz1; clear HOz2; clear HOz3; clear BKz0; clear HK; clear HB; clear HI0; have BKz1 := n0_; have HOz1 := n1_; have HOz2 := n2_; have HOz3 := n3_; have BKz0 := n4_; have HK := n5_; have HB := n6_; have HI0 := n7_; clear n0_ n1_ n2_ n3_ n4_ n5_ n6_ n7_; (try clear hb); (try clear hk); (try clear hi)))
 go_loopg [7, 8] k (fun kq v7 v8 w' => ∃ (x7_1 : Int) (x8_1 : Int) (x1001_1 : Int) (xz0 : List Int) (u138019003 : Value), v7 = .int .i64 x7_1 ∧ v8 = .int .i64 x8_1 ∧ Aside0 (spec_randomImage.l0 kq tz3 x7_1 x8_1 s0_0 x1001_1 tz0 tz1 tz2 xz0 = some (r1, r2, r3, r4, r5)) ∧ Aside0 (kq ≤ k) ∧ Aside0 (Kd.R (Kd.int .i64) 3 w' w.heap.size (fun _ => True) u138019003 xz0) ∧ Aside0 (w'.heap[gbz1]? = some (.cells #[.int .i64 0, .int .i64 0, .int .i64 0, (.slice none 0 0)] 27 (0, 0))) ∧ Aside0 (w'.heap[gbz0]? = some (.cells #[.int .i64 tz0, .int .i64 tz1, .int .i64 tz2, u138019003] 27 (0, 0))) ∧ Aside0 (IsS144 w0 w' g s0_0 x1001_1) ∧ Aside0 (KeepBut w w' g none) ∧ Aside0 (Below w0.heap.size w0 w'))
 case atStart => exact ⟨(tz16), (0), (tz17), (tz4), (.slice Ao22 tz4.length co22), (by rfl), (by rfl), H', ⟨Nat.le_refl _⟩, ⟨by (with_reducible repeat (first | apply Kd.R_alloc | apply Kd.R_drewN | apply Kd.R_drew)); exact Kd.R_mono HOz3.out (fun _ hk => trivial)⟩, ⟨by (with_reducible repeat (first | refine blk_drewN ?_ _ | refine blk_drew ?_ | refine blk_alloc ?_ _)); exact BKz1.out⟩, ⟨by (with_reducible repeat (first | refine blk_drewN ?_ _ | refine blk_drew ?_ | refine blk_alloc ?_ _)); exact BKz0.out⟩, ⟨by exact HI0.out⟩, ⟨by exact HK.out⟩, ⟨by exact HB.out⟩⟩
 case round =>
  clear H'
  try clear c1
  try clear c2
  try clear p2
  try clear c11
  try clear c12
  try clear c13
  try clear c14
  try clear c19
  try clear c20
  try clear hcz21_0
  try clear hcz21_1
  try clear hcz21_2
  try clear hcz21_3
  try clear hfz21_0
  try clear hfz21_1
  try clear hfz21_2
  try clear hfz21_3
  obtain ⟨x7_1, x8_1, x1001_1, xz0, u138019003, rfl, rfl, HA, HK1, HOz0, BKz1, BKz0, HI0, HK, HB⟩ := hrel
  cases gk with
  | zero => exact absurd HA.out (by simp [spec_randomImage.l0])
  | succ k1 =>
   have H := HA.out
   clear HA
   simp only [spec_randomImage.l0] at H
   by_cases c25 : x8_1 < (xz0.length : Int)
   ·rw [if_pos c25] at H
    have c25b0 : decide (x8_1 < (xz0.length : Int)) = true := decide_eq_true c25
    clear c25
    by_cases c26 : tz3 = 0
    ·rw [if_pos c26] at H
     have c26b0 : (tz3 == 0) = true := beq_iff_eq.mpr c26
     have c26b1 : (tz3 != 0) = false := bne_eq_false_iff_eq.mpr c26
     clear c26
     replace H := Option.bind_eq_some_iff.mp H
     obtain ⟨⟨tz6, tz13⟩, A270, H⟩ := H
     replace H : (if 0 ≤ x8_1 then (spec_randomImage.l0 k1 tz3 tz6 (wrap64 (x8_1 + 1)) s0_0 tz13 tz0 tz1 tz2 (xz0.set (x8_1 : Int).toNat tz6)) else none) = some (r1, r2, r3, r4, r5) := H
     have A27 := mk A270
     clear A270
     by_cases c28 : 0 ≤ x8_1
     ·rw [if_pos c28] at H
      have c28b0 : decide (0 ≤ x8_1) = true := decide_eq_true c28
      clear c28
      obtain ⟨yz2, hyz2⟩ : ∃ y_ : List Int, y_ = (xz0.set (x8_1 : Int).toNat tz6) := ⟨_, rfl⟩
      replace H : (spec_randomImage.l0 k1 tz3 tz6 (wrap64 (x8_1 + 1)) s0_0 tz13 tz0 tz1 tz2 yz2) = some (r1, r2, r3, r4, r5) := by (rw [hyz2]; with_reducible exact H)
      have Nyz2 := mk hyz2
      clear hyz2
      have H' := mk H
      clear H
      have hnb30 := NBz3.out
      have hnc30 := NBz0.out
      have hnb31 := NBz1.out
      have hnc31 := NBz2.out
      have hcz32_0 : wr.cell? ⟨gbz0, 0, none⟩ = some (.int .i64 tz0) := (blk_cell BKz0.out 0).trans rfl
      have hcz32_1 : wr.cell? ⟨gbz0, 1, none⟩ = some (.int .i64 tz1) := (blk_cell BKz0.out 1).trans rfl
      have hcz32_2 : wr.cell? ⟨gbz0, 2, none⟩ = some (.int .i64 tz2) := (blk_cell BKz0.out 2).trans rfl
      have hcz32_3 : wr.cell? ⟨gbz0, 3, none⟩ = some u138019003 := (blk_cell BKz0.out 3).trans rfl
      have hfz32_0 := blk_frozen BKz0.out 0
      have hfz32_1 := blk_frozen BKz0.out 1
      have hfz32_2 := blk_frozen BKz0.out 2
      have hfz32_3 := blk_frozen BKz0.out 3
      obtain ⟨Ao33, co33, eo33⟩ := Kd.R_slice HOz0.out
      subst eo33
      go_wp2_with (first | ((with_reducible refine gate_callee (f := 127) rfl ?_); refine goesL_ (some 32) rfl rfl Try.func127 (by kernel_rfl) rfl #[.pointer (some ⟨g, 0, none⟩), .int .i64 256] rfl (by (try simp only [List.map_toArray, List.map_cons, List.map_nil]); rfl) ?_; (with_reducible refine (spec_reader_pick.calls k1 g s0_0 x1001_1 256 tz6 tz13 w0 _ ?side1 ?side2 A27.out).mono ?_); (case side1 => repeat (with_reducible exact HI0.out)); (case side2 => repeat (with_reducible exact HB.out)); rintro e w34 ⟨rfl, hi, hb, hk⟩; refine ⟨_, rfl, ?_⟩; have n0_ := mk (Kd.R_mono (Kd.R_keep (IsS144.apart (show IsS144 w0 _ g s0_0 x1001_1 from by exact HI0.out) HOz0.out (by decide)) hk (fun _ h => h.2)) (fun _ h => h.1)); have n1_ := mk (KeepBut.blk hk (g' := gbz1) (o := .cells #[.int .i64 0, .int .i64 0, .int .i64 0, .slice none 0 0] 27 (0, 0)) BKz1.out NBz4.out (by simp)); have n2_ := mk (KeepBut.blk hk (g' := gbz0) (o := .cells #[.int .i64 tz0, .int .i64 tz1, .int .i64 tz2, .slice Ao33 xz0.length co33] 27 (0, 0)) BKz0.out NBz1.out (by simp)); have n3_ := mk (KeepBut.trans HK.out hk (.inl rfl)); have n4_ := mk (hb); have n5_ := mk (hi); clear HOz0; clear BKz1; clear BKz0; clear HK; clear HB; clear HI0; have HOz0 := n0_; have BKz1 := n1_; have BKz0 := n2_; have HK := n3_; have HB := n4_; have HI0 := n5_; clear n0_ n1_ n2_ n3_ n4_ n5_; (try clear hb); (try clear hk); (try clear hi); have hcz35_0 : w34.cell? ⟨gbz0, 0, none⟩ = some (.int .i64 tz0) := (blk_cell BKz0.out 0).trans rfl; have hcz35_1 : w34.cell? ⟨gbz0, 1, none⟩ = some (.int .i64 tz1) := (blk_cell BKz0.out 1).trans rfl; have hcz35_2 : w34.cell? ⟨gbz0, 2, none⟩ = some (.int .i64 tz2) := (blk_cell BKz0.out 2).trans rfl; have hcz35_3 : w34.cell? ⟨gbz0, 3, none⟩ = some (.slice Ao33 xz0.length co33) := (blk_cell BKz0.out 3).trans rfl; have hfz35_0 := blk_frozen BKz0.out 0; have hfz35_1 := blk_frozen BKz0.out 1; have hfz35_2 := blk_frozen BKz0.out 2; have hfz35_3 := blk_frozen BKz0.out 3; have p29 : 0 ≤ (x8_1 : Int) := of_decide_eq_true (by (with_reducible assumption)); have q29 : (x8_1 : Int) < ((xz0.length : Int) : Int) := of_decide_eq_true (by (with_reducible assumption)); obtain ⟨go29, co29, eo29, gb29, gl29, cl29, HG29⟩ := Kd.R_form HOz0.out (by omega); (cases eo29); have GB29 := mk gb29; have GG29 := mk HG29; clear gb29 gl29 HG29; obtain ⟨hx29_0, hf29_0⟩ := Kd.R_celln 0 HOz0.out (x8_1 : Int) p29 q29; replace p29 := eq_true p29; replace q29 := eq_true q29; obtain ⟨hy36_, hz36_⟩ := Kd.R_celln 0 HOz0.out (x8_1 : Int) (of_decide_eq_true (by (with_reducible assumption))) (of_decide_eq_true (by (with_reducible assumption))); have HP36 := Kd.R_putg HOz0.out (x8_1 : Int) tz6) | ((with_reducible refine gate_store (t := 3) (p := 50) rfl ?_); refine store_event (t := 3) (p := 50) (v := ?vo_w37) (w1 := (w34.setCell ⟨go29, (x8_1 : Int).toNat, none⟩ (.int .i64 tz6))) ?hg ?ho ?hn ?hr ?_; (case ho => rfl); (case hg => rfl); (case hn => rfl); (case hr => (go_simp; done)); intro w37 hw; have hg : w34.grownBy w37 (some go29) := (by rw [hw]; exact HP36.2); have hp_ : Kd.R (Kd.int .i64) 3 w37 w.heap.size (fun _ => True) (.slice (some ⟨go29, 0, none⟩) xz0.length co33) yz2 := (by rw [hw, Nyz2.out]; exact HP36.1); clear HP36; have n0_ := mk (hp_); have n1_ := mk (blk_grown (g := gbz1) (o := .cells #[.int .i64 0, .int .i64 0, .int .i64 0, .slice none 0 0] 27 (0, 0)) BKz1.out hg (Kd.R_ne HOz0.out BKz1.out (by decide))); have n2_ := mk (blk_grown (g := gbz0) (o := .cells #[.int .i64 tz0, .int .i64 tz1, .int .i64 tz2, .slice (some ⟨go29, 0, none⟩) xz0.length co33] 27 (0, 0)) BKz0.out hg (Kd.R_ne HOz0.out BKz0.out (by decide))); have n3_ := mk (IsS144.grown HI0.out hg (IsS144.own_ne HI0.out HOz0.out (by decide))); have n4_ := mk ((by rw [hw]; exact below_set HB.out (Nat.le_trans HL.out GB29.out) : Below w0.heap.size w0 w37)); have n5_ := mk (KeepBut.trans HK.out (KeepBut.of_grown hg g) (Kd.R_base2 HOz0.out)); clear HOz0; clear BKz1; clear BKz0; clear HI0; clear HB; clear HK; have HOz0 := n0_; have BKz1 := n1_; have BKz0 := n2_; have HI0 := n3_; have HB := n4_; have HK := n5_; clear n0_ n1_ n2_ n3_ n4_ n5_; clear hg hw hp_))
      go_roundg k1
      case measure => have := HK1.out; omega
      case rel => exact ⟨(tz6), (wrap64 (x8_1 + 1)), (tz13), (yz2), (.slice (some ⟨go29, 0, none⟩) xz0.length co33), (by rfl), (by rfl), H', ⟨by have := HK1.out; omega⟩, ⟨by (with_reducible repeat (first | apply Kd.R_alloc | apply Kd.R_drewN | apply Kd.R_drew)); exact HOz0.out⟩, ⟨by (with_reducible repeat (first | refine blk_drewN ?_ _ | refine blk_drew ?_ | refine blk_alloc ?_ _)); exact BKz1.out⟩, ⟨by (with_reducible repeat (first | refine blk_drewN ?_ _ | refine blk_drew ?_ | refine blk_alloc ?_ _)); exact BKz0.out⟩, ⟨by exact HI0.out⟩, ⟨by exact HK.out⟩, ⟨by exact HB.out⟩⟩
     rw [if_neg c28] at H
     exact absurd H (by simp)
    rw [if_neg c26] at H
    have c26b0 : (tz3 == 0) = false := beq_eq_false_iff_ne.mpr c26
    have c26b1 : (tz3 != 0) = true := bne_iff_ne.mpr c26
    by_cases c38 : tz3 = 1
    ·rw [if_pos c38] at H
     have c38b0 : (tz3 == 1) = true := beq_iff_eq.mpr c38
     have c38b1 : (tz3 != 1) = false := bne_eq_false_iff_eq.mpr c38
     clear c38
     replace H := Option.bind_eq_some_iff.mp H
     obtain ⟨⟨tz7, tz14⟩, A390, H⟩ := H
     replace H : (if 0 ≤ x8_1 then (spec_randomImage.l0 k1 tz3 (Int.tmod (wrap64 ((wrap64 (x7_1 + tz7)) + 254)) 256) (wrap64 (x8_1 + 1)) s0_0 tz14 tz0 tz1 tz2 (xz0.set (x8_1 : Int).toNat (Int.tmod (wrap64 ((wrap64 (x7_1 + tz7)) + 254)) 256))) else none) = some (r1, r2, r3, r4, r5) := H
     have A39 := mk A390
     clear A390
     by_cases c40 : 0 ≤ x8_1
     ·rw [if_pos c40] at H
      have c40b0 : decide (0 ≤ x8_1) = true := decide_eq_true c40
      clear c40
      obtain ⟨yz3, hyz3⟩ : ∃ y_ : List Int, y_ = (xz0.set (x8_1 : Int).toNat (Int.tmod (wrap64 ((wrap64 (x7_1 + tz7)) + 254)) 256)) := ⟨_, rfl⟩
      replace H : (spec_randomImage.l0 k1 tz3 (Int.tmod (wrap64 ((wrap64 (x7_1 + tz7)) + 254)) 256) (wrap64 (x8_1 + 1)) s0_0 tz14 tz0 tz1 tz2 yz3) = some (r1, r2, r3, r4, r5) := by (rw [hyz3]; with_reducible exact H)
      have Nyz3 := mk hyz3
      clear hyz3
      have H' := mk H
      clear H
      have hnb42 := NBz3.out
      have hnc42 := NBz0.out
      have hnb43 := NBz1.out
      have hnc43 := NBz2.out
      have hcz44_0 : wr.cell? ⟨gbz0, 0, none⟩ = some (.int .i64 tz0) := (blk_cell BKz0.out 0).trans rfl
      have hcz44_1 : wr.cell? ⟨gbz0, 1, none⟩ = some (.int .i64 tz1) := (blk_cell BKz0.out 1).trans rfl
      have hcz44_2 : wr.cell? ⟨gbz0, 2, none⟩ = some (.int .i64 tz2) := (blk_cell BKz0.out 2).trans rfl
      have hcz44_3 : wr.cell? ⟨gbz0, 3, none⟩ = some u138019003 := (blk_cell BKz0.out 3).trans rfl
      have hfz44_0 := blk_frozen BKz0.out 0
      have hfz44_1 := blk_frozen BKz0.out 1
      have hfz44_2 := blk_frozen BKz0.out 2
      have hfz44_3 := blk_frozen BKz0.out 3
      obtain ⟨Ao45, co45, eo45⟩ := Kd.R_slice HOz0.out
      subst eo45
      go_wp2_with (first | ((with_reducible refine gate_callee (f := 127) rfl ?_); refine goesL_ (some 37) rfl rfl Try.func127 (by kernel_rfl) rfl #[.pointer (some ⟨g, 0, none⟩), .int .i64 5] rfl (by (try simp only [List.map_toArray, List.map_cons, List.map_nil]); rfl) ?_; (with_reducible refine (spec_reader_pick.calls k1 g s0_0 x1001_1 5 tz7 tz14 w0 _ ?side1 ?side2 A39.out).mono ?_); (case side1 => repeat (with_reducible exact HI0.out)); (case side2 => repeat (with_reducible exact HB.out)); rintro e w46 ⟨rfl, hi, hb, hk⟩; refine ⟨_, rfl, ?_⟩; have n0_ := mk (Kd.R_mono (Kd.R_keep (IsS144.apart (show IsS144 w0 _ g s0_0 x1001_1 from by exact HI0.out) HOz0.out (by decide)) hk (fun _ h => h.2)) (fun _ h => h.1)); have n1_ := mk (KeepBut.blk hk (g' := gbz1) (o := .cells #[.int .i64 0, .int .i64 0, .int .i64 0, .slice none 0 0] 27 (0, 0)) BKz1.out NBz4.out (by simp)); have n2_ := mk (KeepBut.blk hk (g' := gbz0) (o := .cells #[.int .i64 tz0, .int .i64 tz1, .int .i64 tz2, .slice Ao45 xz0.length co45] 27 (0, 0)) BKz0.out NBz1.out (by simp)); have n3_ := mk (KeepBut.trans HK.out hk (.inl rfl)); have n4_ := mk (hb); have n5_ := mk (hi); clear HOz0; clear BKz1; clear BKz0; clear HK; clear HB; clear HI0; have HOz0 := n0_; have BKz1 := n1_; have BKz0 := n2_; have HK := n3_; have HB := n4_; have HI0 := n5_; clear n0_ n1_ n2_ n3_ n4_ n5_; (try clear hb); (try clear hk); (try clear hi); have hcz47_0 : w46.cell? ⟨gbz0, 0, none⟩ = some (.int .i64 tz0) := (blk_cell BKz0.out 0).trans rfl; have hcz47_1 : w46.cell? ⟨gbz0, 1, none⟩ = some (.int .i64 tz1) := (blk_cell BKz0.out 1).trans rfl; have hcz47_2 : w46.cell? ⟨gbz0, 2, none⟩ = some (.int .i64 tz2) := (blk_cell BKz0.out 2).trans rfl; have hcz47_3 : w46.cell? ⟨gbz0, 3, none⟩ = some (.slice Ao45 xz0.length co45) := (blk_cell BKz0.out 3).trans rfl; have hfz47_0 := blk_frozen BKz0.out 0; have hfz47_1 := blk_frozen BKz0.out 1; have hfz47_2 := blk_frozen BKz0.out 2; have hfz47_3 := blk_frozen BKz0.out 3; have p41 : 0 ≤ (x8_1 : Int) := of_decide_eq_true (by (with_reducible assumption)); have q41 : (x8_1 : Int) < ((xz0.length : Int) : Int) := of_decide_eq_true (by (with_reducible assumption)); obtain ⟨go41, co41, eo41, gb41, gl41, cl41, HG41⟩ := Kd.R_form HOz0.out (by omega); (cases eo41); have GB41 := mk gb41; have GG41 := mk HG41; clear gb41 gl41 HG41; obtain ⟨hx41_0, hf41_0⟩ := Kd.R_celln 0 HOz0.out (x8_1 : Int) p41 q41; replace p41 := eq_true p41; replace q41 := eq_true q41; obtain ⟨hy48_, hz48_⟩ := Kd.R_celln 0 HOz0.out (x8_1 : Int) (of_decide_eq_true (by (with_reducible assumption))) (of_decide_eq_true (by (with_reducible assumption))); have HP48 := Kd.R_putg HOz0.out (x8_1 : Int) (Int.tmod (wrap64 ((wrap64 (x7_1 + tz7)) + 254)) 256)) | ((with_reducible refine gate_store (t := 3) (p := 50) rfl ?_); refine store_event (t := 3) (p := 50) (v := ?vo_w49) (w1 := (w46.setCell ⟨go41, (x8_1 : Int).toNat, none⟩ (.int .i64 (Int.tmod (wrap64 ((wrap64 (x7_1 + tz7)) + 254)) 256)))) ?hg ?ho ?hn ?hr ?_; (case ho => rfl); (case hg => rfl); (case hn => rfl); (case hr => (go_simp; done)); intro w49 hw; have hg : w46.grownBy w49 (some go41) := (by rw [hw]; exact HP48.2); have hp_ : Kd.R (Kd.int .i64) 3 w49 w.heap.size (fun _ => True) (.slice (some ⟨go41, 0, none⟩) xz0.length co45) yz3 := (by rw [hw, Nyz3.out]; exact HP48.1); clear HP48; have n0_ := mk (hp_); have n1_ := mk (blk_grown (g := gbz1) (o := .cells #[.int .i64 0, .int .i64 0, .int .i64 0, .slice none 0 0] 27 (0, 0)) BKz1.out hg (Kd.R_ne HOz0.out BKz1.out (by decide))); have n2_ := mk (blk_grown (g := gbz0) (o := .cells #[.int .i64 tz0, .int .i64 tz1, .int .i64 tz2, .slice (some ⟨go41, 0, none⟩) xz0.length co45] 27 (0, 0)) BKz0.out hg (Kd.R_ne HOz0.out BKz0.out (by decide))); have n3_ := mk (IsS144.grown HI0.out hg (IsS144.own_ne HI0.out HOz0.out (by decide))); have n4_ := mk ((by rw [hw]; exact below_set HB.out (Nat.le_trans HL.out GB41.out) : Below w0.heap.size w0 w49)); have n5_ := mk (KeepBut.trans HK.out (KeepBut.of_grown hg g) (Kd.R_base2 HOz0.out)); clear HOz0; clear BKz1; clear BKz0; clear HI0; clear HB; clear HK; have HOz0 := n0_; have BKz1 := n1_; have BKz0 := n2_; have HI0 := n3_; have HB := n4_; have HK := n5_; clear n0_ n1_ n2_ n3_ n4_ n5_; clear hg hw hp_))
      go_roundg k1
      case measure => have := HK1.out; omega
      case rel => exact ⟨(Int.tmod (wrap64 ((wrap64 (x7_1 + tz7)) + 254)) 256), (wrap64 (x8_1 + 1)), (tz14), (yz3), (.slice (some ⟨go41, 0, none⟩) xz0.length co45), (by rfl), (by rfl), H', ⟨by have := HK1.out; omega⟩, ⟨by (with_reducible repeat (first | apply Kd.R_alloc | apply Kd.R_drewN | apply Kd.R_drew)); exact HOz0.out⟩, ⟨by (with_reducible repeat (first | refine blk_drewN ?_ _ | refine blk_drew ?_ | refine blk_alloc ?_ _)); exact BKz1.out⟩, ⟨by (with_reducible repeat (first | refine blk_drewN ?_ _ | refine blk_drew ?_ | refine blk_alloc ?_ _)); exact BKz0.out⟩, ⟨by exact HI0.out⟩, ⟨by exact HK.out⟩, ⟨by exact HB.out⟩⟩
     rw [if_neg c40] at H
     exact absurd H (by simp)
    rw [if_neg c38] at H
    have c38b0 : (tz3 == 1) = false := beq_eq_false_iff_ne.mpr c38
    have c38b1 : (tz3 != 1) = true := bne_iff_ne.mpr c38
    by_cases c50 : tz3 = 2
    ·rw [if_pos c50] at H
     have c50b0 : (tz3 == 2) = true := beq_iff_eq.mpr c50
     have c50b1 : (tz3 != 2) = false := bne_eq_false_iff_eq.mpr c50
     clear c50
     replace H := Option.bind_eq_some_iff.mp H
     obtain ⟨⟨tz8, tz15⟩, A510, H⟩ := H
     replace H : (if 0 ≤ x8_1 then (spec_randomImage.l0 k1 tz3 (wrap64 (60 * tz8)) (wrap64 (x8_1 + 1)) s0_0 tz15 tz0 tz1 tz2 (xz0.set (x8_1 : Int).toNat (wrap64 (60 * tz8)))) else none) = some (r1, r2, r3, r4, r5) := H
     have A51 := mk A510
     clear A510
     by_cases c52 : 0 ≤ x8_1
     ·rw [if_pos c52] at H
      have c52b0 : decide (0 ≤ x8_1) = true := decide_eq_true c52
      clear c52
      obtain ⟨yz4, hyz4⟩ : ∃ y_ : List Int, y_ = (xz0.set (x8_1 : Int).toNat (wrap64 (60 * tz8))) := ⟨_, rfl⟩
      replace H : (spec_randomImage.l0 k1 tz3 (wrap64 (60 * tz8)) (wrap64 (x8_1 + 1)) s0_0 tz15 tz0 tz1 tz2 yz4) = some (r1, r2, r3, r4, r5) := by (rw [hyz4]; with_reducible exact H)
      have Nyz4 := mk hyz4
      clear hyz4
      have H' := mk H
      clear H
      have hnb54 := NBz3.out
      have hnc54 := NBz0.out
      have hnb55 := NBz1.out
      have hnc55 := NBz2.out
      have hcz56_0 : wr.cell? ⟨gbz0, 0, none⟩ = some (.int .i64 tz0) := (blk_cell BKz0.out 0).trans rfl
      have hcz56_1 : wr.cell? ⟨gbz0, 1, none⟩ = some (.int .i64 tz1) := (blk_cell BKz0.out 1).trans rfl
      have hcz56_2 : wr.cell? ⟨gbz0, 2, none⟩ = some (.int .i64 tz2) := (blk_cell BKz0.out 2).trans rfl
      have hcz56_3 : wr.cell? ⟨gbz0, 3, none⟩ = some u138019003 := (blk_cell BKz0.out 3).trans rfl
      have hfz56_0 := blk_frozen BKz0.out 0
      have hfz56_1 := blk_frozen BKz0.out 1
      have hfz56_2 := blk_frozen BKz0.out 2
      have hfz56_3 := blk_frozen BKz0.out 3
      obtain ⟨Ao57, co57, eo57⟩ := Kd.R_slice HOz0.out
      subst eo57
      go_wp2_with (first | ((with_reducible refine gate_callee (f := 127) rfl ?_); refine goesL_ (some 44) rfl rfl Try.func127 (by kernel_rfl) rfl #[.pointer (some ⟨g, 0, none⟩), .int .i64 4] rfl (by (try simp only [List.map_toArray, List.map_cons, List.map_nil]); rfl) ?_; (with_reducible refine (spec_reader_pick.calls k1 g s0_0 x1001_1 4 tz8 tz15 w0 _ ?side1 ?side2 A51.out).mono ?_); (case side1 => repeat (with_reducible exact HI0.out)); (case side2 => repeat (with_reducible exact HB.out)); rintro e w58 ⟨rfl, hi, hb, hk⟩; refine ⟨_, rfl, ?_⟩; have n0_ := mk (Kd.R_mono (Kd.R_keep (IsS144.apart (show IsS144 w0 _ g s0_0 x1001_1 from by exact HI0.out) HOz0.out (by decide)) hk (fun _ h => h.2)) (fun _ h => h.1)); have n1_ := mk (KeepBut.blk hk (g' := gbz1) (o := .cells #[.int .i64 0, .int .i64 0, .int .i64 0, .slice none 0 0] 27 (0, 0)) BKz1.out NBz4.out (by simp)); have n2_ := mk (KeepBut.blk hk (g' := gbz0) (o := .cells #[.int .i64 tz0, .int .i64 tz1, .int .i64 tz2, .slice Ao57 xz0.length co57] 27 (0, 0)) BKz0.out NBz1.out (by simp)); have n3_ := mk (KeepBut.trans HK.out hk (.inl rfl)); have n4_ := mk (hb); have n5_ := mk (hi); clear HOz0; clear BKz1; clear BKz0; clear HK; clear HB; clear HI0; have HOz0 := n0_; have BKz1 := n1_; have BKz0 := n2_; have HK := n3_; have HB := n4_; have HI0 := n5_; clear n0_ n1_ n2_ n3_ n4_ n5_; (try clear hb); (try clear hk); (try clear hi); have hcz59_0 : w58.cell? ⟨gbz0, 0, none⟩ = some (.int .i64 tz0) := (blk_cell BKz0.out 0).trans rfl; have hcz59_1 : w58.cell? ⟨gbz0, 1, none⟩ = some (.int .i64 tz1) := (blk_cell BKz0.out 1).trans rfl; have hcz59_2 : w58.cell? ⟨gbz0, 2, none⟩ = some (.int .i64 tz2) := (blk_cell BKz0.out 2).trans rfl; have hcz59_3 : w58.cell? ⟨gbz0, 3, none⟩ = some (.slice Ao57 xz0.length co57) := (blk_cell BKz0.out 3).trans rfl; have hfz59_0 := blk_frozen BKz0.out 0; have hfz59_1 := blk_frozen BKz0.out 1; have hfz59_2 := blk_frozen BKz0.out 2; have hfz59_3 := blk_frozen BKz0.out 3; have p53 : 0 ≤ (x8_1 : Int) := of_decide_eq_true (by (with_reducible assumption)); have q53 : (x8_1 : Int) < ((xz0.length : Int) : Int) := of_decide_eq_true (by (with_reducible assumption)); obtain ⟨go53, co53, eo53, gb53, gl53, cl53, HG53⟩ := Kd.R_form HOz0.out (by omega); (cases eo53); have GB53 := mk gb53; have GG53 := mk HG53; clear gb53 gl53 HG53; obtain ⟨hx53_0, hf53_0⟩ := Kd.R_celln 0 HOz0.out (x8_1 : Int) p53 q53; replace p53 := eq_true p53; replace q53 := eq_true q53; obtain ⟨hy60_, hz60_⟩ := Kd.R_celln 0 HOz0.out (x8_1 : Int) (of_decide_eq_true (by (with_reducible assumption))) (of_decide_eq_true (by (with_reducible assumption))); have HP60 := Kd.R_putg HOz0.out (x8_1 : Int) (wrap64 (60 * tz8))) | ((with_reducible refine gate_store (t := 3) (p := 50) rfl ?_); refine store_event (t := 3) (p := 50) (v := ?vo_w61) (w1 := (w58.setCell ⟨go53, (x8_1 : Int).toNat, none⟩ (.int .i64 (wrap64 (60 * tz8))))) ?hg ?ho ?hn ?hr ?_; (case ho => rfl); (case hg => rfl); (case hn => rfl); (case hr => (go_simp; done)); intro w61 hw; have hg : w58.grownBy w61 (some go53) := (by rw [hw]; exact HP60.2); have hp_ : Kd.R (Kd.int .i64) 3 w61 w.heap.size (fun _ => True) (.slice (some ⟨go53, 0, none⟩) xz0.length co57) yz4 := (by rw [hw, Nyz4.out]; exact HP60.1); clear HP60; have n0_ := mk (hp_); have n1_ := mk (blk_grown (g := gbz1) (o := .cells #[.int .i64 0, .int .i64 0, .int .i64 0, .slice none 0 0] 27 (0, 0)) BKz1.out hg (Kd.R_ne HOz0.out BKz1.out (by decide))); have n2_ := mk (blk_grown (g := gbz0) (o := .cells #[.int .i64 tz0, .int .i64 tz1, .int .i64 tz2, .slice (some ⟨go53, 0, none⟩) xz0.length co57] 27 (0, 0)) BKz0.out hg (Kd.R_ne HOz0.out BKz0.out (by decide))); have n3_ := mk (IsS144.grown HI0.out hg (IsS144.own_ne HI0.out HOz0.out (by decide))); have n4_ := mk ((by rw [hw]; exact below_set HB.out (Nat.le_trans HL.out GB53.out) : Below w0.heap.size w0 w61)); have n5_ := mk (KeepBut.trans HK.out (KeepBut.of_grown hg g) (Kd.R_base2 HOz0.out)); clear HOz0; clear BKz1; clear BKz0; clear HI0; clear HB; clear HK; have HOz0 := n0_; have BKz1 := n1_; have BKz0 := n2_; have HI0 := n3_; have HB := n4_; have HK := n5_; clear n0_ n1_ n2_ n3_ n4_ n5_; clear hg hw hp_))
      go_roundg k1
      case measure => have := HK1.out; omega
      case rel => exact ⟨(wrap64 (60 * tz8)), (wrap64 (x8_1 + 1)), (tz15), (yz4), (.slice (some ⟨go53, 0, none⟩) xz0.length co57), (by rfl), (by rfl), H', ⟨by have := HK1.out; omega⟩, ⟨by (with_reducible repeat (first | apply Kd.R_alloc | apply Kd.R_drewN | apply Kd.R_drew)); exact HOz0.out⟩, ⟨by (with_reducible repeat (first | refine blk_drewN ?_ _ | refine blk_drew ?_ | refine blk_alloc ?_ _)); exact BKz1.out⟩, ⟨by (with_reducible repeat (first | refine blk_drewN ?_ _ | refine blk_drew ?_ | refine blk_alloc ?_ _)); exact BKz0.out⟩, ⟨by exact HI0.out⟩, ⟨by exact HK.out⟩, ⟨by exact HB.out⟩⟩
     rw [if_neg c52] at H
     exact absurd H (by simp)
    rw [if_neg c50] at H
    have c50b0 : (tz3 == 2) = false := beq_eq_false_iff_ne.mpr c50
    have c50b1 : (tz3 != 2) = true := bne_iff_ne.mpr c50
    by_cases c62 : 0 ≤ x8_1
    ·rw [if_pos c62] at H
     have c62b0 : decide (0 ≤ x8_1) = true := decide_eq_true c62
     clear c62
     obtain ⟨yz5, hyz5⟩ : ∃ y_ : List Int, y_ = (xz0.set (x8_1 : Int).toNat x7_1) := ⟨_, rfl⟩
     replace H : (spec_randomImage.l0 k1 tz3 x7_1 (wrap64 (x8_1 + 1)) s0_0 x1001_1 tz0 tz1 tz2 yz5) = some (r1, r2, r3, r4, r5) := by (rw [hyz5]; with_reducible exact H)
     have Nyz5 := mk hyz5
     clear hyz5
     have H' := mk H
     clear H
     have hnb64 := NBz3.out
     have hnc64 := NBz0.out
     have hnb65 := NBz1.out
     have hnc65 := NBz2.out
     have hcz66_0 : wr.cell? ⟨gbz0, 0, none⟩ = some (.int .i64 tz0) := (blk_cell BKz0.out 0).trans rfl
     have hcz66_1 : wr.cell? ⟨gbz0, 1, none⟩ = some (.int .i64 tz1) := (blk_cell BKz0.out 1).trans rfl
     have hcz66_2 : wr.cell? ⟨gbz0, 2, none⟩ = some (.int .i64 tz2) := (blk_cell BKz0.out 2).trans rfl
     have hcz66_3 : wr.cell? ⟨gbz0, 3, none⟩ = some u138019003 := (blk_cell BKz0.out 3).trans rfl
     have hfz66_0 := blk_frozen BKz0.out 0
     have hfz66_1 := blk_frozen BKz0.out 1
     have hfz66_2 := blk_frozen BKz0.out 2
     have hfz66_3 := blk_frozen BKz0.out 3
     obtain ⟨Ao67, co67, eo67⟩ := Kd.R_slice HOz0.out
     subst eo67
     have p63 : 0 ≤ (x8_1 : Int) := of_decide_eq_true (by (with_reducible assumption))
     have q63 : (x8_1 : Int) < ((xz0.length : Int) : Int) := of_decide_eq_true (by (with_reducible assumption))
     obtain ⟨go63, co63, eo63, gb63, gl63, cl63, HG63⟩ := Kd.R_form HOz0.out (by omega)
     (cases eo63)
     have GB63 := mk gb63
     have GG63 := mk HG63
     clear gb63 gl63 HG63
     obtain ⟨hx63_0, hf63_0⟩ := Kd.R_celln 0 HOz0.out (x8_1 : Int) p63 q63
     replace p63 := eq_true p63
     replace q63 := eq_true q63
     have HP68 := Kd.R_putg HOz0.out (x8_1 : Int) x7_1
     go_wp2_with (first | ((with_reducible refine gate_store (t := 3) (p := 50) rfl ?_); refine store_event (t := 3) (p := 50) (v := ?vo_w69) (w1 := (wr.setCell ⟨go63, (x8_1 : Int).toNat, none⟩ (.int .i64 x7_1))) ?hg ?ho ?hn ?hr ?_; (case ho => rfl); (case hg => rfl); (case hn => rfl); (case hr => (go_simp; done)); intro w69 hw; have hg : wr.grownBy w69 (some go63) := (by rw [hw]; exact HP68.2); have hp_ : Kd.R (Kd.int .i64) 3 w69 w.heap.size (fun _ => True) (.slice (some ⟨go63, 0, none⟩) xz0.length co67) yz5 := (by rw [hw, Nyz5.out]; exact HP68.1); clear HP68; have n0_ := mk (hp_); have n1_ := mk (blk_grown (g := gbz1) (o := .cells #[.int .i64 0, .int .i64 0, .int .i64 0, .slice none 0 0] 27 (0, 0)) BKz1.out hg (Kd.R_ne HOz0.out BKz1.out (by decide))); have n2_ := mk (blk_grown (g := gbz0) (o := .cells #[.int .i64 tz0, .int .i64 tz1, .int .i64 tz2, .slice (some ⟨go63, 0, none⟩) xz0.length co67] 27 (0, 0)) BKz0.out hg (Kd.R_ne HOz0.out BKz0.out (by decide))); have n3_ := mk (IsS144.grown HI0.out hg (IsS144.own_ne HI0.out HOz0.out (by decide))); have n4_ := mk ((by rw [hw]; exact below_set HB.out (Nat.le_trans HL.out GB63.out) : Below w0.heap.size w0 w69)); have n5_ := mk (KeepBut.trans HK.out (KeepBut.of_grown hg g) (Kd.R_base2 HOz0.out)); clear HOz0; clear BKz1; clear BKz0; clear HI0; clear HB; clear HK; have HOz0 := n0_; have BKz1 := n1_; have BKz0 := n2_; have HI0 := n3_; have HB := n4_; have HK := n5_; clear n0_ n1_ n2_ n3_ n4_ n5_; clear hg hw hp_))
     go_roundg k1
     case measure => have := HK1.out; omega
     case rel => exact ⟨(x7_1), (wrap64 (x8_1 + 1)), (x1001_1), (yz5), (.slice (some ⟨go63, 0, none⟩) xz0.length co67), (by rfl), (by rfl), H', ⟨by have := HK1.out; omega⟩, ⟨by (with_reducible repeat (first | apply Kd.R_alloc | apply Kd.R_drewN | apply Kd.R_drew)); exact HOz0.out⟩, ⟨by (with_reducible repeat (first | refine blk_drewN ?_ _ | refine blk_drew ?_ | refine blk_alloc ?_ _)); exact BKz1.out⟩, ⟨by (with_reducible repeat (first | refine blk_drewN ?_ _ | refine blk_drew ?_ | refine blk_alloc ?_ _)); exact BKz0.out⟩, ⟨by exact HI0.out⟩, ⟨by exact HK.out⟩, ⟨by exact HB.out⟩⟩
    rw [if_neg c62] at H
    exact absurd H (by simp)
   rw [if_neg c25] at H
   have c25b0 : decide (x8_1 < (xz0.length : Int)) = false := decide_eq_false c25
   clear c25
   simp only [Option.some.injEq, Prod.mk.injEq] at H
   obtain ⟨rfl, rfl, rfl, rfl, rfl⟩ := H
   have hnb70 := NBz3.out
   have hnc70 := NBz0.out
   have hnb71 := NBz1.out
   have hnc71 := NBz2.out
   have hcz72_0 : wr.cell? ⟨gbz0, 0, none⟩ = some (.int .i64 tz0) := (blk_cell BKz0.out 0).trans rfl
   have hcz72_1 : wr.cell? ⟨gbz0, 1, none⟩ = some (.int .i64 tz1) := (blk_cell BKz0.out 1).trans rfl
   have hcz72_2 : wr.cell? ⟨gbz0, 2, none⟩ = some (.int .i64 tz2) := (blk_cell BKz0.out 2).trans rfl
   have hcz72_3 : wr.cell? ⟨gbz0, 3, none⟩ = some u138019003 := (blk_cell BKz0.out 3).trans rfl
   have hfz72_0 := blk_frozen BKz0.out 0
   have hfz72_1 := blk_frozen BKz0.out 1
   have hfz72_2 := blk_frozen BKz0.out 2
   have hfz72_3 := blk_frozen BKz0.out 3
   obtain ⟨Ao73, co73, eo73⟩ := Kd.R_slice HOz0.out
   subst eo73
   have hnb74 := NBz4.out
   have hnc74 := NBz5.out
   have hcz75_0 : wr.cell? ⟨gbz1, 0, none⟩ = some (.int .i64 0) := (blk_cell BKz1.out 0).trans rfl
   have hcz75_1 : wr.cell? ⟨gbz1, 1, none⟩ = some (.int .i64 0) := (blk_cell BKz1.out 1).trans rfl
   have hcz75_2 : wr.cell? ⟨gbz1, 2, none⟩ = some (.int .i64 0) := (blk_cell BKz1.out 2).trans rfl
   have hcz75_3 : wr.cell? ⟨gbz1, 3, none⟩ = some (.slice none 0 0) := (blk_cell BKz1.out 3).trans rfl
   have hfz75_0 := blk_frozen BKz1.out 0
   have hfz75_1 := blk_frozen BKz1.out 1
   have hfz75_2 := blk_frozen BKz1.out 2
   have hfz75_3 := blk_frozen BKz1.out 3
   go_wp2
   refine bodyPost_ret (results_cell_row rfl _ _ gbz1 27 #[.int .i64 tz0, .int .i64 tz1, .int .i64 tz2, .slice Ao73 xz0.length co73] (0, 0) _ rfl (by refine blk_put (cs := #[.int .i64 tz0, .int .i64 tz1, .int .i64 tz2, .slice none 0 0]) ?_ 3 _ rfl; refine blk_put (cs := #[.int .i64 tz0, .int .i64 tz1, .int .i64 0, .slice none 0 0]) ?_ 2 _ rfl; refine blk_put (cs := #[.int .i64 tz0, .int .i64 0, .int .i64 0, .slice none 0 0]) ?_ 1 _ rfl; refine blk_put (cs := #[.int .i64 0, .int .i64 0, .int .i64 0, .slice none 0 0]) ?_ 0 _ rfl; (with_reducible repeat (first | refine blk_drewN ?_ _ | refine blk_drew ?_ | refine blk_alloc ?_ _)); exact BKz1.out) Try.underlying27 rfl (by kernel_rfl)) rfl ?_
   exact ⟨_, by rfl, by (with_reducible repeat (first | apply Kd.R_alloc | apply Kd.R_drewN | apply Kd.R_drew)); exact Kd.R_mono (Kd.R_far (p := ⟨gbz1, 3, none⟩) (Kd.R_far (p := ⟨gbz1, 2, none⟩) (Kd.R_far (p := ⟨gbz1, 1, none⟩) (Kd.R_far (p := ⟨gbz1, 0, none⟩) (Kd.R_types HOz0.out BKz1.out (by decide)) (fun _ hk => hk.2) (.int .i64 tz0)) (fun _ hk => hk.2) (.int .i64 tz1)) (fun _ hk => hk.2) (.int .i64 tz2)) (fun _ hk => hk.2) (.slice Ao73 xz0.length co73)) (fun _ hk => trivial), by repeat (with_reducible first | exact HI0.out | refine IsS144.far ?_ NBz5.out _), by repeat (with_reducible first | exact HB.out | refine below_set ?_ GEz0.out), by repeat (with_reducible first | exact HK.out | refine keep_far ?_ GWz0.out _)⟩


def spec_anyPlanes.f (k : Nat) (s0_0 : List Int) (s0_1 : Int) : Option (Int × Int) := (spec_reader_one.f k s0_0 s0_1 (([1, 3, 1, 4, 2] : List Int))).bind fun bt139004 => (some (bt139004.1, bt139004.2))
theorem spec_anyPlanes.mono : ∀ a0 a1 k, LeO (spec_anyPlanes.f k a0 a1) (spec_anyPlanes.f (k + 1) a0 a1) := by
 intro a0 a1 k
 unfold spec_anyPlanes.f
 repeat' first
   | (with_reducible exact spec_reader_one.mono _ _ _ _)
   | (with_reducible exact LeO.refl _)
   | (with_reducible exact LeO.none _)
   | (with_reducible refine LeO.ite ?_ ?_)
   | (with_reducible refine LeO.bind ?_ (fun _ => ?_))
   | exact spec_reader_one.mono _ _ _ _
   | exact LeO.none _
   | refine LeO.ite ?_ ?_
   | refine LeO.bind ?_ (fun _ => ?_)
set_option maxHeartbeats 8000000 in
set_option maxRecDepth 100000 in
theorem spec_anyPlanes.calls (k : Nat) (g : Nat) (s0_0 : List Int) (s0_1 : Int) (r1 : Int) (r2 : Int) (w0 w : World) (hI : IsS144 w0 w g s0_0 s0_1) (hB : Below w0.heap.size w0 w) (h : spec_anyPlanes.f k s0_0 s0_1 = some (r1, r2)) :
  Calls Try.prog 138 #[.pointer (some ⟨g, 0, none⟩)] w fun e w' => e = .returned (.int .i64 r1) ∧ IsS144 w0 w' g s0_0 r2 ∧ Below w0.heap.size w0 w' ∧ KeepBut w w' g none := by
 have HI0 := mk hI
 have HK := mk (KeepBut.refl w g none)
 have HL := mk hB.size
 clear hI
 have HW0 := mk hB.size
 have HB := mk hB
 clear hB
 have H : ((spec_reader_one.f k s0_0 s0_1 (([1, 3, 1, 4, 2] : List Int))).bind fun bt139004 => (some (bt139004.1, bt139004.2))) = some (r1, r2) := h
 clear h
 obtain ⟨y139001, hy139001⟩ : ∃ y_ : List Int, y_ = (([1, 3, 1, 4, 2] : List Int)) := ⟨_, rfl⟩
 replace H : ((spec_reader_one.f k s0_0 s0_1 y139001).bind fun bt139004 => (some (bt139004.1, bt139004.2))) = some (r1, r2) := by first | (rw [hy139001]; with_reducible exact H) | (have H2_ := (Option.bind_some _ _).symm.trans H; rw [hy139001]; with_reducible exact H2_) | (have H2_ := (Option.bind_some _ _).symm.trans H; with_reducible exact H2_) | with_reducible exact H | (rw [hy139001]; exact H) | exact H
 have Ny139001 := mk hy139001
 clear hy139001
 replace H := Option.bind_eq_some_iff.mp H
 obtain ⟨⟨t139004, t139005⟩, A20, H⟩ := H
 replace H : (some (t139004, t139005)) = some (r1, r2) := H
 have A2 := mk A20
 clear A20
 simp only [Option.some.injEq, Prod.mk.injEq] at H
 obtain ⟨rfl, rfl⟩ := H
 go_enter Try.func138, Try.ntmps138
 go_wp2_with (first | ((with_reducible refine gate_dst (N := 4) rfl ?_); refine Kd.R_lit (Kd.int .i64) _ 3 ?hg (N := 4) ?hd (xs := ([1, 3, 1, 4, 2] : List Int)) (inner := [.int .i64 1, .int .i64 3, .int .i64 1, .int .i64 4, .int .i64 2]) (ok := fun _ => True) (okp := fun _ => True) ?hr ?hp (fun _ hk => hk) trivial (Below.refl _ _) (Nat.le_refl _) (by simp) ?_; (case hd => rfl); (case hg => rfl); (case hr => first | (go_simp; done) | (go_simp; rfl)); (case hp => exact (Reps.one (show Kd.M (Kd.int .i64) _ _ _ 1 [.int .i64 1] from rfl) (Reps.one (show Kd.M (Kd.int .i64) _ _ _ 3 [.int .i64 3] from rfl) (Reps.one (show Kd.M (Kd.int .i64) _ _ _ 1 [.int .i64 1] from rfl) (Reps.one (show Kd.M (Kd.int .i64) _ _ _ 4 [.int .i64 4] from rfl) (Reps.one (show Kd.M (Kd.int .i64) _ _ _ 2 [.int .i64 2] from rfl) (Reps.none _ _))))))); intro v139002 w3 ho4 hb hg_ hnew_; clear hg_ hnew_; (first | rw [← Ny139001.out] at ho4 | (simp only [Int.reduceToNat] at ho4; rw [← Ny139001.out] at ho4)); have n0_ := mk (Kd.R_lower ho4 (keep_size (w := w) (g := g) (row := none) (by repeat (first | (with_reducible first | exact HK.out | apply KeepBut.set_ | apply keep_drewN | apply keep_drew | apply keep_alloc) | exact HK.out)))); have n1_ := mk (IsS144.below (by repeat (first | (with_reducible first | exact HI0.out | apply IsS144.alloc | apply IsS144.drewN | apply IsS144.drew | apply IsS144.set_1) | exact HI0.out)) hb); have n2_ := mk (KeepBut.trans (by repeat (first | (with_reducible first | exact HK.out | apply KeepBut.set_ | apply keep_drewN | apply keep_drew | apply keep_alloc) | exact HK.out)) (KeepBut.of_below hb g none) (.inl rfl)); have n3_ := mk (below_step (by repeat (first | (with_reducible first | exact HB.out | apply below_alloc | apply pw_below_drewN | apply below_drew1 | refine below_set ?_ (IsS144.ge HI0.out)) | exact HB.out)) hb); clear HI0; clear HK; clear HB; have HO139003 := n0_; have HI0 := n1_; have HK := n2_; have HB := n3_; clear n0_ n1_ n2_ n3_; clear hb ho4; obtain ⟨Ao5, co5, eo5⟩ := Kd.R_slice HO139003.out; subst eo5) | ((with_reducible refine gate_callee (f := 147) rfl ?_); refine goesL_ (some 5) rfl rfl Try.func147 (by kernel_rfl) rfl #[.pointer (some ⟨g, 0, none⟩), .slice Ao5 y139001.length co5] rfl (by (try simp only [List.map_toArray, List.map_cons, List.map_nil]); first | done | rfl | (simp only [List.length_drop, List.length_take]; rfl)) ?_; (with_reducible refine (spec_reader_one.calls k g s0_0 s0_1 _ _ y139001 t139004 t139005 w0 _ ?side1 ?side2 ?side3 ?side4 ?side5 A2.out).mono ?_); (case side1 => repeat (first | (with_reducible first | exact HI0.out | apply IsS144.alloc | apply IsS144.drewN | apply IsS144.drew | apply IsS144.set_1) | exact HI0.out)); (case side2 => repeat (first | (with_reducible first | exact HB.out | apply below_alloc | apply pw_below_drewN | apply below_drew1 | refine below_set ?_ (IsS144.ge HI0.out)) | exact HB.out)); (case side3 => repeat (first | exact (Kd.R_reads' HO139003.out).2.2 | (with_reducible refine Kd.C_alloc ?_ _) | (with_reducible refine Kd.C_drewN ?_ _) | (with_reducible refine Kd.C_drew ?_))); (case side4 => exact (Kd.R_reads' HO139003.out).2.1); (case side5 => exact far_slice (IsS144.own_ne HI0.out HO139003.out (by decide))); rintro e w6 ⟨rfl, hi, hb, hk⟩; refine ⟨_, rfl, ?_⟩; have n0_ := mk (Kd.R_mono (Kd.R_keep (IsS144.apart (show IsS144 w0 _ g s0_0 s0_1 from by repeat (first | (with_reducible first | exact HI0.out | apply IsS144.alloc | apply IsS144.drewN | apply IsS144.drew | apply IsS144.set_1) | exact HI0.out)) (by (with_reducible repeat (first | apply Kd.R_alloc | apply Kd.R_drewN | apply Kd.R_drew)); exact HO139003.out) (by decide)) hk (fun _ h => h.2)) (fun _ h => h.1)); have n1_ := mk (KeepBut.trans (by repeat (first | (with_reducible first | exact HK.out | apply KeepBut.set_ | apply keep_drewN | apply keep_drew | apply keep_alloc) | exact HK.out)) hk (.inl rfl)); have n2_ := mk (hb); have n3_ := mk (hi); clear HO139003; clear HK; clear HB; clear HI0; have HO139003 := n0_; have HK := n1_; have HB := n2_; have HI0 := n3_; clear n0_ n1_ n2_ n3_; (try clear hb); (try clear hb2); (try clear hk); (try clear hi)))
 go_ret
 exact ⟨by first | rfl | (simp [errW_none, errW_some] <;> rfl) | (simp [*, errW_none, errW_some] <;> rfl), by repeat (first | (with_reducible first | exact HI0.out | apply IsS144.alloc | apply IsS144.drewN | apply IsS144.drew | apply IsS144.set_1) | exact HI0.out), by repeat (first | (with_reducible first | exact HB.out | apply below_alloc | apply pw_below_drewN | apply below_drew1 | refine below_set ?_ (IsS144.ge HI0.out)) | exact HB.out), by repeat (first | (with_reducible first | exact HK.out | apply KeepBut.set_ | apply keep_drewN | apply keep_drew | apply keep_alloc) | exact HK.out)⟩

end Go.Proofs.Ytnofkbbcbpjhfaa.Q

/- A row that may begin inside its block, and whose block is younger than was told. -/
namespace Go.Proofs.Ytnofkbbcbpjhfaa.Q
open Go.RowKit Go.Proofs.YtnofkbbcbpjhfaaW.PrintWords Go.Proofs.YtnofkbbcbpjhfaaW.PrintLast Go.Proofs.YtnofkbbcbpjhfaaW.PrintMore
attribute [local go_sem] max2_int min2_int max_two min_two max_three min_three max_four min_four
set_option linter.unusedVariables false
set_option linter.unusedSimpArgs false

theorem qraise {α : Type} {d : Kd α} {e : Nat} {W : World} {b b' : Nat} {ok : Nat → Prop} {v : Value} {xs : List α} (hM : ∀ w ok x cs, d.M w b ok x cs → d.M w b' ok x cs) (h : d.Q e W b ok v xs) (hb : ∀ k, v.ownBlock = some k → b' ≤ k) : d.Q e W b' ok v xs := by
  obtain ⟨h0, inner, ho, hr⟩ := h
  refine ⟨h0, inner, ?_, hr.imp_ (fun _ _ hp => hM _ _ _ _ hp)⟩
  obtain ⟨h1, h2⟩ := ho
  refine ⟨h1, ?_⟩
  rcases h2 with ⟨hz, A, rfl, hA⟩ | ⟨g, off, cap, cur, rfl, _, r⟩
  · refine .inl ⟨hz, A, rfl, fun a ha => ⟨?_, (hA a ha).2⟩⟩
    subst ha
    exact hb a.block (by simp [Value.ownBlock])
  · exact .inr ⟨g, off, cap, cur, rfl, hb g (by simp [Value.ownBlock]), r⟩
end Go.Proofs.Ytnofkbbcbpjhfaa.Q

namespace Go.Proofs.Ytnofkbbcbpjhfaa.Q
open Go.RowKit Go.Proofs.YtnofkbbcbpjhfaaW.PrintWords Go.Proofs.YtnofkbbcbpjhfaaW.PrintLast Go.Proofs.YtnofkbbcbpjhfaaW.PrintMore
open Go.Proofs.YtnofkbbcbpjhfaaW.PrintWords.Aside0 (mk)
attribute [local go_sem] max2_int min2_int max_two min_two max_three min_three max_four min_four
set_option linter.unusedVariables false
set_option linter.unusedSimpArgs false
def spec_anyImage.f (k : Nat) (s0_0 : List Int) (s0_1 : Int) : Option (Int × Int × Int × List Int × Int) := (spec_anyPlanes.f k s0_0 s0_1).bind fun bt95002 => ((spec_randomImage.f k s0_0 bt95002.2 bt95002.1).bind fun bt95004 => ((spec_spoilImage.f k s0_0 bt95004.2.2.2.2 bt95004.1 bt95004.2.1 bt95004.2.2.1 bt95004.2.2.2.1).bind fun bt95011 => (some (bt95011.1, bt95011.2.1, bt95011.2.2.1, bt95011.2.2.2.1, bt95011.2.2.2.2))))
theorem spec_anyImage.mono : ∀ a0 a1 k, LeO (spec_anyImage.f k a0 a1) (spec_anyImage.f (k + 1) a0 a1) := by
 intro a0 a1 k
 unfold spec_anyImage.f
 repeat' first
   | (with_reducible exact spec_anyPlanes.mono _ _ _)
   | (with_reducible exact spec_randomImage.mono _ _ _ _)
   | (with_reducible exact spec_spoilImage.mono _ _ _ _ _ _ _)
   | (with_reducible exact LeO.refl _)
   | (with_reducible exact LeO.none _)
   | (with_reducible refine LeO.ite ?_ ?_)
   | (with_reducible refine LeO.bind ?_ (fun _ => ?_))
   | exact spec_anyPlanes.mono _ _ _
   | exact spec_randomImage.mono _ _ _ _
   | exact spec_spoilImage.mono _ _ _ _ _ _ _
   | exact LeO.none _
   | refine LeO.ite ?_ ?_
   | refine LeO.bind ?_ (fun _ => ?_)
set_option maxHeartbeats 8000000 in
set_option maxRecDepth 100000 in
theorem spec_anyImage.calls (k : Nat) (g : Nat) (s0_0 : List Int) (s0_1 : Int) (r1 : Int) (r2 : Int) (r3 : Int) (r4 : List Int) (r5 : Int) (w0 w : World) (hI : IsS144 w0 w g s0_0 s0_1) (hB : Below w0.heap.size w0 w) (h : spec_anyImage.f k s0_0 s0_1 = some (r1, r2, r3, r4, r5)) :
  Calls Try.prog 94 #[.pointer (some ⟨g, 0, none⟩)] w fun e w' => ∃ v3_ : Value, e = .returned (.agg #[.int .i64 r1, .int .i64 r2, .int .i64 r3, v3_]) ∧ Kd.Q (Kd.int .i64) 3 w' w.heap.size (fun _ => True) v3_ r4 ∧ IsS144 w0 w' g s0_0 r5 ∧ Below w0.heap.size w0 w' ∧ KeepBut w w' g none := by
 have hu27 := Try.underlying27
 have HI0 := mk hI
 have HK := mk (KeepBut.refl w g none)
 have HL := mk hB.size
 clear hI
 have HW0 := mk hB.size
 have HB := mk hB
 clear hB
 have H : ((spec_anyPlanes.f k s0_0 s0_1).bind fun bt95002 => ((spec_randomImage.f k s0_0 bt95002.2 bt95002.1).bind fun bt95004 => ((spec_spoilImage.f k s0_0 bt95004.2.2.2.2 bt95004.1 bt95004.2.1 bt95004.2.2.1 bt95004.2.2.2.1).bind fun bt95011 => (some (bt95011.1, bt95011.2.1, bt95011.2.2.1, bt95011.2.2.2.1, bt95011.2.2.2.2))))) = some (r1, r2, r3, r4, r5) := h
 clear h
 replace H := Option.bind_eq_some_iff.mp H
 obtain ⟨⟨t95002, t95003⟩, A20, H⟩ := H
 replace H : ((spec_randomImage.f k s0_0 t95003 t95002).bind fun bt95004 => ((spec_spoilImage.f k s0_0 bt95004.2.2.2.2 bt95004.1 bt95004.2.1 bt95004.2.2.1 bt95004.2.2.2.1).bind fun bt95011 => (some (bt95011.1, bt95011.2.1, bt95011.2.2.1, bt95011.2.2.2.1, bt95011.2.2.2.2)))) = some (r1, r2, r3, r4, r5) := H
 have A2 := mk A20
 clear A20
 replace H := Option.bind_eq_some_iff.mp H
 obtain ⟨⟨t95004, t95005, t95006, t95007, t95010⟩, A30, H⟩ := H
 replace H : ((spec_spoilImage.f k s0_0 t95010 t95004 t95005 t95006 t95007).bind fun bt95011 => (some (bt95011.1, bt95011.2.1, bt95011.2.2.1, bt95011.2.2.2.1, bt95011.2.2.2.2))) = some (r1, r2, r3, r4, r5) := H
 have A3 := mk A30
 clear A30
 replace H := Option.bind_eq_some_iff.mp H
 obtain ⟨⟨t95011, t95012, t95013, t95014, t95017⟩, A40, H⟩ := H
 replace H : (some (t95011, t95012, t95013, t95014, t95017)) = some (r1, r2, r3, r4, r5) := H
 have A4 := mk A40
 clear A40
 simp only [Option.some.injEq, Prod.mk.injEq] at H
 obtain ⟨rfl, rfl, rfl, rfl, rfl⟩ := H
 go_enter Try.func94, Try.ntmps94
 go_wp2_with (first | ((with_reducible refine gate_dst (N := 2) rfl ?_); refine box_event ?hg (N := 2) ?hd (cs := #[.int .i64 0, .int .i64 0, .int .i64 0, .slice none 0 0]) (t := 27) ?hr ?_; (case hd => rfl); (case hg => rfl); (case hr => first | (go_simp; done) | (go_simp; rfl)); intro gb95001 hg w5 hbox hb; have n0_ := mk (IsS144.below (by repeat (first | (with_reducible first | exact HI0.out | apply IsS144.alloc | apply IsS144.drewN | apply IsS144.drew | apply IsS144.set_1) | exact HI0.out)) hb); have n1_ := mk (KeepBut.trans (by repeat (first | (with_reducible first | exact HK.out | apply KeepBut.set_ | apply keep_drewN | apply keep_drew | apply keep_alloc) | exact HK.out)) (KeepBut.of_below hb g none) (.inl rfl)); have n2_ := mk (below_step (by repeat (first | (with_reducible first | exact HB.out | apply below_alloc | apply pw_below_drewN | apply below_drew1 | refine below_set ?_ (IsS144.ge HI0.out)) | exact HB.out)) hb); have n3_ := mk (hbox); have n4_ := mk ((by rw [hg]; exact (keep_size (w := w) (g := g) (row := none) (by repeat (first | (with_reducible first | exact HK.out | apply KeepBut.set_ | apply keep_drewN | apply keep_drew | apply keep_alloc) | exact HK.out))) : w.heap.size ≤ gb95001)); have n5_ := mk ((Nat.le_trans HW0.out (by rw [hg]; exact (keep_size (w := w) (g := g) (row := none) (by repeat (first | (with_reducible first | exact HK.out | apply KeepBut.set_ | apply keep_drewN | apply keep_drew | apply keep_alloc) | exact HK.out))) : w.heap.size ≤ gb95001) : w0.heap.size ≤ gb95001)); have n6_ := mk ((by rw [hg]; exact Nat.ne_of_lt (IsS144.lt (show IsS144 w0 _ g s0_0 s0_1 from by repeat (first | (with_reducible first | exact HI0.out | apply IsS144.alloc | apply IsS144.drewN | apply IsS144.drew | apply IsS144.set_1) | exact HI0.out))) : g ≠ gb95001)); have n7_ := mk ((by rw [hg]; exact Nat.ne_of_gt (IsS144.lt (show IsS144 w0 _ g s0_0 s0_1 from by repeat (first | (with_reducible first | exact HI0.out | apply IsS144.alloc | apply IsS144.drewN | apply IsS144.drew | apply IsS144.set_1) | exact HI0.out))) : gb95001 ≠ g)); clear HI0; clear HK; clear HB; have HI0 := n0_; have HK := n1_; have HB := n2_; have BK95001 := n3_; have GW95001 := n4_; have GE95001 := n5_; have NB0_95001 := n6_; have NB95001_0 := n7_; clear n0_ n1_ n2_ n3_ n4_ n5_ n6_ n7_; clear hb hbox hg) | ((with_reducible refine gate_callee (f := 138) rfl ?_); refine goesL_ (some 6) rfl rfl Try.func138 (by kernel_rfl) rfl #[.pointer (some ⟨g, 0, none⟩)] rfl (by (try simp only [List.map_toArray, List.map_cons, List.map_nil]); first | done | rfl | (simp only [List.length_drop, List.length_take]; rfl)) ?_; (with_reducible refine (spec_anyPlanes.calls k g s0_0 s0_1 t95002 t95003 w0 _ ?side1 ?side2 A2.out).mono ?_); (case side1 => repeat (first | (with_reducible first | exact HI0.out | apply IsS144.alloc | apply IsS144.drewN | apply IsS144.drew | apply IsS144.set_1 | refine IsS144.far ?_ NB0_95001.out _) | exact HI0.out)); (case side2 => repeat (first | (with_reducible first | exact HB.out | apply below_alloc | apply pw_below_drewN | apply below_drew1 | refine below_set ?_ (IsS144.ge HI0.out) | refine below_set ?_ GE95001.out) | exact HB.out)); rintro e w6 ⟨rfl, hi, hb, hk⟩; refine ⟨_, rfl, ?_⟩; have n0_ := mk (KeepBut.blk hk (g' := gb95001) (o := .cells #[.int .i64 0, .int .i64 0, .int .i64 0, .slice none 0 0] 27 (0, 0)) (by (with_reducible repeat (first | refine blk_drewN ?_ _ | refine blk_drew ?_ | refine blk_alloc ?_ _)); exact BK95001.out) NB95001_0.out (by simp)); have n1_ := mk (KeepBut.trans (by repeat (first | (with_reducible first | exact HK.out | apply KeepBut.set_ | apply keep_drewN | apply keep_drew | apply keep_alloc | refine keep_far ?_ GW95001.out _) | exact HK.out)) hk (.inl rfl)); have n2_ := mk (hb); have n3_ := mk (hi); clear BK95001; clear HK; clear HB; clear HI0; have BK95001 := n0_; have HK := n1_; have HB := n2_; have HI0 := n3_; clear n0_ n1_ n2_ n3_; (try clear hb); (try clear hb2); (try clear hk); (try clear hi)) | ((with_reducible refine gate_callee (f := 137) rfl ?_); refine goesL_ (some 7) rfl rfl Try.func137 (by kernel_rfl) rfl #[.pointer (some ⟨g, 0, none⟩), .int .i64 t95002] rfl (by (try simp only [List.map_toArray, List.map_cons, List.map_nil]); first | done | rfl | (simp only [List.length_drop, List.length_take]; rfl)) ?_; (with_reducible refine (spec_randomImage.calls k g s0_0 t95003 t95002 t95004 t95005 t95006 t95007 t95010 w0 _ ?side1 ?side2 A3.out).mono ?_); (case side1 => repeat (first | (with_reducible first | exact HI0.out | apply IsS144.alloc | apply IsS144.drewN | apply IsS144.drew | apply IsS144.set_1 | refine IsS144.far ?_ NB0_95001.out _) | exact HI0.out)); (case side2 => repeat (first | (with_reducible first | exact HB.out | apply below_alloc | apply pw_below_drewN | apply below_drew1 | refine below_set ?_ (IsS144.ge HI0.out) | refine below_set ?_ GE95001.out) | exact HB.out)); rintro e w7 ⟨v95008, rfl, ho0, hi, hb, hk⟩; refine ⟨_, rfl, ?_⟩; have n0_ := mk (KeepBut.blk hk (g' := gb95001) (o := .cells #[.int .i64 0, .int .i64 0, .int .i64 0, .slice none 0 0] 27 (0, 0)) (by (with_reducible repeat (first | refine blk_drewN ?_ _ | refine blk_drew ?_ | refine blk_alloc ?_ _)); exact BK95001.out) NB95001_0.out (by simp)); have n1_ := mk (Kd.R_lower ho0 (keep_size (w := w) (g := g) (row := none) (by repeat (first | (with_reducible first | exact HK.out | apply KeepBut.set_ | apply keep_drewN | apply keep_drew | apply keep_alloc | refine keep_far ?_ GW95001.out _) | exact HK.out)))); have n2_ := mk (KeepBut.trans (by repeat (first | (with_reducible first | exact HK.out | apply KeepBut.set_ | apply keep_drewN | apply keep_drew | apply keep_alloc | refine keep_far ?_ GW95001.out _) | exact HK.out)) hk (.inl rfl)); have n3_ := mk (hb); have n4_ := mk (hi); clear BK95001; clear HK; clear HB; clear HI0; have BK95001 := n0_; have HO95009 := n1_; have HK := n2_; have HB := n3_; have HI0 := n4_; clear n0_ n1_ n2_ n3_ n4_; (try clear hb); (try clear hb2); (try clear hk); (try clear hi); (try clear ho0); obtain ⟨Ao8, co8, eo8⟩ := Kd.R_slice HO95009.out; subst eo8) | ((with_reducible refine gate_callee (f := 136) rfl ?_); refine goesL_ (some 8) rfl rfl Try.func136 (by kernel_rfl) rfl #[.pointer (some ⟨g, 0, none⟩), .agg #[.int .i64 t95004, .int .i64 t95005, .int .i64 t95006, .slice Ao8 t95007.length co8]] rfl (by (try simp only [List.map_toArray, List.map_cons, List.map_nil]); first | done | rfl | (simp only [List.length_drop, List.length_take]; rfl)) ?_; (with_reducible refine (spec_spoilImage.calls k g s0_0 t95010 t95004 t95005 t95006 (fun k_ => some k_ = (.slice Ao8 t95007.length co8 : Value).ownBlock) (.slice Ao8 t95007.length co8) t95007 t95011 t95012 t95013 t95014 t95017 w0 _ ?side1 ?side2 ?side3 A4.out).mono ?_); (case side1 => repeat (first | (with_reducible first | exact HI0.out | apply IsS144.alloc | apply IsS144.drewN | apply IsS144.drew | apply IsS144.set_1 | refine IsS144.far ?_ NB0_95001.out _) | exact HI0.out)); (case side2 => repeat (first | (with_reducible first | exact HB.out | apply below_alloc | apply pw_below_drewN | apply below_drew1 | refine below_set ?_ (IsS144.ge HI0.out) | refine below_set ?_ GE95001.out) | exact HB.out)); (case side3 => exact Kd.R_lower (Kd.R_tight rfl HO95009.out) HL.out); rintro e w9 ⟨v95015, rfl, ho0, hi, hb, hkp⟩; refine ⟨_, rfl, ?_⟩; have n0_ := mk (hi); have n1_ := mk (blk_kept (by (with_reducible repeat (first | refine blk_drewN ?_ _ | refine blk_drew ?_ | refine blk_alloc ?_ _)); exact BK95001.out) hkp (fun hs_ => Or.elim hs_ (fun hs_ => (fun e_ => (Kd.R_ne HO95009.out BK95001.out (by decide)) e_) hs_) (fun e_ => NB95001_0.out e_))); have n2_ := mk (Kd.Q_mono (ok' := fun k_ => True) (qraise (d := (Kd.int .i64)) (b := w0.heap.size) (b' := w.heap.size) (fun _ _ _ _ h_ => h_) ho0 (fun k_ e_ => Or.elim (ho0.1 k_ e_) (fun hs_ => (fun e_ => Kd.R_base HO95009.out k_ e_.symm) hs_) (fun hn_ => Nat.le_trans (keep_size (w := w) (g := g) (row := none) (by repeat (first | (with_reducible first | exact HK.out | apply KeepBut.set_ | apply keep_drewN | apply keep_drew | apply keep_alloc | refine keep_far ?_ GW95001.out _) | exact HK.out))) hn_))) (fun k_ hk_ => trivial)); have n3_ := mk (Kept.keepG (by repeat (first | (with_reducible first | exact HK.out | apply KeepBut.set_ | apply keep_drewN | apply keep_drew | apply keep_alloc | refine keep_far ?_ GW95001.out _) | exact HK.out)) hkp (fun k_ hs_ => Or.elim hs_ (fun hs_ => (fun e_ => .inr (Kd.R_base HO95009.out k_ e_.symm)) hs_) (fun e_ => .inl e_))); have n4_ := mk (hb); clear HI0; clear BK95001; clear HK; clear HB; clear HO95009; have HI0 := n0_; have BK95001 := n1_; have HO95016 := n2_; have HK := n3_; have HB := n4_; clear n0_ n1_ n2_ n3_ n4_; (try clear hb); (try clear hkp); (try clear ho0); have hnb10 := NB95001_0.out; have hnc10 := NB0_95001.out; have hcz11_0 : w9.cell? ⟨gb95001, 0, none⟩ = some (.int .i64 0) := (blk_cell BK95001.out 0).trans rfl; have hcz11_1 : w9.cell? ⟨gb95001, 1, none⟩ = some (.int .i64 0) := (blk_cell BK95001.out 1).trans rfl; have hcz11_2 : w9.cell? ⟨gb95001, 2, none⟩ = some (.int .i64 0) := (blk_cell BK95001.out 2).trans rfl; have hcz11_3 : w9.cell? ⟨gb95001, 3, none⟩ = some (.slice none 0 0) := (blk_cell BK95001.out 3).trans rfl; have hfz11_0 := blk_frozen BK95001.out 0; have hfz11_1 := blk_frozen BK95001.out 1; have hfz11_2 := blk_frozen BK95001.out 2; have hfz11_3 := blk_frozen BK95001.out 3; obtain ⟨Ao12, co12, eo12, _⟩ := Kd.Q_slice HO95016.out; subst eo12))
 refine bodyPost_ret (results_cell_row rfl _ _ gb95001 27 #[.int .i64 t95011, .int .i64 t95012, .int .i64 t95013, .slice Ao12 t95014.length co12] (0, 0) _ rfl (by (with_reducible repeat (first | refine blk_drewN ?_ _ | refine blk_drew ?_ | refine blk_alloc ?_ _)); refine blk_put (cs := #[.int .i64 t95011, .int .i64 t95012, .int .i64 t95013, .slice none 0 0]) ?_ 3 _ rfl; (with_reducible repeat (first | refine blk_drewN ?_ _ | refine blk_drew ?_ | refine blk_alloc ?_ _)); refine blk_put (cs := #[.int .i64 t95011, .int .i64 t95012, .int .i64 0, .slice none 0 0]) ?_ 2 _ rfl; (with_reducible repeat (first | refine blk_drewN ?_ _ | refine blk_drew ?_ | refine blk_alloc ?_ _)); refine blk_put (cs := #[.int .i64 t95011, .int .i64 0, .int .i64 0, .slice none 0 0]) ?_ 1 _ rfl; (with_reducible repeat (first | refine blk_drewN ?_ _ | refine blk_drew ?_ | refine blk_alloc ?_ _)); refine blk_put (cs := #[.int .i64 0, .int .i64 0, .int .i64 0, .slice none 0 0]) ?_ 0 _ rfl; (with_reducible repeat (first | refine blk_drewN ?_ _ | refine blk_drew ?_ | refine blk_alloc ?_ _)); exact BK95001.out) Try.underlying27 rfl (by kernel_rfl)) rfl ?_
 exact ⟨_, by first | rfl | (simp [errW_none, errW_some] <;> rfl) | (simp [*, errW_none, errW_some] <;> rfl), by (with_reducible repeat (first | apply Kd.Q_alloc | apply Kd.Q_drewN | apply Kd.Q_drew)); exact Kd.Q_mono (Kd.Q_far (p := ⟨gb95001, 3, none⟩) (Kd.Q_far (p := ⟨gb95001, 2, none⟩) (Kd.Q_far (p := ⟨gb95001, 1, none⟩) (Kd.Q_far (p := ⟨gb95001, 0, none⟩) (Kd.Q_types HO95016.out BK95001.out (by decide)) (fun _ hk => hk.2) (.int .i64 t95011)) (fun _ hk => hk.2) (.int .i64 t95012)) (fun _ hk => hk.2) (.int .i64 t95013)) (fun _ hk => hk.2) (.slice Ao12 t95014.length co12)) (fun _ hk => trivial), by repeat (first | (with_reducible first | exact HI0.out | apply IsS144.alloc | apply IsS144.drewN | apply IsS144.drew | apply IsS144.set_1 | refine IsS144.far ?_ NB0_95001.out _) | exact HI0.out), by repeat (first | (with_reducible first | exact HB.out | apply below_alloc | apply pw_below_drewN | apply below_drew1 | refine below_set ?_ (IsS144.ge HI0.out) | refine below_set ?_ GE95001.out) | exact HB.out), by repeat (first | (with_reducible first | exact HK.out | apply KeepBut.set_ | apply keep_drewN | apply keep_drew | apply keep_alloc | refine keep_far ?_ GW95001.out _) | exact HK.out)⟩

end Go.Proofs.Ytnofkbbcbpjhfaa.Q
