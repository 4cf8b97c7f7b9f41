/- A part of the proof that the statement FnExactRedrawTilesSaid holds, under no condition of its own: The program's RedrawTiles and the reference's return the same, and what is returned is held by nobody else: over lists of numbers alone. -/
import Derived.Test.YtnofkbbcbpjhfaaCFnExactRedrawTiles1
import Derived.Shelf.Abstract
import Derived.Deep.WholeRow
import Derived.Deep.RegionWith
import Derived.OrdersHeld
import Derived.Deep.RegionHeld
import Derived.RegionTactic
namespace Go.Proofs.Ytnofkbbcbpjhfaa.Q
open Go.RowKit Go.Proofs.YtnofkbbcbpjhfaaW.PrintWords Go.Proofs.YtnofkbbcbpjhfaaW.PrintLast Go.Proofs.YtnofkbbcbpjhfaaW.PrintMore
open Go.Proofs.YtnofkbbcbpjhfaaW.PrintWords.Aside0 (mk)
attribute [local go_sem] max2_int min2_int max_two min_two max_three min_three max_four min_four
set_option linter.unusedVariables false
set_option linter.unusedSimpArgs false
mutual
def spec_crop.l0 : Nat → Int → Int → Int → Int → Int → Int → Int → Int → List Int → Int → Int → Int → List Int → Option (Int × Int × Int × List Int)
 | 0, _, _, _, _, _, _, _, _, _, _, _, _, _ => none
 | k + 1, x1, x2, x3, x4, x12, xz5, xz6, xz7, xz8, xz2, xz3, xz4, xz9 => if x12 < x4 then (spec_crop.l1 k x1 x2 x3 x4 x12 0 xz5 xz6 xz7 xz8 xz2 xz3 xz4 xz9) else (some (xz2, xz3, xz4, xz9))
def spec_crop.l1 : Nat → Int → Int → Int → Int → Int → Int → Int → Int → Int → List Int → Int → Int → Int → List Int → Option (Int × Int × Int × List Int)
 | 0, _, _, _, _, _, _, _, _, _, _, _, _, _, _ => none
 | k + 1, x1, x2, x3, x4, x12, x13, xz5, xz6, xz7, xz8, xz2, xz3, xz4, xz9 => if x13 < x3 then ((spec_pixelAt.f xz5 xz6 xz7 xz8 (wrap64 (x1 + x13)) (wrap64 (x2 + x12))).bind fun tz4 => ((spec_setPixel.f k xz2 xz3 xz4 xz9 x13 x12 tz4).bind fun tz3 => (spec_crop.l1 k x1 x2 x3 x4 x12 (wrap64 (x13 + 1)) xz5 xz6 xz7 xz8 xz2 xz3 xz4 tz3))) else (spec_crop.l0 k x1 x2 x3 x4 (wrap64 (x12 + 1)) xz5 xz6 xz7 xz8 xz2 xz3 xz4 xz9)
end
def spec_crop.f (k : Nat) (a0_0 : Int) (a0_1 : Int) (a0_2 : Int) (l0_3 : List Int) (a1 : Int) (a2 : Int) (a3 : Int) (a4 : Int) : Option (Int × Int × Int × List Int) := (spec_newImage.f a3 a4 a0_2).bind fun btz0 => (spec_crop.l0 k a1 a2 a3 a4 0 a0_0 a0_1 a0_2 l0_3 btz0.1 btz0.2.1 btz0.2.2.1 btz0.2.2.2)
theorem spec_crop.mono_l : ∀ k, (∀ y0 y1 y2 y3 y4 y5 y6 y7 y8 y9 y10 y11 y12, LeO (spec_crop.l0 k y0 y1 y2 y3 y4 y5 y6 y7 y8 y9 y10 y11 y12) (spec_crop.l0 (k + 1) y0 y1 y2 y3 y4 y5 y6 y7 y8 y9 y10 y11 y12)) ∧ (∀ y0 y1 y2 y3 y4 y5 y6 y7 y8 y9 y10 y11 y12 y13, LeO (spec_crop.l1 k y0 y1 y2 y3 y4 y5 y6 y7 y8 y9 y10 y11 y12 y13) (spec_crop.l1 (k + 1) y0 y1 y2 y3 y4 y5 y6 y7 y8 y9 y10 y11 y12 y13))
 | 0 => ⟨fun _ _ _ _ _ _ _ _ _ _ _ _ _ r h => by simp [spec_crop.l0] at h, fun _ _ _ _ _ _ _ _ _ _ _ _ _ _ r h => by simp [spec_crop.l1] at h⟩
 | k + 1 => by
  obtain ⟨ih0, ih1⟩ := spec_crop.mono_l k
  refine ⟨?_, ?_⟩
  ·intro y0 y1 y2 y3 y4 y5 y6 y7 y8 y9 y10 y11 y12
   unfold spec_crop.l0
   repeat' first | (with_reducible exact ih1 _ _ _ _ _ _ _ _ _ _ _ _ _ _) | (with_reducible exact LeO.refl _) | (with_reducible refine LeO.ite ?_ ?_)
  intro y0 y1 y2 y3 y4 y5 y6 y7 y8 y9 y10 y11 y12 y13
  unfold spec_crop.l1
  repeat' first | (with_reducible exact ih0 _ _ _ _ _ _ _ _ _ _ _ _ _) | (with_reducible exact ih1 _ _ _ _ _ _ _ _ _ _ _ _ _ _) | (with_reducible exact spec_setPixel.mono _ _ _ _ _ _ _ _) | (with_reducible exact LeO.refl _) | (with_reducible refine LeO.ite ?_ ?_) | (with_reducible refine LeO.bind ?_ (fun _ => ?_))
theorem spec_crop.mono : ∀ a0 a1 a2 a3 a4 a5 a6 a7 k, LeO (spec_crop.f k a0 a1 a2 a3 a4 a5 a6 a7) (spec_crop.f (k + 1) a0 a1 a2 a3 a4 a5 a6 a7) := by
 intro a0 a1 a2 a3 a4 a5 a6 a7 k
 obtain ⟨ih0, ih1⟩ := spec_crop.mono_l k
 unfold spec_crop.f
 repeat' first | (with_reducible exact ih0 _ _ _ _ _ _ _ _ _ _ _ _ _) | (with_reducible exact LeO.refl _) | (with_reducible refine LeO.bind ?_ (fun _ => ?_))
def spec_crop.T8 : Bool × List (List Nat × List Nat) := (true, [([], []), ([], []), ([], []), ([], []), ([], []), ([], []), ([4, 5], [4, 5]), ([], []), ([], []), ([7, 8], [7, 8]), ([3, 6, 9], [3, 6, 9]), ([0, 1, 2, 10, 10], [0, 1, 2, 10])])
def spec_crop.B8 : List Nat := [0, 0, 0, 0, 0, 0, 48, 0, 0, 384, 1016, 2047]
theorem spec_crop.tab8 : rtab .any (opsOf Try.f123 8) = spec_crop.T8 := by kernel_rfl
theorem spec_crop.bits8 : waitsOk spec_crop.T8.2 spec_crop.B8 = true := by kernel_rfl
set_option maxHeartbeats 8000000 in
set_option maxRecDepth 100000 in
theorem spec_crop.calls (k : Nat) (a0_0 : Int) (a0_1 : Int) (a0_2 : Int) (A0_3 : Option Addr) (c0_3 : Nat) (l0_3 : List Int) (a1 : Int) (a2 : Int) (a3 : Int) (a4 : Int) (r1 : Int) (r2 : Int) (r3 : Int) (r4 : List Int) (w : World) (hr0_3 : Kd.C (Kd.int .i64) w A0_3 l0_3.length l0_3) (hc0_3 : l0_3.length ≤ c0_3) (h : spec_crop.f k a0_0 a0_1 a0_2 l0_3 a1 a2 a3 a4 = some (r1, r2, r3, r4)) :
  Calls Try.prog 123 #[.agg #[.int .i64 a0_0, .int .i64 a0_1, .int .i64 a0_2, .slice A0_3 l0_3.length c0_3], .int .i64 a1, .int .i64 a2, .int .i64 a3, .int .i64 a4] w fun e w' => ∃ v3_ : Value, e = .returned (.agg #[.int .i64 r1, .int .i64 r2, .int .i64 r3, v3_]) ∧ Kd.R (Kd.int .i64) 3 w' w.heap.size (fun _ => True) v3_ r4 ∧ Below w.heap.size w w' := by
 have hu27 := Try.underlying27
 have HR0_3 := mk hr0_3
 have HC0_3 := mk hc0_3
 clear hr0_3 hc0_3
 have HB := mk (Below.refl w.heap.size w)
 have H : ((spec_newImage.f a3 a4 a0_2).bind fun btz0 => (spec_crop.l0 k a1 a2 a3 a4 0 a0_0 a0_1 a0_2 l0_3 btz0.1 btz0.2.1 btz0.2.2.1 btz0.2.2.2)) = some (r1, r2, r3, r4) := h
 clear h
 replace H := Option.bind_eq_some_iff.mp H
 obtain ⟨⟨tz0, tz1, tz2, tz5⟩, A60, H⟩ := H
 replace H : (spec_crop.l0 k a1 a2 a3 a4 0 a0_0 a0_1 a0_2 l0_3 tz0 tz1 tz2 tz5) = some (r1, r2, r3, r4) := H
 have A6 := mk A60
 clear A60
 have H' := mk H
 clear H
 go_enter Try.func123, Try.ntmps123
 go_wp2_with (first | ((with_reducible refine gate_dst (N := 5) rfl ?_); refine box_event (by rfl) (N := 5) (by rfl) (cs := #[.int .i64 a0_0, .int .i64 a0_1, .int .i64 a0_2, .slice A0_3 l0_3.length c0_3]) (t := 27) (by go_simp; done) ?_; intro gbz2 hg w7 hbox hb; replace HB := mk (below_step HB.out hb); have BKz0 := mk (hbox); clear hb hbox hg) | ((with_reducible refine gate_dst (N := 10) rfl ?_); refine box_event (by rfl) (N := 10) (by rfl) (cs := #[.int .i64 0, .int .i64 0, .int .i64 0, .slice none 0 0]) (t := 27) (by go_simp; done) ?_; intro gbz1 hg w8 hbox hb; replace BKz0 := mk (blk_below BKz0.out hb); have BKz2 := mk (hbox); have GEz0 := mk ((by rw [hg]; exact (below_size HB.out) : w.heap.size ≤ gbz1)); replace HB := mk (below_step HB.out hb); clear hb hbox hg; obtain ⟨hcz10_0, hcz10_1, hcz10_2, hcz10_3, hfz10_0, hfz10_1, hfz10_2, -⟩ := c4 BKz0.out; have hfz10_3 := blk_frozen BKz0.out 3) | ((with_reducible refine gate_callee (f := 111) rfl ?_); refine goesL_ (some 18) rfl rfl Try.func111 (by kernel_rfl) rfl #[.int .i64 a3, .int .i64 a4, .int .i64 a0_2] rfl (by (try simp only [List.map_toArray, List.map_cons, List.map_nil]); rfl) ?_; (with_reducible refine (spec_newImage.calls a3 a4 a0_2 tz0 tz1 tz2 tz5 _ A6.out).mono ?_); rintro e w11 ⟨vz0, rfl, ho0, hb⟩; refine ⟨_, rfl, ?_⟩; have HOz2 := mk (Kd.R_lower ho0 (below_size HB.out)); replace BKz0 := mk (blk_below BKz0.out hb); replace BKz2 := mk (blk_below BKz2.out hb); replace HB := mk (below_step HB.out hb); (try clear hb); (try clear ho0)) | ((with_reducible refine gate_dst (N := 11) rfl ?_); refine box_event (by rfl) (N := 11) (by rfl) (cs := #[.int .i64 0, .int .i64 0, .int .i64 0, .slice none 0 0]) (t := 27) (by go_simp; done) ?_; intro gbz0 hg w12 hbox hb; replace HOz2 := mk (Kd.R_below HOz2.out hb); have BKz1 := mk (hbox); have GEz1 := mk ((by rw [hg]; exact (below_size HB.out) : w.heap.size ≤ gbz0)); replace HB := mk (below_step HB.out hb); have NBz0 := mk ((by rw [hg]; exact Nat.ne_of_lt (blk_lt BKz0.out) : gbz2 ≠ gbz0)); replace BKz0 := mk (blk_below BKz0.out hb); have NBz1 := mk ((by rw [hg]; exact Nat.ne_of_lt (blk_lt BKz2.out) : gbz1 ≠ gbz0)); replace BKz2 := mk (blk_below BKz2.out hb); clear hb hbox hg; obtain ⟨hcz15_0, hcz15_1, hcz15_2, hcz15_3, hfz15_0, hfz15_1, hfz15_2, hfz15_3⟩ := c4 BKz1.out; obtain ⟨Ao16, co16, eo16⟩ := Kd.R_slice HOz2.out; subst eo16))
 go_loopg [12] k (fun kq v12 w' => ∃ (x12_1 : Int) (xz1 : List Int) (u124010003 : Value), v12 = .int .i64 x12_1 ∧ Aside0 (spec_crop.l0 kq a1 a2 a3 a4 x12_1 a0_0 a0_1 a0_2 l0_3 tz0 tz1 tz2 xz1 = some (r1, r2, r3, r4)) ∧ Aside0 (kq ≤ k) ∧ Aside0 (Kd.R (Kd.int .i64) 3 w' w.heap.size (fun _ => True) u124010003 xz1) ∧ Aside0 (w'.heap[gbz2]? = some (.cells #[.int .i64 a0_0, .int .i64 a0_1, .int .i64 a0_2, (.slice A0_3 l0_3.length c0_3)] 27 (0, 0))) ∧ Aside0 (w'.heap[gbz1]? = some (.cells #[.int .i64 0, .int .i64 0, .int .i64 0, (.slice none 0 0)] 27 (0, 0))) ∧ Aside0 (w'.heap[gbz0]? = some (.cells #[.int .i64 tz0, .int .i64 tz1, .int .i64 tz2, u124010003] 27 (0, 0))) ∧ Aside0 (Below w.heap.size w w'))
 case atStart => exact ⟨(0), (tz5), (.slice Ao16 tz5.length co16), (by rfl), H', ⟨Nat.le_refl _⟩, ⟨by exact Kd.R_mono (Kd.R_far (p := ⟨gbz0, 3, none⟩) (Kd.R_far (p := ⟨gbz0, 2, none⟩) (Kd.R_far (p := ⟨gbz0, 1, none⟩) (Kd.R_far (p := ⟨gbz0, 0, none⟩) (Kd.R_types HOz2.out BKz1.out (by decide)) (fun _ hk => hk.2) (.int .i64 tz0)) (fun _ hk => hk.2) (.int .i64 tz1)) (fun _ hk => hk.2) (.int .i64 tz2)) (fun _ hk => hk.2) (.slice Ao16 tz5.length co16)) (fun _ hk => trivial)⟩, ⟨by refine blk_far ?_ NBz0.out _; refine blk_far ?_ NBz0.out _; refine blk_far ?_ NBz0.out _; refine blk_far ?_ NBz0.out _; exact BKz0.out⟩, ⟨by refine blk_far ?_ NBz1.out _; refine blk_far ?_ NBz1.out _; refine blk_far ?_ NBz1.out _; refine blk_far ?_ NBz1.out _; exact BKz2.out⟩, ⟨by refine blk_put (cs := #[.int .i64 tz0, .int .i64 tz1, .int .i64 tz2, .slice none 0 0]) ?_ 3 _ rfl; refine blk_put (cs := #[.int .i64 tz0, .int .i64 tz1, .int .i64 0, .slice none 0 0]) ?_ 2 _ rfl; refine blk_put (cs := #[.int .i64 tz0, .int .i64 0, .int .i64 0, .slice none 0 0]) ?_ 1 _ rfl; refine blk_put (cs := #[.int .i64 0, .int .i64 0, .int .i64 0, .slice none 0 0]) ?_ 0 _ rfl; exact BKz1.out⟩, ⟨by repeat (with_reducible first | exact HB.out | refine below_set ?_ GEz1.out)⟩⟩
 case round =>
  clear H'
  obtain ⟨x12_1, xz1, u124010003, rfl, HA, HK1, HOz0, BKz0, BKz2, BKz1, HB⟩ := hrel
  cases gk with
  | zero => exact absurd HA.out (by simp [spec_crop.l0])
  | succ k1 =>
   have H := HA.out
   clear HA
   simp only [spec_crop.l0] at H
   by_cases c17 : x12_1 < a4
   ·rw [if_pos c17] at H
    have c17b0 : decide (x12_1 < a4) = true := decide_eq_true c17
    clear c17
    have H' := mk H
    clear H
    go_wp2
    go_loopg [13] k1 (fun kq v13 w' => ∃ (x13_2 : Int) (xz0 : List Int) (u124010003 : Value), v13 = .int .i64 x13_2 ∧ Aside0 (spec_crop.l1 kq a1 a2 a3 a4 x12_1 x13_2 a0_0 a0_1 a0_2 l0_3 tz0 tz1 tz2 xz0 = some (r1, r2, r3, r4)) ∧ Aside0 (kq ≤ k1) ∧ Aside0 (Kd.R (Kd.int .i64) 3 w' w.heap.size (fun _ => True) u124010003 xz0) ∧ Aside0 (w'.heap[gbz2]? = some (.cells #[.int .i64 a0_0, .int .i64 a0_1, .int .i64 a0_2, (.slice A0_3 l0_3.length c0_3)] 27 (0, 0))) ∧ Aside0 (w'.heap[gbz1]? = some (.cells #[.int .i64 0, .int .i64 0, .int .i64 0, (.slice none 0 0)] 27 (0, 0))) ∧ Aside0 (w'.heap[gbz0]? = some (.cells #[.int .i64 tz0, .int .i64 tz1, .int .i64 tz2, u124010003] 27 (0, 0))) ∧ Aside0 (Below w.heap.size w w'))
    case atStart => exact ⟨(0), (xz1), (u124010003), (by rfl), H', ⟨Nat.le_refl _⟩, HOz0, BKz0, BKz2, BKz1, HB⟩
    case round =>
     clear H'
     obtain ⟨x13_2, xz0, u124010003, rfl, HA, HK2, HOz0, BKz0, BKz2, BKz1, HB⟩ := hrel
     cases gk with
     | zero => exact absurd HA.out (by simp [spec_crop.l1])
     | succ k2 =>
      have H := HA.out
      clear HA
      simp only [spec_crop.l1] at H
      by_cases c18 : x13_2 < a3
      ·rw [if_pos c18] at H
       have c18b0 : decide (x13_2 < a3) = true := decide_eq_true c18
       clear c18
       replace H := Option.bind_eq_some_iff.mp H
       obtain ⟨tz4, A190, H⟩ := H
       replace H : ((spec_setPixel.f k2 tz0 tz1 tz2 xz0 x13_2 x12_1 tz4).bind fun tz3 => (spec_crop.l1 k2 a1 a2 a3 a4 x12_1 (wrap64 (x13_2 + 1)) a0_0 a0_1 a0_2 l0_3 tz0 tz1 tz2 tz3)) = some (r1, r2, r3, r4) := H
       have A19 := mk A190
       clear A190
       replace H := Option.bind_eq_some_iff.mp H
       obtain ⟨tz3, A200, H⟩ := H
       replace H : (spec_crop.l1 k2 a1 a2 a3 a4 x12_1 (wrap64 (x13_2 + 1)) a0_0 a0_1 a0_2 l0_3 tz0 tz1 tz2 tz3) = some (r1, r2, r3, r4) := H
       have A20 := mk A200
       clear A200
       have H' := mk H
       clear H
       try go_wp2
       replace HOz0 := mk (Kd.R_drew HOz0.out)
       replace BKz0 := mk (blk_drew BKz0.out)
       replace BKz2 := mk (blk_drew BKz2.out)
       replace BKz1 := mk (blk_drew BKz1.out)
       replace HB := mk (below_drew1 HB.out)
       refine start_ (n := 12) (S := fun w' => w'.cell? ⟨gbz0, 0, none⟩ = some (.int .i64 tz0) ∧ w'.cell? ⟨gbz0, 1, none⟩ = some (.int .i64 tz1) ∧ w'.cell? ⟨gbz0, 2, none⟩ = some (.int .i64 tz2) ∧ w'.cell? ⟨gbz0, 3, none⟩ = some u124010003 ∧ w'.cell? ⟨gbz2, 0, none⟩ = some (.int .i64 a0_0) ∧ w'.cell? ⟨gbz2, 1, none⟩ = some (.int .i64 a0_1) ∧ w'.cell? ⟨gbz2, 2, none⟩ = some (.int .i64 a0_2) ∧ w'.cell? ⟨gbz2, 3, none⟩ = some (.slice A0_3 l0_3.length c0_3)) (ds := []) #[false, false, false, false, false, false, false, false, false, false, false, false] (by kernel_rfl) rfl rfl ⟨blk_cell BKz1.out 0, blk_cell BKz1.out 1, blk_cell BKz1.out 2, blk_cell BKz1.out 3, blk_cell BKz0.out 0, blk_cell BKz0.out 1, blk_cell BKz0.out 2, blk_cell BKz0.out 3⟩ (fun hHeld => ?_); refine with_tabW spec_crop.tab8 spec_crop.bits8 (fun HT_ HW_ => ?_)
       generalize wr.drew = w21 at HOz0 BKz0 BKz2 BKz1 HB hHeld ⊢
       refine pure_ (i := 1) (N := some 30) (v := ?_) (a' := ?_) #[false, true, false, false, false, false, false, false, false, false, false, false] rfl rfl (any_of HT_.out (by kernel_rfl)) (fun _ _ _ h => h) (Or.inl ⟨by rfl, ?_⟩) ?_ ?_
       rotate_left
       ·intro w'
        go_simp
        with_reducible rfl
       rotate_left
       ·simp only [Act.put, List.setIfInBounds_toArray, List.set_cons_zero, List.set_cons_succ, i64_w, i32_w]
        rfl
       refine pure_ (i := 2) (N := some 31) (v := ?_) (a' := ?_) #[false, true, true, false, false, false, false, false, false, false, false, false] rfl rfl (any_of HT_.out (by kernel_rfl)) (fun _ _ _ h => h) (Or.inl ⟨by rfl, ?_⟩) ?_ ?_
       rotate_left
       ·intro w'
        go_simp
        with_reducible rfl
       rotate_left
       ·simp only [Act.put, List.setIfInBounds_toArray, List.set_cons_zero, List.set_cons_succ, i64_w, i32_w]
        rfl
       refine pure_ (i := 4) (N := some 33) (v := ?_) (a' := ?_) #[false, true, true, false, true, false, false, false, false, false, false, false] rfl rfl (any_of HT_.out (by kernel_rfl)) (fun _ _ _ h => h) (Or.inl ⟨by rfl, ?_⟩) ?_ ?_
       rotate_left
       ·intro w'
        go_simp
        with_reducible rfl
       rotate_left
       ·simp only [Act.put, List.setIfInBounds_toArray, List.set_cons_zero, List.set_cons_succ, i64_w, i32_w]
        rfl
       refine pure_ (i := 5) (N := some 34) (v := ?_) (a' := ?_) #[false, true, true, false, true, true, false, false, false, false, false, false] rfl rfl (any_of HT_.out (by kernel_rfl)) (fun _ _ _ h => h) (Or.inl ⟨by rfl, ?_⟩) ?_ ?_
       rotate_left
       ·intro w'
        go_simp
        with_reducible rfl
       rotate_left
       ·simp only [Act.put, List.setIfInBounds_toArray, List.set_cons_zero, List.set_cons_succ, i64_w, i32_w]
        rfl
       refine pure_ (i := 6) (N := some 35) (v := ?_) (a' := ?_) #[false, true, true, false, true, true, true, false, false, false, false, false] rfl rfl (any_of HT_.out (by kernel_rfl)) (fun _ _ _ h => h) (Or.inl ⟨by rfl, ?_⟩) ?_ ?_
       rotate_left
       ·intro w'
        go_simp
        with_reducible rfl
       rotate_left
       ·simp only [Act.put, List.setIfInBounds_toArray, List.set_cons_zero, List.set_cons_succ, i64_w, i32_w]
        rfl
       refine pure_ (i := 7) (N := some 36) (v := ?_) (a' := ?_) #[false, true, true, false, true, true, true, true, false, false, false, false] rfl rfl (any_of HT_.out (by kernel_rfl)) (fun _ _ _ h => h) (Or.inl ⟨by rfl, ?_⟩) ?_ ?_
       rotate_left
       ·intro w'
        go_simp
        with_reducible rfl
       rotate_left
       ·simp only [Act.put, List.setIfInBounds_toArray, List.set_cons_zero, List.set_cons_succ, i64_w, i32_w]
        rfl
       refine pure_ (i := 8) (N := some 37) (v := ?_) (a' := ?_) #[false, true, true, false, true, true, true, true, true, false, false, false] rfl rfl (any_of HT_.out (by kernel_rfl)) (fun _ _ _ h => h) (Or.inl ⟨by rfl, ?_⟩) ?_ ?_
       rotate_left
       ·intro w'
        go_simp
        with_reducible rfl
       rotate_left
       ·simp only [Act.put, List.setIfInBounds_toArray, List.set_cons_zero, List.set_cons_succ, i64_w, i32_w]
        rfl
       refine pure_ (i := 9) (N := some 38) (v := ?_) (a' := ?_) #[false, true, true, false, true, true, true, true, true, true, false, false] rfl rfl (any_of HT_.out (by kernel_rfl)) (fun _ _ _ h => h) (Or.inl ⟨by rfl, ?_⟩) ?_ ?_
       rotate_left
       ·intro w'
        go_simp
        with_reducible rfl
       rotate_left
       ·simp only [Act.put, List.setIfInBounds_toArray, List.set_cons_zero, List.set_cons_succ, i64_w, i32_w]
        rfl
       refine take_ (i := 0) (N := some 29) (v := ?_) (a' := ?_) #[true, true, true, false, true, true, true, true, true, true, false, false] rfl rfl (take_ofW HT_.out HW_.out (by kernel_rfl)) (fun _ _ _ h => h) (Or.inl ⟨by rfl, ?_⟩) hHeld ?_ ?_
       rotate_left
       ·rintro w' ⟨s0, s1, s2, s3, s4, s5, s6, s7⟩
        go_simp
        with_reducible rfl
       rotate_left
       ·simp only [Act.put, List.setIfInBounds_toArray, List.set_cons_zero, List.set_cons_succ, i64_w, i32_w]
        rfl
       refine take_ (i := 3) (N := some 32) (v := ?_) (a' := ?_) #[true, true, true, true, true, true, true, true, true, true, false, false] rfl rfl (take_ofW HT_.out HW_.out (by kernel_rfl)) (fun _ _ _ h => h) (Or.inl ⟨by rfl, ?_⟩) hHeld ?_ ?_
       rotate_left
       ·rintro w' ⟨s0, s1, s2, s3, s4, s5, s6, s7⟩
        go_simp
        with_reducible rfl
       rotate_left
       ·simp only [Act.put, List.setIfInBounds_toArray, List.set_cons_zero, List.set_cons_succ, i64_w, i32_w]
        rfl
       refine one_ (i := 10) (N := some 39) #[true, true, true, true, true, true, true, true, true, true, true, false] rfl rfl (one_of HT_.out (by kernel_rfl)) (by decide) (fun K hK => ?_)
       refine goes_ Try.func149 (by kernel_rfl) rfl #[.agg #[.int .i64 a0_0, .int .i64 a0_1, .int .i64 a0_2, .slice A0_3 l0_3.length c0_3], .int .i64 (wrap64 (a1 + x13_2)), .int .i64 (wrap64 (a2 + x12_1))] (by rfl) rfl rfl (by (try simp only [List.map_toArray, List.map_cons, List.map_nil]); rfl) ?_
       with_reducible refine (spec_pixelAt.calls a0_0 a0_1 a0_2 _ _ l0_3 (wrap64 (a1 + x13_2)) (wrap64 (a2 + x12_1)) tz4 _ ?side1 ?side2 A19.out).mono ?_
       (case side1 => repeat (exact (Kd.C_below HR0_3.out HB.out)))
       (case side2 => exact HC0_3.out)
       rintro e w22 ⟨vz1, rfl, ho0, hb⟩
       refine ⟨_, rfl, ?_⟩
       have HOz1 := mk (Kd.R_lower (Kd.R_new' ho0 (Kd.R_lt HOz0.out)) (below_size HB.out))
       replace HOz0 := mk (Kd.R_elder' HOz0.out (Kd.R_base ho0) hb)
       replace BKz0 := mk (blk_below BKz0.out hb)
       replace BKz2 := mk (blk_below BKz2.out hb)
       replace BKz1 := mk (blk_below BKz1.out hb)
       replace HB := mk (below_step HB.out hb)
       (try clear hb)
       (try clear ho0)
       obtain ⟨Ao23, co23, eo23⟩ := Kd.R_slice HOz0.out
       (subst eo23)
       obtain ⟨Ao24, co24, eo24⟩ := Kd.R_slice HOz1.out
       (subst eo24)
       refine hK.out _ _ ⟨blk_cell BKz1.out 0, blk_cell BKz1.out 1, blk_cell BKz1.out 2, blk_cell BKz1.out 3, blk_cell BKz0.out 0, blk_cell BKz0.out 1, blk_cell BKz0.out 2, blk_cell BKz0.out 3⟩ (fun hHeld => ?_)
       clear hK K
       refine norm_ (a' := ?_) ?_ ?_
       rotate_left
       ·show Act.put _ (some 39) _ = _
        simp only [Act.put, List.setIfInBounds_toArray, List.set_cons_zero, List.set_cons_succ, i64_w, i32_w]
        rfl
       refine one_ (i := 11) (N := some 40) #[true, true, true, true, true, true, true, true, true, true, true, true] rfl rfl (one_of HT_.out (by kernel_rfl)) (by decide) (fun K hK => ?_)
       refine goes_ Try.func148 (by kernel_rfl) rfl #[.agg #[.int .i64 tz0, .int .i64 tz1, .int .i64 tz2, .slice Ao23 xz0.length co23], .int .i64 x13_2, .int .i64 x12_1, .slice Ao24 tz4.length co24] (by rfl) rfl rfl (by (try simp only [List.map_toArray, List.map_cons, List.map_nil]); rfl) ?_
       with_reducible refine (spec_setPixel.calls k2 tz0 tz1 tz2 (fun k_ => some k_ = (.slice Ao23 xz0.length co23 : Value).ownBlock) (.slice Ao23 xz0.length co23) xz0 x13_2 x12_1 _ _ tz4 tz3 w _ ?side1 ?side2 ?side3 ?side4 A20.out).mono ?_
       (case side1 => repeat (with_reducible exact HB.out))
       (case side2 => exact Kd.R_tight rfl HOz0.out)
       (case side3 => exact Kd.C_kept_own HOz1.out (fun k_ hk_ hs_ => hk_.2 hs_))
       (case side4 => exact (Kd.R_reads' HOz1.out).2.1)
       rintro e w25 ⟨rfl, hy0, hb, hkp⟩
       refine ⟨_, rfl, ?_⟩
       replace BKz0 := mk (blk_kept BKz0.out hkp (fun hs_ => (fun e_ => (Kd.R_ne HOz0.out BKz0.out (by decide)) e_) hs_))
       replace BKz2 := mk (blk_kept BKz2.out hkp (fun hs_ => (fun e_ => (Kd.R_ne HOz0.out BKz2.out (by decide)) e_) hs_))
       replace BKz1 := mk (blk_kept BKz1.out hkp (fun hs_ => (fun e_ => (Kd.R_ne HOz0.out BKz1.out (by decide)) e_) hs_))
       replace HOz0 := mk (Kd.R_reok rfl hy0 (fun k_ e_ => HOz0.out.1 k_ e_))
       replace HOz1 := mk (Kd.R_mono (ok' := fun k_ => some k_ ≠ (.slice Ao23 xz0.length co23 : Value).ownBlock) (Kd.R_keptB HOz1.out hkp (fun k_ hk_ hs_ => hk_.2 hs_)) (fun k_ hk_ => hk_.1.2))
       replace HB := mk (hb)
       (try clear hb)
       (try clear hkp)
       (try clear hy0)
       refine hK.out _ _ ⟨blk_cell BKz1.out 0, blk_cell BKz1.out 1, blk_cell BKz1.out 2, blk_cell BKz1.out 3, blk_cell BKz0.out 0, blk_cell BKz0.out 1, blk_cell BKz0.out 2, blk_cell BKz0.out 3⟩ (fun hHeld => ?_)
       clear hK K
       refine norm_ (a' := ?_) ?_ ?_
       rotate_left
       ·show Act.put _ (some 40) _ = _
        simp only [Act.put, List.setIfInBounds_toArray, List.set_cons_zero, List.set_cons_succ, i64_w, i32_w]
        rfl
       refine done_ (done_of HT_.out (by kernel_rfl)) ?_
       try go_wp2
       go_roundg k2
       case measure => have := HK1.out; have := HK2.out; omega
       case rel => exact ⟨(wrap64 (x13_2 + 1)), (tz3), (.slice Ao23 xz0.length co23), (by rfl), H', ⟨by have := HK1.out; have := HK2.out; omega⟩, ⟨by exact Kd.R_mono HOz0.out (fun _ hk => trivial)⟩, BKz0, BKz2, BKz1, HB⟩
      rw [if_neg c18] at H
      have c18b0 : decide (x13_2 < a3) = false := decide_eq_false c18
      clear c18
      have H' := mk H
      clear H
      go_wp2
      go_roundg k2
      case measure => have := HK1.out; have := HK2.out; omega
      case rel => exact ⟨(wrap64 (x12_1 + 1)), (xz0), (u124010003), (by rfl), H', ⟨by have := HK1.out; have := HK2.out; omega⟩, HOz0, BKz0, BKz2, BKz1, HB⟩
   rw [if_neg c17] at H
   have c17b0 : decide (x12_1 < a4) = false := decide_eq_false c17
   clear c17
   simp only [Option.some.injEq, Prod.mk.injEq] at H
   obtain ⟨rfl, rfl, rfl, rfl⟩ := H
   obtain ⟨hcz28_0, hcz28_1, hcz28_2, -⟩ := c4 BKz1.out
   have hcz28_3 : wr.cell? ⟨gbz0, 3, none⟩ = some u124010003 := (blk_cell BKz1.out 3).trans rfl
   obtain ⟨hcz30_0, hcz30_1, hcz30_2, hcz30_3, hfz30_0, hfz30_1, hfz30_2, hfz30_3⟩ := c4 BKz2.out
   obtain ⟨Ao31, co31, eo31⟩ := Kd.R_slice HOz0.out
   subst eo31
   go_wp2
   refine bodyPost_ret (results_cell_row rfl _ _ gbz1 27 #[.int .i64 tz0, .int .i64 tz1, .int .i64 tz2, .slice Ao31 xz1.length co31] (0, 0) _ rfl (by refine blk_put (cs := #[.int .i64 tz0, .int .i64 tz1, .int .i64 tz2, .slice none 0 0]) ?_ 3 _ rfl; refine blk_put (cs := #[.int .i64 tz0, .int .i64 tz1, .int .i64 0, .slice none 0 0]) ?_ 2 _ rfl; refine blk_put (cs := #[.int .i64 tz0, .int .i64 0, .int .i64 0, .slice none 0 0]) ?_ 1 _ rfl; refine blk_put (cs := #[.int .i64 0, .int .i64 0, .int .i64 0, .slice none 0 0]) ?_ 0 _ rfl; exact BKz2.out) Try.underlying27 rfl (by kernel_rfl)) rfl ?_
   exact ⟨_, by rfl, by exact Kd.R_mono (Kd.R_far (p := ⟨gbz1, 3, none⟩) (Kd.R_far (p := ⟨gbz1, 2, none⟩) (Kd.R_far (p := ⟨gbz1, 1, none⟩) (Kd.R_far (p := ⟨gbz1, 0, none⟩) (Kd.R_types HOz0.out BKz2.out (by decide)) (fun _ hk => hk.2) (.int .i64 tz0)) (fun _ hk => hk.2) (.int .i64 tz1)) (fun _ hk => hk.2) (.int .i64 tz2)) (fun _ hk => hk.2) (.slice Ao31 xz1.length co31)) (fun _ hk => trivial), by repeat (with_reducible first | exact HB.out | refine below_set ?_ GEz0.out)⟩


mutual
def spec_RedrawTiles.j0 : Nat → List Int → Bool → Int → Int → Int → List Int → Int → Int → Int → List Int → Int → Int → Int → List Int → Option (Int × Int × Int × List Int × Bool)
 | 0, _, _, _, _, _, _, _, _, _, _, _, _, _, _ => none
 | k + 1, x3, x48, xz17, xz18, xz19, xz20, xz5, xz6, xz7, xz8, xz9, xz10, xz11, xz12 => if x48 = true then (some (0, 0, 0, ([] : List Int), false)) else ((spec_copyImage.f xz17 xz18 xz19 xz20).bind fun btz3 => (spec_RedrawTiles.l0 k x3 0 xz5 xz6 xz7 xz8 xz9 xz10 xz11 xz12 btz3.1 btz3.2.1 btz3.2.2.1 btz3.2.2.2))
def spec_RedrawTiles.l0 : Nat → List Int → Int → Int → Int → Int → List Int → Int → Int → Int → List Int → Int → Int → Int → List Int → Option (Int × Int × Int × List Int × Bool)
 | 0, _, _, _, _, _, _, _, _, _, _, _, _, _, _ => none
 | k + 1, x3, x13, xz5, xz6, xz7, xz8, xz9, xz10, xz11, xz12, xz13, xz14, xz15, xz16 => if x13 < (x3.length : Int) then (if 0 ≤ x13 then ((spec_tileCount.f xz5 xz6 xz7 xz8).bind fun tz11 => ((spec_inRange.f (rd x3 x13) 0 (wrap64 (tz11 - 1))).bind fun tz14 => (if tz14 = true then (if x13 > 0 then (if 0 ≤ (wrap64 (x13 - 1)) then (if (wrap64 (x13 - 1)) < (x3.length : Int) then (spec_RedrawTiles.j2 k x3 x13 (decide ((rd x3 x13) ≤ (rd x3 (wrap64 (x13 - 1))))) xz5 xz6 xz7 xz8 xz9 xz10 xz11 xz12 xz13 xz14 xz15 xz16) else none) else none) else (spec_RedrawTiles.j2 k x3 x13 false xz5 xz6 xz7 xz8 xz9 xz10 xz11 xz12 xz13 xz14 xz15 xz16)) else (spec_RedrawTiles.j2 k x3 x13 true xz5 xz6 xz7 xz8 xz9 xz10 xz11 xz12 xz13 xz14 xz15 xz16)))) else none) else (some (xz13, xz14, xz15, xz16, true))
def spec_RedrawTiles.j2 : Nat → List Int → Int → Bool → Int → Int → Int → List Int → Int → Int → Int → List Int → Int → Int → Int → List Int → Option (Int × Int × Int × List Int × Bool)
 | 0, _, _, _, _, _, _, _, _, _, _, _, _, _, _, _ => none
 | k + 1, x3, x13, x82, xz5, xz6, xz7, xz8, xz9, xz10, xz11, xz12, xz13, xz14, xz15, xz16 => if x82 = true then (some (0, 0, 0, ([] : List Int), false)) else (if 0 ≤ x13 then (if x13 < (x3.length : Int) then ((spec_tileBox.f xz5 xz6 xz7 xz8 (rd x3 x13)).bind fun btz2 => ((spec_crop.f k xz9 xz10 xz11 xz12 btz2.1 btz2.2.1 btz2.2.2.1 btz2.2.2.2).bind fun btz1 => ((spec_paste.f k xz13 xz14 xz15 xz16 btz2.1 btz2.2.1 btz1.1 btz1.2.1 btz1.2.2.1 btz1.2.2.2).bind fun tz12 => (spec_RedrawTiles.l0 k x3 (wrap64 (x13 + 1)) xz5 xz6 xz7 xz8 xz9 xz10 xz11 xz12 xz13 xz14 xz15 tz12)))) else none) else none)
end
def spec_RedrawTiles.f (k : Nat) (a0_0 : Int) (a0_1 : Int) (a0_2 : Int) (l0_3 : List Int) (a1_0 : Int) (a1_1 : Int) (a1_2 : Int) (l1_3 : List Int) (l2 : List S55) (l3 : List Int) : Option (Int × Int × Int × List Int × Bool) := (spec_FlattenLayers.f k a1_0 a1_1 a1_2 l1_3 l2).bind fun btz0 => (if btz0.2.2.2.2 = true then ((spec_validImage.f k a0_0 a0_1 a0_2 l0_3).bind fun tz13 => (if tz13 = true then (if a0_0 = a1_0 then (if a0_1 = a1_1 then (spec_RedrawTiles.j0 k l3 (a0_2 != a1_2) a0_0 a0_1 a0_2 l0_3 a1_0 a1_1 a1_2 l1_3 btz0.1 btz0.2.1 btz0.2.2.1 btz0.2.2.2.1) else (spec_RedrawTiles.j0 k l3 true a0_0 a0_1 a0_2 l0_3 a1_0 a1_1 a1_2 l1_3 btz0.1 btz0.2.1 btz0.2.2.1 btz0.2.2.2.1)) else (spec_RedrawTiles.j0 k l3 true a0_0 a0_1 a0_2 l0_3 a1_0 a1_1 a1_2 l1_3 btz0.1 btz0.2.1 btz0.2.2.1 btz0.2.2.2.1)) else (spec_RedrawTiles.j0 k l3 true a0_0 a0_1 a0_2 l0_3 a1_0 a1_1 a1_2 l1_3 btz0.1 btz0.2.1 btz0.2.2.1 btz0.2.2.2.1))) else (spec_RedrawTiles.j0 k l3 true a0_0 a0_1 a0_2 l0_3 a1_0 a1_1 a1_2 l1_3 btz0.1 btz0.2.1 btz0.2.2.1 btz0.2.2.2.1))
theorem spec_RedrawTiles.mono_l : ∀ k, (∀ y0 y1 y2 y3 y4 y5 y6 y7 y8 y9 y10 y11 y12 y13, LeO (spec_RedrawTiles.j0 k y0 y1 y2 y3 y4 y5 y6 y7 y8 y9 y10 y11 y12 y13) (spec_RedrawTiles.j0 (k + 1) y0 y1 y2 y3 y4 y5 y6 y7 y8 y9 y10 y11 y12 y13)) ∧ (∀ y0 y1 y2 y3 y4 y5 y6 y7 y8 y9 y10 y11 y12 y13, LeO (spec_RedrawTiles.l0 k y0 y1 y2 y3 y4 y5 y6 y7 y8 y9 y10 y11 y12 y13) (spec_RedrawTiles.l0 (k + 1) y0 y1 y2 y3 y4 y5 y6 y7 y8 y9 y10 y11 y12 y13)) ∧ (∀ y0 y1 y2 y3 y4 y5 y6 y7 y8 y9 y10 y11 y12 y13 y14, LeO (spec_RedrawTiles.j2 k y0 y1 y2 y3 y4 y5 y6 y7 y8 y9 y10 y11 y12 y13 y14) (spec_RedrawTiles.j2 (k + 1) y0 y1 y2 y3 y4 y5 y6 y7 y8 y9 y10 y11 y12 y13 y14))
 | 0 => ⟨fun _ _ _ _ _ _ _ _ _ _ _ _ _ _ r h => by simp [spec_RedrawTiles.j0] at h, fun _ _ _ _ _ _ _ _ _ _ _ _ _ _ r h => by simp [spec_RedrawTiles.l0] at h, fun _ _ _ _ _ _ _ _ _ _ _ _ _ _ _ r h => by simp [spec_RedrawTiles.j2] at h⟩
 | k + 1 => by
  obtain ⟨ih0, ih1, ih2⟩ := spec_RedrawTiles.mono_l k
  refine ⟨?_, ?_, ?_⟩
  ·intro y0 y1 y2 y3 y4 y5 y6 y7 y8 y9 y10 y11 y12 y13
   unfold spec_RedrawTiles.j0
   repeat' first | (with_reducible exact ih1 _ _ _ _ _ _ _ _ _ _ _ _ _ _) | (with_reducible exact LeO.refl _) | (with_reducible refine LeO.ite ?_ ?_) | (with_reducible refine LeO.bind ?_ (fun _ => ?_))
  ·intro y0 y1 y2 y3 y4 y5 y6 y7 y8 y9 y10 y11 y12 y13
   unfold spec_RedrawTiles.l0
   repeat' first | (with_reducible exact ih2 _ _ _ _ _ _ _ _ _ _ _ _ _ _ _) | (with_reducible exact LeO.refl _) | (with_reducible refine LeO.ite ?_ ?_) | (with_reducible refine LeO.bind ?_ (fun _ => ?_))
  intro y0 y1 y2 y3 y4 y5 y6 y7 y8 y9 y10 y11 y12 y13 y14
  unfold spec_RedrawTiles.j2
  repeat' first | (with_reducible exact ih1 _ _ _ _ _ _ _ _ _ _ _ _ _ _) | (with_reducible exact spec_crop.mono _ _ _ _ _ _ _ _ _) | (with_reducible exact spec_paste.mono _ _ _ _ _ _ _ _ _ _ _) | (with_reducible exact LeO.refl _) | (with_reducible refine LeO.ite ?_ ?_) | (with_reducible refine LeO.bind ?_ (fun _ => ?_))
theorem spec_RedrawTiles.mono : ∀ a0 a1 a2 a3 a4 a5 a6 a7 a8 a9 k, LeO (spec_RedrawTiles.f k a0 a1 a2 a3 a4 a5 a6 a7 a8 a9) (spec_RedrawTiles.f (k + 1) a0 a1 a2 a3 a4 a5 a6 a7 a8 a9) := by
 intro a0 a1 a2 a3 a4 a5 a6 a7 a8 a9 k
 obtain ⟨ih0, ih1, ih2⟩ := spec_RedrawTiles.mono_l k
 unfold spec_RedrawTiles.f
 repeat' first | (with_reducible exact ih0 _ _ _ _ _ _ _ _ _ _ _ _ _ _) | (with_reducible exact spec_FlattenLayers.mono _ _ _ _ _ _) | (with_reducible exact spec_validImage.mono _ _ _ _ _) | (with_reducible refine LeO.ite ?_ ?_) | (with_reducible refine LeO.bind ?_ (fun _ => ?_))
def spec_RedrawTiles.T8 : Bool × List (List Nat × List Nat) := (true, [([], []), ([], []), ([0, 1], [0, 1]), ([2], [2]), ([], []), ([4], [4]), ([5], [5]), ([3, 6, 5], [3, 6]), ([7], [7]), ([8, 7], [8]), ([9], [9]), ([10, 9], [9, 10]), ([11, 9, 9], [9, 11]), ([12], [12]), ([12], [12]), ([13, 14, 12], [12, 13, 14]), ([15, 12], [12, 15]), ([12], [12]), ([12], [12]), ([18, 12], [12, 18]), ([17, 19, 12], [12, 17, 19]), ([20, 12], [12, 20]), ([16, 21, 12], [12, 16, 21]), ([12, 22, 9], [9, 12, 22]), ([9, 23], [9, 23])])
def spec_RedrawTiles.B8 : List Nat := [0, 0, 3, 7, 0, 16, 48, 127, 255, 511, 1023, 2047, 4095, 8191, 8191, 32767, 65535, 8191, 8191, 270335, 925695, 1974271, 4194303, 8388607, 16777215]
theorem spec_RedrawTiles.tab8 : rtab .any (opsOf Try.f76 8) = spec_RedrawTiles.T8 := by kernel_rfl
theorem spec_RedrawTiles.bits8 : waitsOk spec_RedrawTiles.T8.2 spec_RedrawTiles.B8 = true := by kernel_rfl
def spec_RedrawTiles.T10 : Bool × List (List Nat × List Nat) := (true, [([], []), ([], []), ([], []), ([1, 2], [1, 2]), ([3], [3]), ([0, 4], [0, 4]), ([], []), ([6, 5, 5, 0, 1, 2, 3, 4, 5, 6], [5, 6])])
def spec_RedrawTiles.B10 : List Nat := [0, 0, 0, 6, 14, 31, 0, 127]
theorem spec_RedrawTiles.tab10 : rtab .any (opsOf Try.f76 10) = spec_RedrawTiles.T10 := by kernel_rfl
theorem spec_RedrawTiles.bits10 : waitsOk spec_RedrawTiles.T10.2 spec_RedrawTiles.B10 = true := by kernel_rfl
def spec_RedrawTiles.T11 : Bool × List (List Nat × List Nat) := (true, [([], []), ([], []), ([1], [1]), ([], []), ([3], [3]), ([], []), ([], []), ([6], [6]), ([], []), ([8], [8]), ([], []), ([10], [10]), ([], []), ([12], [12]), ([5, 7, 9, 11, 13], [5, 7, 9, 11, 13]), ([0, 2, 4, 14, 14], [0, 2, 4, 14])])
def spec_RedrawTiles.B11 : List Nat := [0, 0, 2, 0, 8, 0, 0, 64, 0, 256, 0, 1024, 0, 4096, 16352, 32767]
theorem spec_RedrawTiles.tab11 : rtab .any (opsOf Try.f76 11) = spec_RedrawTiles.T11 := by kernel_rfl
theorem spec_RedrawTiles.bits11 : waitsOk spec_RedrawTiles.T11.2 spec_RedrawTiles.B11 = true := by kernel_rfl
set_option maxHeartbeats 8000000 in
set_option maxRecDepth 100000 in
theorem spec_RedrawTiles.calls (k : Nat) (a0_0 : Int) (a0_1 : Int) (a0_2 : Int) (A0_3 : Option Addr) (c0_3 : Nat) (l0_3 : List Int) (a1_0 : Int) (a1_1 : Int) (a1_2 : Int) (A1_3 : Option Addr) (c1_3 : Nat) (l1_3 : List Int) (A2 : Option Addr) (c2 : Nat) (l2 : List S55) (A3 : Option Addr) (c3 : Nat) (l3 : List Int) (r1 : Int) (r2 : Int) (r3 : Int) (r4 : List Int) (r5 : Bool) (w : World) (hr0_3 : Kd.C (Kd.int .i64) w A0_3 l0_3.length l0_3) (hc0_3 : l0_3.length ≤ c0_3) (hr1_3 : Kd.C (Kd.int .i64) w A1_3 l1_3.length l1_3) (hc1_3 : l1_3.length ≤ c1_3) (hr2 : Kd.C k55 w A2 l2.length l2) (hc2 : l2.length ≤ c2) (hr3 : Kd.C (Kd.int .i64) w A3 l3.length l3) (hc3 : l3.length ≤ c3) (h : spec_RedrawTiles.f k a0_0 a0_1 a0_2 l0_3 a1_0 a1_1 a1_2 l1_3 l2 l3 = some (r1, r2, r3, r4, r5)) :
  Calls Try.prog 76 #[.agg #[.int .i64 a0_0, .int .i64 a0_1, .int .i64 a0_2, .slice A0_3 l0_3.length c0_3], .agg #[.int .i64 a1_0, .int .i64 a1_1, .int .i64 a1_2, .slice A1_3 l1_3.length c1_3], .slice A2 l2.length c2, .slice A3 l3.length c3] w fun e w' => ∃ v3_ : Value, e = .returned (.tuple #[.agg #[.int .i64 r1, .int .i64 r2, .int .i64 r3, v3_], .bool r5]) ∧ Kd.R (Kd.int .i64) 3 w' w.heap.size (fun _ => True) v3_ r4 ∧ Below w.heap.size w w' := by
 have hu27 := Try.underlying27
 have hu47 := Try.underlying47
 have HR0_3 := mk hr0_3
 have HC0_3 := mk hc0_3
 clear hr0_3 hc0_3
 have HR1_3 := mk hr1_3
 have HC1_3 := mk hc1_3
 clear hr1_3 hc1_3
 have HR2 := mk hr2
 have HC2 := mk hc2
 clear hr2 hc2
 have HR3 := mk hr3
 have HC3 := mk hc3
 clear hr3 hc3
 have HB := mk (Below.refl w.heap.size w)
 have H : ((spec_FlattenLayers.f k a1_0 a1_1 a1_2 l1_3 l2).bind fun btz0 => (if btz0.2.2.2.2 = true then ((spec_validImage.f k a0_0 a0_1 a0_2 l0_3).bind fun tz13 => (if tz13 = true then (if a0_0 = a1_0 then (if a0_1 = a1_1 then (spec_RedrawTiles.j0 k l3 (a0_2 != a1_2) a0_0 a0_1 a0_2 l0_3 a1_0 a1_1 a1_2 l1_3 btz0.1 btz0.2.1 btz0.2.2.1 btz0.2.2.2.1) else (spec_RedrawTiles.j0 k l3 true a0_0 a0_1 a0_2 l0_3 a1_0 a1_1 a1_2 l1_3 btz0.1 btz0.2.1 btz0.2.2.1 btz0.2.2.2.1)) else (spec_RedrawTiles.j0 k l3 true a0_0 a0_1 a0_2 l0_3 a1_0 a1_1 a1_2 l1_3 btz0.1 btz0.2.1 btz0.2.2.1 btz0.2.2.2.1)) else (spec_RedrawTiles.j0 k l3 true a0_0 a0_1 a0_2 l0_3 a1_0 a1_1 a1_2 l1_3 btz0.1 btz0.2.1 btz0.2.2.1 btz0.2.2.2.1))) else (spec_RedrawTiles.j0 k l3 true a0_0 a0_1 a0_2 l0_3 a1_0 a1_1 a1_2 l1_3 btz0.1 btz0.2.1 btz0.2.2.1 btz0.2.2.2.1))) = some (r1, r2, r3, r4, r5) := h
 clear h
 replace H := Option.bind_eq_some_iff.mp H
 obtain ⟨⟨tz0, tz1, tz2, tz5, tz20⟩, A50, H⟩ := H
 replace H : (if tz20 = true then ((spec_validImage.f k a0_0 a0_1 a0_2 l0_3).bind fun tz13 => (if tz13 = true then (if a0_0 = a1_0 then (if a0_1 = a1_1 then (spec_RedrawTiles.j0 k l3 (a0_2 != a1_2) a0_0 a0_1 a0_2 l0_3 a1_0 a1_1 a1_2 l1_3 tz0 tz1 tz2 tz5) else (spec_RedrawTiles.j0 k l3 true a0_0 a0_1 a0_2 l0_3 a1_0 a1_1 a1_2 l1_3 tz0 tz1 tz2 tz5)) else (spec_RedrawTiles.j0 k l3 true a0_0 a0_1 a0_2 l0_3 a1_0 a1_1 a1_2 l1_3 tz0 tz1 tz2 tz5)) else (spec_RedrawTiles.j0 k l3 true a0_0 a0_1 a0_2 l0_3 a1_0 a1_1 a1_2 l1_3 tz0 tz1 tz2 tz5))) else (spec_RedrawTiles.j0 k l3 true a0_0 a0_1 a0_2 l0_3 a1_0 a1_1 a1_2 l1_3 tz0 tz1 tz2 tz5)) = some (r1, r2, r3, r4, r5) := H
 have A5 := mk A50
 clear A50
 have HC6 := mk H
 clear H
 go_enter Try.func76, Try.ntmps76
 go_upto_region 2 with (first | ((with_reducible refine gate_dst (N := 4) rfl ?_); refine box_event (by rfl) (N := 4) (by rfl) (cs := #[.int .i64 a0_0, .int .i64 a0_1, .int .i64 a0_2, .slice A0_3 l0_3.length c0_3]) (t := 27) (by go_simp; done) ?_; intro gbz3 hg w7 hbox hb; replace HB := mk (below_step HB.out hb); have BKz1 := mk (hbox); clear hb hbox hg) | ((with_reducible refine gate_dst (N := 5) rfl ?_); refine box_event (by rfl) (N := 5) (by rfl) (cs := #[.int .i64 a1_0, .int .i64 a1_1, .int .i64 a1_2, .slice A1_3 l1_3.length c1_3]) (t := 27) (by go_simp; done) ?_; intro gbz1 hg w8 hbox hb; replace BKz1 := mk (blk_below BKz1.out hb); replace HB := mk (below_step HB.out hb); have BKz0 := mk (hbox); clear hb hbox hg) | ((with_reducible refine gate_dst (N := 8) rfl ?_); refine box_event (by rfl) (N := 8) (by rfl) (cs := #[.int .i64 0, .int .i64 0, .int .i64 0, .slice none 0 0]) (t := 27) (by go_simp; done) ?_; intro gbz4 hg w9 hbox hb; replace BKz1 := mk (blk_below BKz1.out hb); replace BKz0 := mk (blk_below BKz0.out hb); have BKz2 := mk (hbox); have GEz2 := mk ((by rw [hg]; exact (below_size HB.out) : w.heap.size ≤ gbz4)); replace HB := mk (below_step HB.out hb); clear hb hbox hg; obtain ⟨hcz12_0, hcz12_1, hcz12_2, hcz12_3, hfz12_0, hfz12_1, hfz12_2, -⟩ := c4 BKz0.out; have hfz12_3 := blk_frozen BKz0.out 3) | ((with_reducible refine gate_callee (f := 65) rfl ?_); refine goesL_ (some 18) rfl rfl Try.func65 (by kernel_rfl) rfl #[.agg #[.int .i64 a1_0, .int .i64 a1_1, .int .i64 a1_2, .slice A1_3 l1_3.length c1_3], .slice A2 l2.length c2] rfl (by (try simp only [List.map_toArray, List.map_cons, List.map_nil]); rfl) ?_; (with_reducible refine (spec_FlattenLayers.calls k a1_0 a1_1 a1_2 _ _ l1_3 _ _ l2 tz0 tz1 tz2 tz5 tz20 _ ?side1 ?side2 ?side3 ?side4 A5.out).mono ?_); (case side1 => repeat (exact (Kd.C_below HR1_3.out HB.out))); (case side2 => exact HC1_3.out); (case side3 => repeat (exact (Kd.C_below HR2.out HB.out))); (case side4 => exact HC2.out); rintro e w13 ⟨vz0, rfl, ho0, hb⟩; refine ⟨_, rfl, ?_⟩; have HOz2 := mk (Kd.R_lower ho0 (below_size HB.out)); replace BKz1 := mk (blk_below BKz1.out hb); replace BKz0 := mk (blk_below BKz0.out hb); replace BKz2 := mk (blk_below BKz2.out hb); replace HB := mk (below_step HB.out hb); (try clear hb); (try clear ho0)) | ((with_reducible refine gate_dst (N := 10) rfl ?_); refine box_event (by rfl) (N := 10) (by rfl) (cs := #[.int .i64 0, .int .i64 0, .int .i64 0, .slice none 0 0]) (t := 27) (by go_simp; done) ?_; intro gbz2 hg w14 hbox hb; replace HOz2 := mk (Kd.R_below HOz2.out hb); have BKz3 := mk (hbox); have GEz0 := mk ((by rw [hg]; exact (below_size HB.out) : w.heap.size ≤ gbz2)); replace HB := mk (below_step HB.out hb); have NBz1 := mk ((by rw [hg]; exact Nat.ne_of_lt (blk_lt BKz1.out) : gbz3 ≠ gbz2)); have NBz13 := mk ((by rw [hg]; exact Nat.ne_of_gt (blk_lt BKz1.out) : gbz2 ≠ gbz3)); replace BKz1 := mk (blk_below BKz1.out hb); have NBz2 := mk ((by rw [hg]; exact Nat.ne_of_lt (blk_lt BKz0.out) : gbz1 ≠ gbz2)); replace BKz0 := mk (blk_below BKz0.out hb); have NBz3 := mk ((by rw [hg]; exact Nat.ne_of_lt (blk_lt BKz2.out) : gbz4 ≠ gbz2)); replace BKz2 := mk (blk_below BKz2.out hb); clear hb hbox hg; obtain ⟨hcz18_0, hcz18_1, hcz18_2, hcz18_3, hfz18_0, hfz18_1, hfz18_2, hfz18_3⟩ := c4 BKz3.out; obtain ⟨Ao19, co19, eo19⟩ := Kd.R_slice HOz2.out; subst eo19))
 go_cut [48] (fun v48 wc => ∃ (kq : Nat) (x48_5 : Bool), v48 = .bool x48_5 ∧ Aside0 (spec_RedrawTiles.j0 kq l3 x48_5 a0_0 a0_1 a0_2 l0_3 a1_0 a1_1 a1_2 l1_3 tz0 tz1 tz2 tz5 = some (r1, r2, r3, r4, r5)) ∧ Aside0 (kq ≤ k) ∧ Aside0 (Kd.R (Kd.int .i64) 3 wc w.heap.size (fun _ => True) (.slice Ao19 tz5.length co19) tz5) ∧ Aside0 (wc.heap[gbz3]? = some (.cells #[.int .i64 a0_0, .int .i64 a0_1, .int .i64 a0_2, (.slice A0_3 l0_3.length c0_3)] 27 (0, 0))) ∧ Aside0 (wc.heap[gbz1]? = some (.cells #[.int .i64 a1_0, .int .i64 a1_1, .int .i64 a1_2, (.slice A1_3 l1_3.length c1_3)] 27 (0, 0))) ∧ Aside0 (wc.heap[gbz4]? = some (.cells #[.int .i64 0, .int .i64 0, .int .i64 0, (.slice none 0 0)] 27 (0, 0))) ∧ Aside0 (wc.heap[gbz2]? = some (.cells #[.int .i64 tz0, .int .i64 tz1, .int .i64 tz2, (.slice Ao19 tz5.length co19)] 27 (0, 0))) ∧ Aside0 (Below w.heap.size w wc))
 case first =>
  have H := HC6.out
  clear HC6
  by_cases c20 : tz20 = true
  ·subst c20
   have H1 : ((spec_validImage.f k a0_0 a0_1 a0_2 l0_3).bind fun tz13 => (if tz13 = true then (if a0_0 = a1_0 then (if a0_1 = a1_1 then (spec_RedrawTiles.j0 k l3 (a0_2 != a1_2) a0_0 a0_1 a0_2 l0_3 a1_0 a1_1 a1_2 l1_3 tz0 tz1 tz2 tz5) else (spec_RedrawTiles.j0 k l3 true a0_0 a0_1 a0_2 l0_3 a1_0 a1_1 a1_2 l1_3 tz0 tz1 tz2 tz5)) else (spec_RedrawTiles.j0 k l3 true a0_0 a0_1 a0_2 l0_3 a1_0 a1_1 a1_2 l1_3 tz0 tz1 tz2 tz5)) else (spec_RedrawTiles.j0 k l3 true a0_0 a0_1 a0_2 l0_3 a1_0 a1_1 a1_2 l1_3 tz0 tz1 tz2 tz5))) = some (r1, r2, r3, r4, r5) := by rw [if_pos rfl] at H; exact H
   clear H
   have H := H1
   clear H1
   replace H := Option.bind_eq_some_iff.mp H
   obtain ⟨tz13, A210, H⟩ := H
   replace H : (if tz13 = true then (if a0_0 = a1_0 then (if a0_1 = a1_1 then (spec_RedrawTiles.j0 k l3 (a0_2 != a1_2) a0_0 a0_1 a0_2 l0_3 a1_0 a1_1 a1_2 l1_3 tz0 tz1 tz2 tz5) else (spec_RedrawTiles.j0 k l3 true a0_0 a0_1 a0_2 l0_3 a1_0 a1_1 a1_2 l1_3 tz0 tz1 tz2 tz5)) else (spec_RedrawTiles.j0 k l3 true a0_0 a0_1 a0_2 l0_3 a1_0 a1_1 a1_2 l1_3 tz0 tz1 tz2 tz5)) else (spec_RedrawTiles.j0 k l3 true a0_0 a0_1 a0_2 l0_3 a1_0 a1_1 a1_2 l1_3 tz0 tz1 tz2 tz5)) = some (r1, r2, r3, r4, r5) := H
   have A21 := mk A210
   clear A210
   by_cases c22 : tz13 = true
   ·subst c22
    have H1 : (if a0_0 = a1_0 then (if a0_1 = a1_1 then (spec_RedrawTiles.j0 k l3 (a0_2 != a1_2) a0_0 a0_1 a0_2 l0_3 a1_0 a1_1 a1_2 l1_3 tz0 tz1 tz2 tz5) else (spec_RedrawTiles.j0 k l3 true a0_0 a0_1 a0_2 l0_3 a1_0 a1_1 a1_2 l1_3 tz0 tz1 tz2 tz5)) else (spec_RedrawTiles.j0 k l3 true a0_0 a0_1 a0_2 l0_3 a1_0 a1_1 a1_2 l1_3 tz0 tz1 tz2 tz5)) = some (r1, r2, r3, r4, r5) := by rw [if_pos rfl] at H; exact H
    clear H
    have H := H1
    clear H1
    by_cases c23 : a0_0 = a1_0
    ·rw [if_pos c23] at H
     have c23b0 : (a0_0 == a1_0) = true := beq_iff_eq.mpr c23
     have c23b1 : (a0_0 != a1_0) = false := bne_eq_false_iff_eq.mpr c23
     clear c23
     (skip)
     by_cases c24 : a0_1 = a1_1
     ·rw [if_pos c24] at H
      have c24b0 : (a0_1 == a1_1) = true := beq_iff_eq.mpr c24
      have c24b1 : (a0_1 != a1_1) = false := bne_eq_false_iff_eq.mpr c24
      clear c24
      have H' := mk H
      clear H
      have hnc27 := NBz13.out
      obtain ⟨hcz28_0, hcz28_1, hcz28_2, hcz28_3, -⟩ := c4 BKz1.out
      go_wp2_with (first | (go_at_call 89; (with_reducible refine (spec_validImage.calls k a0_0 a0_1 a0_2 _ _ l0_3 true _ ?side1 ?side2 A21.out).mono ?_); (case side1 => exact Kd.C_below HR0_3.out (by repeat (with_reducible first | exact HB.out | refine below_set ?_ GEz0.out))); (case side2 => exact HC0_3.out); rintro e w29 ⟨rfl, hb⟩; replace HOz2 := mk (Kd.R_below (by exact (Kd.R_mono (Kd.R_far (p := ⟨gbz2, 3, none⟩) (Kd.R_far (p := ⟨gbz2, 2, none⟩) (Kd.R_far (p := ⟨gbz2, 1, none⟩) (Kd.R_far (p := ⟨gbz2, 0, none⟩) (Kd.R_types HOz2.out BKz3.out (by decide)) (fun _ hk => hk.2) (.int .i64 tz0)) (fun _ hk => hk.2) (.int .i64 tz1)) (fun _ hk => hk.2) (.int .i64 tz2)) (fun _ hk => hk.2) (.slice Ao19 tz5.length co19)) (fun _ h_ => h_.1))) hb); replace BKz1 := mk (blk_below (g := gbz3) (o := .cells #[.int .i64 a0_0, .int .i64 a0_1, .int .i64 a0_2, .slice A0_3 l0_3.length c0_3] 27 (0, 0)) (by refine blk_far ?_ NBz1.out _; refine blk_far ?_ NBz1.out _; refine blk_far ?_ NBz1.out _; refine blk_far ?_ NBz1.out _; exact BKz1.out) hb); replace BKz0 := mk (blk_below (g := gbz1) (o := .cells #[.int .i64 a1_0, .int .i64 a1_1, .int .i64 a1_2, .slice A1_3 l1_3.length c1_3] 27 (0, 0)) (by refine blk_far ?_ NBz2.out _; refine blk_far ?_ NBz2.out _; refine blk_far ?_ NBz2.out _; refine blk_far ?_ NBz2.out _; exact BKz0.out) hb); replace BKz2 := mk (blk_below (g := gbz4) (o := .cells #[.int .i64 0, .int .i64 0, .int .i64 0, .slice none 0 0] 27 (0, 0)) (by refine blk_far ?_ NBz3.out _; refine blk_far ?_ NBz3.out _; refine blk_far ?_ NBz3.out _; refine blk_far ?_ NBz3.out _; exact BKz2.out) hb); replace BKz3 := mk (blk_below (g := gbz2) (o := .cells #[.int .i64 tz0, .int .i64 tz1, .int .i64 tz2, .slice Ao19 tz5.length co19] 27 (0, 0)) (by refine blk_put (cs := #[.int .i64 tz0, .int .i64 tz1, .int .i64 tz2, .slice none 0 0]) ?_ 3 _ rfl; refine blk_put (cs := #[.int .i64 tz0, .int .i64 tz1, .int .i64 0, .slice none 0 0]) ?_ 2 _ rfl; refine blk_put (cs := #[.int .i64 tz0, .int .i64 0, .int .i64 0, .slice none 0 0]) ?_ 1 _ rfl; refine blk_put (cs := #[.int .i64 0, .int .i64 0, .int .i64 0, .slice none 0 0]) ?_ 0 _ rfl; exact BKz3.out) hb); replace HB := mk (below_step (by repeat (with_reducible first | exact HB.out | refine below_set ?_ GEz0.out)) hb); (try clear hb); obtain ⟨hcz30_0, hcz30_1, hcz30_2, -⟩ := c4 BKz1.out; obtain ⟨hcz33_0, hcz33_1, hcz33_2, -⟩ := c4 BKz0.out))
      go_meet
      case rel => exact ⟨_, (a0_2 != a1_2), (by rfl), H', ⟨by omega⟩, HOz2, BKz1, BKz0, BKz2, BKz3, HB⟩
     rw [if_neg c24] at H
     have c24b0 : (a0_1 == a1_1) = false := beq_eq_false_iff_ne.mpr c24
     have c24b1 : (a0_1 != a1_1) = true := bne_iff_ne.mpr c24
     have H' := mk H
     clear H
     have hnc36 := NBz13.out
     obtain ⟨hcz37_0, hcz37_1, hcz37_2, hcz37_3, -⟩ := c4 BKz1.out
     go_wp2_with (first | (go_at_call 89; (with_reducible refine (spec_validImage.calls k a0_0 a0_1 a0_2 _ _ l0_3 true _ ?side1 ?side2 A21.out).mono ?_); (case side1 => exact Kd.C_below HR0_3.out (by repeat (with_reducible first | exact HB.out | refine below_set ?_ GEz0.out))); (case side2 => exact HC0_3.out); rintro e w38 ⟨rfl, hb⟩; replace HOz2 := mk (Kd.R_below (by exact (Kd.R_mono (Kd.R_far (p := ⟨gbz2, 3, none⟩) (Kd.R_far (p := ⟨gbz2, 2, none⟩) (Kd.R_far (p := ⟨gbz2, 1, none⟩) (Kd.R_far (p := ⟨gbz2, 0, none⟩) (Kd.R_types HOz2.out BKz3.out (by decide)) (fun _ hk => hk.2) (.int .i64 tz0)) (fun _ hk => hk.2) (.int .i64 tz1)) (fun _ hk => hk.2) (.int .i64 tz2)) (fun _ hk => hk.2) (.slice Ao19 tz5.length co19)) (fun _ h_ => h_.1))) hb); replace BKz1 := mk (blk_below (g := gbz3) (o := .cells #[.int .i64 a0_0, .int .i64 a0_1, .int .i64 a0_2, .slice A0_3 l0_3.length c0_3] 27 (0, 0)) (by refine blk_far ?_ NBz1.out _; refine blk_far ?_ NBz1.out _; refine blk_far ?_ NBz1.out _; refine blk_far ?_ NBz1.out _; exact BKz1.out) hb); replace BKz0 := mk (blk_below (g := gbz1) (o := .cells #[.int .i64 a1_0, .int .i64 a1_1, .int .i64 a1_2, .slice A1_3 l1_3.length c1_3] 27 (0, 0)) (by refine blk_far ?_ NBz2.out _; refine blk_far ?_ NBz2.out _; refine blk_far ?_ NBz2.out _; refine blk_far ?_ NBz2.out _; exact BKz0.out) hb); replace BKz2 := mk (blk_below (g := gbz4) (o := .cells #[.int .i64 0, .int .i64 0, .int .i64 0, .slice none 0 0] 27 (0, 0)) (by refine blk_far ?_ NBz3.out _; refine blk_far ?_ NBz3.out _; refine blk_far ?_ NBz3.out _; refine blk_far ?_ NBz3.out _; exact BKz2.out) hb); replace BKz3 := mk (blk_below (g := gbz2) (o := .cells #[.int .i64 tz0, .int .i64 tz1, .int .i64 tz2, .slice Ao19 tz5.length co19] 27 (0, 0)) (by refine blk_put (cs := #[.int .i64 tz0, .int .i64 tz1, .int .i64 tz2, .slice none 0 0]) ?_ 3 _ rfl; refine blk_put (cs := #[.int .i64 tz0, .int .i64 tz1, .int .i64 0, .slice none 0 0]) ?_ 2 _ rfl; refine blk_put (cs := #[.int .i64 tz0, .int .i64 0, .int .i64 0, .slice none 0 0]) ?_ 1 _ rfl; refine blk_put (cs := #[.int .i64 0, .int .i64 0, .int .i64 0, .slice none 0 0]) ?_ 0 _ rfl; exact BKz3.out) hb); replace HB := mk (below_step (by repeat (with_reducible first | exact HB.out | refine below_set ?_ GEz0.out)) hb); (try clear hb); obtain ⟨hcz39_0, hcz39_1, -⟩ := c4 BKz1.out; obtain ⟨hcz42_0, hcz42_1, -⟩ := c4 BKz0.out))
     go_meet
     case rel => exact ⟨_, (true), (by rfl), H', ⟨by omega⟩, HOz2, BKz1, BKz0, BKz2, BKz3, HB⟩
    rw [if_neg c23] at H
    have c23b0 : (a0_0 == a1_0) = false := beq_eq_false_iff_ne.mpr c23
    have c23b1 : (a0_0 != a1_0) = true := bne_iff_ne.mpr c23
    (skip)
    have H' := mk H
    clear H
    have hnc45 := NBz13.out
    obtain ⟨hcz46_0, hcz46_1, hcz46_2, hcz46_3, -⟩ := c4 BKz1.out
    go_wp2_with (first | (go_at_call 89; (with_reducible refine (spec_validImage.calls k a0_0 a0_1 a0_2 _ _ l0_3 true _ ?side1 ?side2 A21.out).mono ?_); (case side1 => exact Kd.C_below HR0_3.out (by repeat (with_reducible first | exact HB.out | refine below_set ?_ GEz0.out))); (case side2 => exact HC0_3.out); rintro e w47 ⟨rfl, hb⟩; replace HOz2 := mk (Kd.R_below (by exact (Kd.R_mono (Kd.R_far (p := ⟨gbz2, 3, none⟩) (Kd.R_far (p := ⟨gbz2, 2, none⟩) (Kd.R_far (p := ⟨gbz2, 1, none⟩) (Kd.R_far (p := ⟨gbz2, 0, none⟩) (Kd.R_types HOz2.out BKz3.out (by decide)) (fun _ hk => hk.2) (.int .i64 tz0)) (fun _ hk => hk.2) (.int .i64 tz1)) (fun _ hk => hk.2) (.int .i64 tz2)) (fun _ hk => hk.2) (.slice Ao19 tz5.length co19)) (fun _ h_ => h_.1))) hb); replace BKz1 := mk (blk_below (g := gbz3) (o := .cells #[.int .i64 a0_0, .int .i64 a0_1, .int .i64 a0_2, .slice A0_3 l0_3.length c0_3] 27 (0, 0)) (by refine blk_far ?_ NBz1.out _; refine blk_far ?_ NBz1.out _; refine blk_far ?_ NBz1.out _; refine blk_far ?_ NBz1.out _; exact BKz1.out) hb); replace BKz0 := mk (blk_below (g := gbz1) (o := .cells #[.int .i64 a1_0, .int .i64 a1_1, .int .i64 a1_2, .slice A1_3 l1_3.length c1_3] 27 (0, 0)) (by refine blk_far ?_ NBz2.out _; refine blk_far ?_ NBz2.out _; refine blk_far ?_ NBz2.out _; refine blk_far ?_ NBz2.out _; exact BKz0.out) hb); replace BKz2 := mk (blk_below (g := gbz4) (o := .cells #[.int .i64 0, .int .i64 0, .int .i64 0, .slice none 0 0] 27 (0, 0)) (by refine blk_far ?_ NBz3.out _; refine blk_far ?_ NBz3.out _; refine blk_far ?_ NBz3.out _; refine blk_far ?_ NBz3.out _; exact BKz2.out) hb); replace BKz3 := mk (blk_below (g := gbz2) (o := .cells #[.int .i64 tz0, .int .i64 tz1, .int .i64 tz2, .slice Ao19 tz5.length co19] 27 (0, 0)) (by refine blk_put (cs := #[.int .i64 tz0, .int .i64 tz1, .int .i64 tz2, .slice none 0 0]) ?_ 3 _ rfl; refine blk_put (cs := #[.int .i64 tz0, .int .i64 tz1, .int .i64 0, .slice none 0 0]) ?_ 2 _ rfl; refine blk_put (cs := #[.int .i64 tz0, .int .i64 0, .int .i64 0, .slice none 0 0]) ?_ 1 _ rfl; refine blk_put (cs := #[.int .i64 0, .int .i64 0, .int .i64 0, .slice none 0 0]) ?_ 0 _ rfl; exact BKz3.out) hb); replace HB := mk (below_step (by repeat (with_reducible first | exact HB.out | refine below_set ?_ GEz0.out)) hb); (try clear hb); have hcz48_0 : w47.cell? ⟨gbz3, 0, none⟩ = some (.int .i64 a0_0) := (blk_cell BKz1.out 0).trans rfl; have hcz51_0 : w47.cell? ⟨gbz1, 0, none⟩ = some (.int .i64 a1_0) := (blk_cell BKz0.out 0).trans rfl))
    go_meet
    case rel => exact ⟨_, (true), (by rfl), H', ⟨by omega⟩, HOz2, BKz1, BKz0, BKz2, BKz3, HB⟩
   replace c22 := Bool.eq_false_iff.mpr c22
   subst c22
   have H1 : (spec_RedrawTiles.j0 k l3 true a0_0 a0_1 a0_2 l0_3 a1_0 a1_1 a1_2 l1_3 tz0 tz1 tz2 tz5) = some (r1, r2, r3, r4, r5) := by rw [if_neg (show ¬ (false = true) by decide)] at H; exact H
   clear H
   have H := H1
   clear H1
   have H' := mk H
   clear H
   have hnc54 := NBz13.out
   obtain ⟨hcz55_0, hcz55_1, hcz55_2, hcz55_3, -⟩ := c4 BKz1.out
   go_wp2_with (first | (go_at_call 89; (with_reducible refine (spec_validImage.calls k a0_0 a0_1 a0_2 _ _ l0_3 false _ ?side1 ?side2 A21.out).mono ?_); (case side1 => exact Kd.C_below HR0_3.out (by repeat (with_reducible first | exact HB.out | refine below_set ?_ GEz0.out))); (case side2 => exact HC0_3.out); rintro e w56 ⟨rfl, hb⟩; replace HOz2 := mk (Kd.R_below (by exact (Kd.R_mono (Kd.R_far (p := ⟨gbz2, 3, none⟩) (Kd.R_far (p := ⟨gbz2, 2, none⟩) (Kd.R_far (p := ⟨gbz2, 1, none⟩) (Kd.R_far (p := ⟨gbz2, 0, none⟩) (Kd.R_types HOz2.out BKz3.out (by decide)) (fun _ hk => hk.2) (.int .i64 tz0)) (fun _ hk => hk.2) (.int .i64 tz1)) (fun _ hk => hk.2) (.int .i64 tz2)) (fun _ hk => hk.2) (.slice Ao19 tz5.length co19)) (fun _ h_ => h_.1))) hb); replace BKz1 := mk (blk_below (g := gbz3) (o := .cells #[.int .i64 a0_0, .int .i64 a0_1, .int .i64 a0_2, .slice A0_3 l0_3.length c0_3] 27 (0, 0)) (by refine blk_far ?_ NBz1.out _; refine blk_far ?_ NBz1.out _; refine blk_far ?_ NBz1.out _; refine blk_far ?_ NBz1.out _; exact BKz1.out) hb); replace BKz0 := mk (blk_below (g := gbz1) (o := .cells #[.int .i64 a1_0, .int .i64 a1_1, .int .i64 a1_2, .slice A1_3 l1_3.length c1_3] 27 (0, 0)) (by refine blk_far ?_ NBz2.out _; refine blk_far ?_ NBz2.out _; refine blk_far ?_ NBz2.out _; refine blk_far ?_ NBz2.out _; exact BKz0.out) hb); replace BKz2 := mk (blk_below (g := gbz4) (o := .cells #[.int .i64 0, .int .i64 0, .int .i64 0, .slice none 0 0] 27 (0, 0)) (by refine blk_far ?_ NBz3.out _; refine blk_far ?_ NBz3.out _; refine blk_far ?_ NBz3.out _; refine blk_far ?_ NBz3.out _; exact BKz2.out) hb); replace BKz3 := mk (blk_below (g := gbz2) (o := .cells #[.int .i64 tz0, .int .i64 tz1, .int .i64 tz2, .slice Ao19 tz5.length co19] 27 (0, 0)) (by refine blk_put (cs := #[.int .i64 tz0, .int .i64 tz1, .int .i64 tz2, .slice none 0 0]) ?_ 3 _ rfl; refine blk_put (cs := #[.int .i64 tz0, .int .i64 tz1, .int .i64 0, .slice none 0 0]) ?_ 2 _ rfl; refine blk_put (cs := #[.int .i64 tz0, .int .i64 0, .int .i64 0, .slice none 0 0]) ?_ 1 _ rfl; refine blk_put (cs := #[.int .i64 0, .int .i64 0, .int .i64 0, .slice none 0 0]) ?_ 0 _ rfl; exact BKz3.out) hb); replace HB := mk (below_step (by repeat (with_reducible first | exact HB.out | refine below_set ?_ GEz0.out)) hb); (try clear hb)))
   go_meet
   case rel => exact ⟨_, (true), (by rfl), H', ⟨by omega⟩, HOz2, BKz1, BKz0, BKz2, BKz3, HB⟩
  replace c20 := Bool.eq_false_iff.mpr c20
  subst c20
  have H1 : (spec_RedrawTiles.j0 k l3 true a0_0 a0_1 a0_2 l0_3 a1_0 a1_1 a1_2 l1_3 tz0 tz1 tz2 tz5) = some (r1, r2, r3, r4, r5) := by rw [if_neg (show ¬ (false = true) by decide)] at H; exact H
  clear H
  have H := H1
  clear H1
  have H' := mk H
  clear H
  go_wp2
  go_meet
  case rel => exact ⟨_, (true), (by rfl), H', ⟨by omega⟩, ⟨by exact Kd.R_mono (Kd.R_far (p := ⟨gbz2, 3, none⟩) (Kd.R_far (p := ⟨gbz2, 2, none⟩) (Kd.R_far (p := ⟨gbz2, 1, none⟩) (Kd.R_far (p := ⟨gbz2, 0, none⟩) (Kd.R_types HOz2.out BKz3.out (by decide)) (fun _ hk => hk.2) (.int .i64 tz0)) (fun _ hk => hk.2) (.int .i64 tz1)) (fun _ hk => hk.2) (.int .i64 tz2)) (fun _ hk => hk.2) (.slice Ao19 tz5.length co19)) (fun _ hk => trivial)⟩, ⟨by refine blk_far ?_ NBz1.out _; refine blk_far ?_ NBz1.out _; refine blk_far ?_ NBz1.out _; refine blk_far ?_ NBz1.out _; exact BKz1.out⟩, ⟨by refine blk_far ?_ NBz2.out _; refine blk_far ?_ NBz2.out _; refine blk_far ?_ NBz2.out _; refine blk_far ?_ NBz2.out _; exact BKz0.out⟩, ⟨by refine blk_far ?_ NBz3.out _; refine blk_far ?_ NBz3.out _; refine blk_far ?_ NBz3.out _; refine blk_far ?_ NBz3.out _; exact BKz2.out⟩, ⟨by refine blk_put (cs := #[.int .i64 tz0, .int .i64 tz1, .int .i64 tz2, .slice none 0 0]) ?_ 3 _ rfl; refine blk_put (cs := #[.int .i64 tz0, .int .i64 tz1, .int .i64 0, .slice none 0 0]) ?_ 2 _ rfl; refine blk_put (cs := #[.int .i64 tz0, .int .i64 0, .int .i64 0, .slice none 0 0]) ?_ 1 _ rfl; refine blk_put (cs := #[.int .i64 0, .int .i64 0, .int .i64 0, .slice none 0 0]) ?_ 0 _ rfl; exact BKz3.out⟩, ⟨by repeat (with_reducible first | exact HB.out | refine below_set ?_ GEz0.out)⟩⟩
 case rest =>
  clear HC6
  obtain ⟨kq, x48_5, rfl, HA, HJ5, HOz0, BKz1, BKz0, BKz2, BKz3, HB⟩ := hcut
  cases kq with
  | zero => exact absurd HA.out (by simp [spec_RedrawTiles.j0])
  | succ kj5 =>
   have H := HA.out
   clear HA
   simp only [spec_RedrawTiles.j0] at H
   by_cases c57 : x48_5 = true
   ·subst c57
    have H1 : (some (0, 0, 0, ([] : List Int), false)) = some (r1, r2, r3, r4, r5) := by rw [if_pos rfl] at H; exact H
    clear H
    have H := H1
    clear H1
    simp only [Option.some.injEq, Prod.mk.injEq] at H
    obtain ⟨rfl, rfl, rfl, rfl, rfl⟩ := H
    obtain ⟨hcz61_0, hcz61_1, hcz61_2, hcz61_3, hfz61_0, hfz61_1, hfz61_2, hfz61_3⟩ := c4 BKz2.out
    go_wp2
    refine bodyPost_ret (results_ct rfl _ _ gbz4 27 #[.int .i64 0, .int .i64 0, .int .i64 0, .slice none 0 0] (0, 0) _ rfl (by refine blk_put (cs := #[.int .i64 0, .int .i64 0, .int .i64 0, .slice none 0 0]) ?_ 3 _ rfl; refine blk_put (cs := #[.int .i64 0, .int .i64 0, .int .i64 0, .slice none 0 0]) ?_ 2 _ rfl; refine blk_put (cs := #[.int .i64 0, .int .i64 0, .int .i64 0, .slice none 0 0]) ?_ 1 _ rfl; refine blk_put (cs := #[.int .i64 0, .int .i64 0, .int .i64 0, .slice none 0 0]) ?_ 0 _ rfl; exact BKz2.out) Try.underlying27 rfl (by kernel_rfl)) rfl ?_
    exact ⟨_, by rfl, by exact Kd.R_nil _ _ _ _ _, by repeat (with_reducible first | exact HB.out | refine below_set ?_ GEz2.out)⟩
   replace c57 := Bool.eq_false_iff.mpr c57
   subst c57
   have H1 : ((spec_copyImage.f a0_0 a0_1 a0_2 l0_3).bind fun btz3 => (spec_RedrawTiles.l0 kj5 l3 0 a1_0 a1_1 a1_2 l1_3 tz0 tz1 tz2 tz5 btz3.1 btz3.2.1 btz3.2.2.1 btz3.2.2.2)) = some (r1, r2, r3, r4, r5) := by rw [if_neg (show ¬ (false = true) by decide)] at H; exact H
   clear H
   have H := H1
   clear H1
   replace H := Option.bind_eq_some_iff.mp H
   obtain ⟨⟨tz3, tz4, tz6, tz15⟩, A620, H⟩ := H
   replace H : (spec_RedrawTiles.l0 kj5 l3 0 a1_0 a1_1 a1_2 l1_3 tz0 tz1 tz2 tz5 tz3 tz4 tz6 tz15) = some (r1, r2, r3, r4, r5) := H
   have A62 := mk A620
   clear A620
   have H' := mk H
   clear H
   obtain ⟨hcz66_0, hcz66_1, hcz66_2, hcz66_3, hfz66_0, hfz66_1, hfz66_2, hfz66_3⟩ := c4 BKz1.out
   go_wp2_with (first | ((with_reducible refine gate_callee (f := 113) rfl ?_); refine goesL_ (some 51) rfl rfl Try.func113 (by kernel_rfl) rfl #[.agg #[.int .i64 a0_0, .int .i64 a0_1, .int .i64 a0_2, .slice A0_3 l0_3.length c0_3]] rfl (by (try simp only [List.map_toArray, List.map_cons, List.map_nil]); rfl) ?_; (with_reducible refine (spec_copyImage.calls a0_0 a0_1 a0_2 _ _ l0_3 tz3 tz4 tz6 tz15 _ ?side1 ?side2 A62.out).mono ?_); (case side1 => repeat (exact (Kd.C_below HR0_3.out HB.out))); (case side2 => exact HC0_3.out); rintro e w67 ⟨vz1, rfl, ho0, hb⟩; refine ⟨_, rfl, ?_⟩; have HOz4 := mk (Kd.R_lower (Kd.R_new' ho0 (Kd.R_lt HOz0.out)) (below_size HB.out)); replace HOz0 := mk (Kd.R_elder' HOz0.out (Kd.R_base ho0) hb); replace BKz1 := mk (blk_below BKz1.out hb); replace BKz0 := mk (blk_below BKz0.out hb); replace BKz2 := mk (blk_below BKz2.out hb); replace BKz3 := mk (blk_below BKz3.out hb); replace HB := mk (below_step HB.out hb); (try clear hb); (try clear ho0)) | ((with_reducible refine gate_dst (N := 12) rfl ?_); refine box_event (by rfl) (N := 12) (by rfl) (cs := #[.int .i64 0, .int .i64 0, .int .i64 0, .slice none 0 0]) (t := 27) (by go_simp; done) ?_; intro gbz5 hg w68 hbox hb; replace HOz0 := mk (Kd.R_below HOz0.out hb); replace HOz4 := mk (Kd.R_below HOz4.out hb); have BKz4 := mk (hbox); have GEz3 := mk ((by rw [hg]; exact (below_size HB.out) : w.heap.size ≤ gbz5)); replace HB := mk (below_step HB.out hb); have NBz14 := mk ((by rw [hg]; exact Nat.ne_of_lt (blk_lt BKz1.out) : gbz3 ≠ gbz5)); replace BKz1 := mk (blk_below BKz1.out hb); have NBz15 := mk ((by rw [hg]; exact Nat.ne_of_lt (blk_lt BKz0.out) : gbz1 ≠ gbz5)); replace BKz0 := mk (blk_below BKz0.out hb); have NBz16 := mk ((by rw [hg]; exact Nat.ne_of_lt (blk_lt BKz2.out) : gbz4 ≠ gbz5)); replace BKz2 := mk (blk_below BKz2.out hb); have NBz17 := mk ((by rw [hg]; exact Nat.ne_of_lt (blk_lt BKz3.out) : gbz2 ≠ gbz5)); replace BKz3 := mk (blk_below BKz3.out hb); clear hb hbox hg; obtain ⟨hcz73_0, hcz73_1, hcz73_2, hcz73_3, hfz73_0, hfz73_1, hfz73_2, hfz73_3⟩ := c4 BKz4.out; obtain ⟨Ao74, co74, eo74⟩ := Kd.R_slice HOz4.out; subst eo74))
   go_loopg [13] kj5 (fun kq v13 w' => ∃ (x13_2 : Int) (xz4 : Int) (xz3 : Int) (xz2 : Int) (xz0 : List Int) (xz1 : List Int) (u77012003 : Value) (u77020003 : Value), v13 = .int .i64 x13_2 ∧ Aside0 (spec_RedrawTiles.l0 kq l3 x13_2 a1_0 a1_1 a1_2 l1_3 tz0 tz1 tz2 xz0 tz3 tz4 tz6 xz1 = some (r1, r2, r3, r4, r5)) ∧ Aside0 (kq ≤ kj5) ∧ Aside0 (Kd.R (Kd.int .i64) 3 w' w.heap.size (fun k_ => some k_ ≠ (u77020003 : Value).ownBlock) u77012003 xz0) ∧ Aside0 (Kd.R (Kd.int .i64) 3 w' w.heap.size (fun k_ => some k_ ≠ (u77012003 : Value).ownBlock) u77020003 xz1) ∧ Aside0 (w'.heap[gbz3]? = some (.cells #[.int .i64 a0_0, .int .i64 a0_1, .int .i64 a0_2, (.slice A0_3 l0_3.length c0_3)] 27 (0, 0))) ∧ Aside0 (w'.heap[gbz1]? = some (.cells #[.int .i64 a1_0, .int .i64 a1_1, .int .i64 a1_2, (.slice A1_3 l1_3.length c1_3)] 27 (0, 0))) ∧ Aside0 (w'.heap[gbz4]? = some (.cells #[.int .i64 xz4, .int .i64 xz3, .int .i64 xz2, (.slice none 0 0)] 27 (0, 0))) ∧ Aside0 (w'.heap[gbz2]? = some (.cells #[.int .i64 tz0, .int .i64 tz1, .int .i64 tz2, u77012003] 27 (0, 0))) ∧ Aside0 (w'.heap[gbz5]? = some (.cells #[.int .i64 tz3, .int .i64 tz4, .int .i64 tz6, u77020003] 27 (0, 0))) ∧ Aside0 (Below w.heap.size w w'))
   case atStart => exact ⟨(0), (0), (0), (0), (tz5), (tz15), (.slice Ao19 tz5.length co19), (.slice Ao74 tz15.length co74), (by rfl), H', ⟨Nat.le_refl _⟩, ⟨by exact Kd.R_mono (Kd.R_far (p := ⟨gbz5, 3, none⟩) (Kd.R_far (p := ⟨gbz5, 2, none⟩) (Kd.R_far (p := ⟨gbz5, 1, none⟩) (Kd.R_far (p := ⟨gbz5, 0, none⟩) (Kd.R_types HOz0.out BKz4.out (by decide)) (fun _ hk => hk.2) (.int .i64 tz3)) (fun _ hk => hk.2) (.int .i64 tz4)) (fun _ hk => hk.2) (.int .i64 tz6)) (fun _ hk => hk.2) (.slice Ao74 tz15.length co74)) (fun _ hk => hk.1.2)⟩, ⟨by exact Kd.R_mono (Kd.R_far (p := ⟨gbz5, 3, none⟩) (Kd.R_far (p := ⟨gbz5, 2, none⟩) (Kd.R_far (p := ⟨gbz5, 1, none⟩) (Kd.R_far (p := ⟨gbz5, 0, none⟩) (Kd.R_types HOz4.out BKz4.out (by decide)) (fun _ hk => hk.2) (.int .i64 tz3)) (fun _ hk => hk.2) (.int .i64 tz4)) (fun _ hk => hk.2) (.int .i64 tz6)) (fun _ hk => hk.2) (.slice Ao74 tz15.length co74)) (fun _ hk => hk.1.2)⟩, ⟨by refine blk_far ?_ NBz14.out _; refine blk_far ?_ NBz14.out _; refine blk_far ?_ NBz14.out _; refine blk_far ?_ NBz14.out _; exact BKz1.out⟩, ⟨by refine blk_far ?_ NBz15.out _; refine blk_far ?_ NBz15.out _; refine blk_far ?_ NBz15.out _; refine blk_far ?_ NBz15.out _; exact BKz0.out⟩, ⟨by refine blk_far ?_ NBz16.out _; refine blk_far ?_ NBz16.out _; refine blk_far ?_ NBz16.out _; refine blk_far ?_ NBz16.out _; exact BKz2.out⟩, ⟨by refine blk_far ?_ NBz17.out _; refine blk_far ?_ NBz17.out _; refine blk_far ?_ NBz17.out _; refine blk_far ?_ NBz17.out _; exact BKz3.out⟩, ⟨by refine blk_put (cs := #[.int .i64 tz3, .int .i64 tz4, .int .i64 tz6, .slice none 0 0]) ?_ 3 _ rfl; refine blk_put (cs := #[.int .i64 tz3, .int .i64 tz4, .int .i64 0, .slice none 0 0]) ?_ 2 _ rfl; refine blk_put (cs := #[.int .i64 tz3, .int .i64 0, .int .i64 0, .slice none 0 0]) ?_ 1 _ rfl; refine blk_put (cs := #[.int .i64 0, .int .i64 0, .int .i64 0, .slice none 0 0]) ?_ 0 _ rfl; exact BKz4.out⟩, ⟨by repeat (with_reducible first | exact HB.out | refine below_set ?_ GEz3.out)⟩⟩
   case round =>
    clear H'
    obtain ⟨x13_2, xz4, xz3, xz2, xz0, xz1, u77012003, u77020003, rfl, HA, HK2, HOz0, HOz1, BKz1, BKz0, BKz2, BKz3, BKz4, HB⟩ := hrel
    cases gk with
    | zero => exact absurd HA.out (by simp [spec_RedrawTiles.l0])
    | succ k2 =>
     have H := HA.out
     clear HA
     simp only [spec_RedrawTiles.l0] at H
     by_cases c75 : x13_2 < (l3.length : Int)
     ·rw [if_pos c75] at H
      have c75b0 : decide (x13_2 < (l3.length : Int)) = true := decide_eq_true c75
      clear c75
      have HC76 := mk H
      clear H
      go_upto_region 8 with (fail)
      go_cut [82] (fun v82 wc => ∃ (kq : Nat) (x82_75 : Bool), v82 = .bool x82_75 ∧ Aside0 (spec_RedrawTiles.j2 kq l3 x13_2 x82_75 a1_0 a1_1 a1_2 l1_3 tz0 tz1 tz2 xz0 tz3 tz4 tz6 xz1 = some (r1, r2, r3, r4, r5)) ∧ Aside0 (kq ≤ k2) ∧ Aside0 (Kd.R (Kd.int .i64) 3 wc w.heap.size (fun k_ => some k_ ≠ (u77020003 : Value).ownBlock) u77012003 xz0) ∧ Aside0 (Kd.R (Kd.int .i64) 3 wc w.heap.size (fun k_ => some k_ ≠ (u77012003 : Value).ownBlock) u77020003 xz1) ∧ Aside0 (wc.heap[gbz3]? = some (.cells #[.int .i64 a0_0, .int .i64 a0_1, .int .i64 a0_2, (.slice A0_3 l0_3.length c0_3)] 27 (0, 0))) ∧ Aside0 (wc.heap[gbz1]? = some (.cells #[.int .i64 a1_0, .int .i64 a1_1, .int .i64 a1_2, (.slice A1_3 l1_3.length c1_3)] 27 (0, 0))) ∧ Aside0 (wc.heap[gbz4]? = some (.cells #[.int .i64 xz4, .int .i64 xz3, .int .i64 xz2, (.slice none 0 0)] 27 (0, 0))) ∧ Aside0 (wc.heap[gbz2]? = some (.cells #[.int .i64 tz0, .int .i64 tz1, .int .i64 tz2, u77012003] 27 (0, 0))) ∧ Aside0 (wc.heap[gbz5]? = some (.cells #[.int .i64 tz3, .int .i64 tz4, .int .i64 tz6, u77020003] 27 (0, 0))) ∧ Aside0 (Below w.heap.size w wc))
      case first =>
       have H := HC76.out
       clear HC76
       by_cases c77 : 0 ≤ x13_2
       ·rw [if_pos c77] at H
        have c77b0 : decide (0 ≤ x13_2) = true := decide_eq_true c77
        clear c77
        (skip)
        replace H := Option.bind_eq_some_iff.mp H
        obtain ⟨tz11, A780, H⟩ := H
        replace H : ((spec_inRange.f (rd l3 x13_2) 0 (wrap64 (tz11 - 1))).bind fun tz14 => (if tz14 = true then (if x13_2 > 0 then (if 0 ≤ (wrap64 (x13_2 - 1)) then (if (wrap64 (x13_2 - 1)) < (l3.length : Int) then (spec_RedrawTiles.j2 k2 l3 x13_2 (decide ((rd l3 x13_2) ≤ (rd l3 (wrap64 (x13_2 - 1))))) a1_0 a1_1 a1_2 l1_3 tz0 tz1 tz2 xz0 tz3 tz4 tz6 xz1) else none) else none) else (spec_RedrawTiles.j2 k2 l3 x13_2 false a1_0 a1_1 a1_2 l1_3 tz0 tz1 tz2 xz0 tz3 tz4 tz6 xz1)) else (spec_RedrawTiles.j2 k2 l3 x13_2 true a1_0 a1_1 a1_2 l1_3 tz0 tz1 tz2 xz0 tz3 tz4 tz6 xz1))) = some (r1, r2, r3, r4, r5) := H
        have A78 := mk A780
        clear A780
        replace H := Option.bind_eq_some_iff.mp H
        obtain ⟨tz14, A790, H⟩ := H
        replace H : (if tz14 = true then (if x13_2 > 0 then (if 0 ≤ (wrap64 (x13_2 - 1)) then (if (wrap64 (x13_2 - 1)) < (l3.length : Int) then (spec_RedrawTiles.j2 k2 l3 x13_2 (decide ((rd l3 x13_2) ≤ (rd l3 (wrap64 (x13_2 - 1))))) a1_0 a1_1 a1_2 l1_3 tz0 tz1 tz2 xz0 tz3 tz4 tz6 xz1) else none) else none) else (spec_RedrawTiles.j2 k2 l3 x13_2 false a1_0 a1_1 a1_2 l1_3 tz0 tz1 tz2 xz0 tz3 tz4 tz6 xz1)) else (spec_RedrawTiles.j2 k2 l3 x13_2 true a1_0 a1_1 a1_2 l1_3 tz0 tz1 tz2 xz0 tz3 tz4 tz6 xz1)) = some (r1, r2, r3, r4, r5) := H
        have A79 := mk A790
        clear A790
        by_cases c80 : tz14 = true
        ·subst c80
         have H1 : (if x13_2 > 0 then (if 0 ≤ (wrap64 (x13_2 - 1)) then (if (wrap64 (x13_2 - 1)) < (l3.length : Int) then (spec_RedrawTiles.j2 k2 l3 x13_2 (decide ((rd l3 x13_2) ≤ (rd l3 (wrap64 (x13_2 - 1))))) a1_0 a1_1 a1_2 l1_3 tz0 tz1 tz2 xz0 tz3 tz4 tz6 xz1) else none) else none) else (spec_RedrawTiles.j2 k2 l3 x13_2 false a1_0 a1_1 a1_2 l1_3 tz0 tz1 tz2 xz0 tz3 tz4 tz6 xz1)) = some (r1, r2, r3, r4, r5) := by rw [if_pos rfl] at H; exact H
         clear H
         have H := H1
         clear H1
         by_cases c81 : x13_2 > 0
         ·rw [if_pos c81] at H
          have c81b0 : decide (0 < x13_2) = true := decide_eq_true c81
          clear c81
          obtain ⟨ji82, hji82⟩ : ∃ j_ : Int, (wrap64 (x13_2 - 1)) = j_ := ⟨_, rfl⟩
          replace H : (if 0 ≤ ji82 then (if ji82 < (l3.length : Int) then (spec_RedrawTiles.j2 k2 l3 x13_2 (decide ((rd l3 x13_2) ≤ (rd l3 ji82))) a1_0 a1_1 a1_2 l1_3 tz0 tz1 tz2 xz0 tz3 tz4 tz6 xz1) else none) else none) = some (r1, r2, r3, r4, r5) := by (rw [hji82] at H; exact H)
          have hji82w : (IntKind.i64.wrap (x13_2 - 1)) = ji82 := (i64_w _).trans hji82
          by_cases c83 : 0 ≤ (ji82)
          ·rw [if_pos c83] at H
           have c83b0 : decide (0 ≤ ji82) = true := decide_eq_true c83
           clear c83
           by_cases c84 : ji82 < (l3.length : Int)
           ·rw [if_pos c84] at H
            have c84b0 : decide (ji82 < (l3.length : Int)) = true := decide_eq_true c84
            clear c84
            have H' := mk H
            clear H
            try go_wp2
            replace HOz0 := mk (Kd.R_drew HOz0.out)
            replace HOz1 := mk (Kd.R_drew HOz1.out)
            replace BKz1 := mk (blk_drew BKz1.out)
            replace BKz0 := mk (blk_drew BKz0.out)
            replace BKz2 := mk (blk_drew BKz2.out)
            replace BKz3 := mk (blk_drew BKz3.out)
            replace BKz4 := mk (blk_drew BKz4.out)
            replace HB := mk (below_drew1 HB.out)
            have p77020 : 0 ≤ (x13_2 : Int) := of_decide_eq_true (by (with_reducible assumption))
            have q77020 : x13_2 < (l3.length : Int) := of_decide_eq_true (by (with_reducible assumption))
            obtain ⟨ad77020, e77020, hx77020_0⟩ := Kd.at_int HR3.out x13_2 p77020 q77020
            have hw77020_0 := hx77020_0
            cases e77020
            replace hx77020_0 := (HB.out.cell (World.block_lt_of_cell? w _ hx77020_0)).trans hx77020_0
            replace p77020 := eq_true p77020
            replace q77020 := eq_true q77020
            have p77023 : 0 ≤ (x13_2 : Int) := of_decide_eq_true (by (with_reducible assumption))
            have q77023 : x13_2 < (l3.length : Int) := of_decide_eq_true (by (with_reducible assumption))
            obtain ⟨ad77023, e77023, hx77023_0⟩ := Kd.at_int HR3.out x13_2 p77023 q77023
            have hw77023_0 := hx77023_0
            obtain rfl : ad77020 = ad77023 := (by injection e77023)
            replace hx77023_0 := (HB.out.cell (World.block_lt_of_cell? w _ hx77023_0)).trans hx77023_0
            replace p77023 := eq_true p77023
            replace q77023 := eq_true q77023
            have p77024 : 0 ≤ (ji82 : Int) := of_decide_eq_true (by (with_reducible assumption))
            have q77024 : ji82 < (l3.length : Int) := of_decide_eq_true (by (with_reducible assumption))
            obtain ⟨ad77024, e77024, hx77024_0⟩ := Kd.at_int HR3.out ji82 p77024 q77024
            have hw77024_0 := hx77024_0
            obtain rfl : ad77020 = ad77024 := (by injection e77024)
            replace hx77024_0 := (HB.out.cell (World.block_lt_of_cell? w _ hx77024_0)).trans hx77024_0
            replace p77024 := eq_true p77024
            replace q77024 := eq_true q77024
            refine start_ (n := 25) (S := fun w' => w'.cell? ⟨gbz1, 0, none⟩ = some (.int .i64 a1_0) ∧ w'.cell? ⟨gbz1, 1, none⟩ = some (.int .i64 a1_1) ∧ w'.cell? ⟨gbz1, 2, none⟩ = some (.int .i64 a1_2) ∧ w'.cell? ⟨gbz1, 3, none⟩ = some (.slice A1_3 l1_3.length c1_3) ∧ w'.cell? (ad77020.add (x13_2).toNat) = some (.int .i64 (rd l3 x13_2)) ∧ w'.cell? (ad77020.add (x13_2).toNat) = some (.int .i64 (rd l3 x13_2)) ∧ w'.cell? (ad77020.add (ji82).toNat) = some (.int .i64 (rd l3 ji82))) (ds := []) #[false, false, false, false, false, false, false, false, false, false, false, false, false, false, false, false, false, false, false, false, false, false, false, false, false] (by kernel_rfl) rfl rfl ⟨blk_cell BKz0.out 0, blk_cell BKz0.out 1, blk_cell BKz0.out 2, blk_cell BKz0.out 3, ((HB.out.cell (World.block_lt_of_cell? w _ hw77020_0)).trans hw77020_0), ((HB.out.cell (World.block_lt_of_cell? w _ hw77023_0)).trans hw77023_0), ((HB.out.cell (World.block_lt_of_cell? w _ hw77024_0)).trans hw77024_0)⟩ (fun hHeld => ?_); refine with_tabW spec_RedrawTiles.tab8 spec_RedrawTiles.bits8 (fun HT_ HW_ => ?_)
            generalize wr.drew = w85 at HOz0 HOz1 BKz1 BKz0 BKz2 BKz3 BKz4 HB hx77020_0 hx77023_0 hx77024_0 hHeld ⊢
            refine pure_ (i := 0) (N := some 58) (v := ?_) (a' := ?_) #[true, false, false, false, false, false, false, false, false, false, false, false, false, false, false, false, false, false, false, false, false, false, false, false, false] rfl rfl (any_of HT_.out (by kernel_rfl)) (fun _ _ _ h => h) (Or.inl ⟨by rfl, ?_⟩) ?_ ?_
            rotate_left
            ·intro w'
             go_simp
             with_reducible rfl
            rotate_left
            ·simp only [Act.put, List.setIfInBounds_toArray, List.set_cons_zero, List.set_cons_succ, i64_w, i32_w]
             rfl
            refine pure_ (i := 1) (N := some 59) (v := ?_) (a' := ?_) #[true, true, false, false, false, false, false, false, false, false, false, false, false, false, false, false, false, false, false, false, false, false, false, false, false] rfl rfl (any_of HT_.out (by kernel_rfl)) (fun _ _ _ h => h) (Or.inl ⟨by rfl, ?_⟩) ?_ ?_
            rotate_left
            ·intro w'
             go_simp
             with_reducible rfl
            rotate_left
            ·simp only [Act.put, List.setIfInBounds_toArray, List.set_cons_zero, List.set_cons_succ, i64_w, i32_w]
             rfl
            refine pure_ (i := 2) (N := some 60) (v := ?_) (a' := ?_) #[true, true, true, false, false, false, false, false, false, false, false, false, false, false, false, false, false, false, false, false, false, false, false, false, false] rfl rfl (any_of HT_.out (by kernel_rfl)) (fun _ _ _ h => h) (Or.inl ⟨by rfl, ?_⟩) ?_ ?_
            rotate_left
            ·intro w'
             go_simp
             with_reducible rfl
            rotate_left
            ·simp only [Act.put, List.setIfInBounds_toArray, List.set_cons_zero, List.set_cons_succ, i64_w, i32_w]
             rfl
            refine take_ (i := 3) (N := some 61) (v := ?_) (a' := ?_) #[true, true, true, true, false, false, false, false, false, false, false, false, false, false, false, false, false, false, false, false, false, false, false, false, false] rfl rfl (take_ofW HT_.out HW_.out (by kernel_rfl)) (fun _ _ _ h => h) (Or.inl ⟨by rfl, ?_⟩) hHeld ?_ ?_
            rotate_left
            ·rintro w' ⟨s0, s1, s2, s3, s4, s5, s6⟩
             go_simp
             with_reducible rfl
            rotate_left
            ·simp only [Act.put, List.setIfInBounds_toArray, List.set_cons_zero, List.set_cons_succ, i64_w, i32_w]
             rfl
            refine take_ (i := 4) (N := some 62) (v := ?_) (a' := ?_) #[true, true, true, true, true, false, false, false, false, false, false, false, false, false, false, false, false, false, false, false, false, false, false, false, false] rfl rfl (take_ofW HT_.out HW_.out (by kernel_rfl)) (fun _ _ _ h => h) (Or.inl ⟨by rfl, ?_⟩) hHeld ?_ ?_
            rotate_left
            ·rintro w' ⟨s0, s1, s2, s3, s4, s5, s6⟩
             go_simp
             with_reducible rfl
            rotate_left
            ·simp only [Act.put, List.setIfInBounds_toArray, List.set_cons_zero, List.set_cons_succ, i64_w, i32_w]
             rfl
            refine one_ (i := 5) (N := some 63) #[true, true, true, true, true, true, false, false, false, false, false, false, false, false, false, false, false, false, false, false, false, false, false, false, false] rfl rfl (one_of HT_.out (by kernel_rfl)) (by decide) (fun K hK => ?_)
            refine goes_ Try.func90 (by kernel_rfl) rfl #[.agg #[.int .i64 a1_0, .int .i64 a1_1, .int .i64 a1_2, .slice A1_3 l1_3.length c1_3]] (by rfl) rfl rfl (by (try simp only [List.map_toArray, List.map_cons, List.map_nil]); rfl) ?_
            with_reducible refine (spec_tileCount.calls a1_0 a1_1 a1_2 _ _ l1_3 tz11 _ ?side1 ?side2 A78.out).mono ?_
            (case side1 => repeat (exact (Kd.C_below HR1_3.out HB.out)))
            (case side2 => exact HC1_3.out)
            rintro e w86 ⟨rfl, hb⟩
            refine ⟨_, rfl, ?_⟩
            replace HOz0 := mk (Kd.R_below HOz0.out hb)
            replace HOz1 := mk (Kd.R_below HOz1.out hb)
            replace BKz1 := mk (blk_below BKz1.out hb)
            replace BKz0 := mk (blk_below BKz0.out hb)
            replace BKz2 := mk (blk_below BKz2.out hb)
            replace BKz3 := mk (blk_below BKz3.out hb)
            replace BKz4 := mk (blk_below BKz4.out hb)
            replace HB := mk (below_step HB.out hb)
            (try clear hb)
            refine hK.out _ _ ⟨blk_cell BKz0.out 0, blk_cell BKz0.out 1, blk_cell BKz0.out 2, blk_cell BKz0.out 3, ((HB.out.cell (World.block_lt_of_cell? w _ hw77020_0)).trans hw77020_0), ((HB.out.cell (World.block_lt_of_cell? w _ hw77023_0)).trans hw77023_0), ((HB.out.cell (World.block_lt_of_cell? w _ hw77024_0)).trans hw77024_0)⟩ (fun hHeld => ?_)
            clear hK K
            refine norm_ (a' := ?_) ?_ ?_
            rotate_left
            ·show Act.put _ (some 63) _ = _
             simp only [Act.put, List.setIfInBounds_toArray, List.set_cons_zero, List.set_cons_succ, i64_w, i32_w]
             rfl
            refine pure_ (i := 6) (N := some 64) (v := ?_) (a' := ?_) #[true, true, true, true, true, true, true, false, false, false, false, false, false, false, false, false, false, false, false, false, false, false, false, false, false] rfl rfl (any_of HT_.out (by kernel_rfl)) (fun _ _ _ h => h) (Or.inl ⟨by rfl, ?_⟩) ?_ ?_
            rotate_left
            ·intro w'
             go_simp
             with_reducible rfl
            rotate_left
            ·simp only [Act.put, List.setIfInBounds_toArray, List.set_cons_zero, List.set_cons_succ, i64_w, i32_w]
             rfl
            refine one_ (i := 7) (N := some 65) #[true, true, true, true, true, true, true, true, false, false, false, false, false, false, false, false, false, false, false, false, false, false, false, false, false] rfl rfl (one_of HT_.out (by kernel_rfl)) (by decide) (fun K hK => ?_)
            refine goes_ Try.func110 (by kernel_rfl) rfl #[.int .i64 (rd l3 x13_2), .int .i64 0, .int .i64 (wrap64 (tz11 - 1))] (by rfl) rfl rfl (by (try simp only [List.map_toArray, List.map_cons, List.map_nil]); rfl) ?_
            with_reducible refine (spec_inRange.calls (rd l3 x13_2) 0 (wrap64 (tz11 - 1)) true _ A79.out).mono ?_
            rintro e w' ⟨rfl, ⟨nd, rfl⟩⟩
            refine ⟨_, rfl, ?_⟩
            refine hK.out _ _ ⟨blk_cell BKz0.out 0, blk_cell BKz0.out 1, blk_cell BKz0.out 2, blk_cell BKz0.out 3, ((HB.out.cell (World.block_lt_of_cell? w _ hw77020_0)).trans hw77020_0), ((HB.out.cell (World.block_lt_of_cell? w _ hw77023_0)).trans hw77023_0), ((HB.out.cell (World.block_lt_of_cell? w _ hw77024_0)).trans hw77024_0)⟩ (fun hHeld => ?_)
            clear hK K
            refine norm_ (a' := ?_) ?_ ?_
            rotate_left
            ·show Act.put _ (some 65) _ = _
             simp only [Act.put, List.setIfInBounds_toArray, List.set_cons_zero, List.set_cons_succ, i64_w, i32_w]
             rfl
            refine pure_ (i := 8) (N := some 66) (v := ?_) (a' := ?_) #[true, true, true, true, true, true, true, true, true, false, false, false, false, false, false, false, false, false, false, false, false, false, false, false, false] rfl rfl (any_of HT_.out (by kernel_rfl)) (fun _ _ _ h => h) (Or.inl ⟨by rfl, ?_⟩) ?_ ?_
            rotate_left
            ·intro w'
             go_simp
             with_reducible rfl
            rotate_left
            ·simp only [Act.put, List.setIfInBounds_toArray, List.set_cons_zero, List.set_cons_succ, i64_w, i32_w]
             rfl
            refine pure_ (i := 9) (N := some 67) (v := ?_) (a' := ?_) #[true, true, true, true, true, true, true, true, true, true, false, false, false, false, false, false, false, false, false, false, false, false, false, false, false] rfl rfl (any_of HT_.out (by kernel_rfl)) (fun _ _ _ h => h) (Or.inl ⟨by rfl, ?_⟩) ?_ ?_
            rotate_left
            ·intro w'
             go_simp
             with_reducible rfl
            rotate_left
            ·simp only [Act.put, List.setIfInBounds_toArray, List.set_cons_zero, List.set_cons_succ, i64_w, i32_w]
             rfl
            refine pure_ (i := 10) (N := some 68) (v := ?_) (a' := ?_) #[true, true, true, true, true, true, true, true, true, true, true, false, false, false, false, false, false, false, false, false, false, false, false, false, false] rfl rfl (any_of HT_.out (by kernel_rfl)) (fun _ _ _ h => h) (Or.inl ⟨by rfl, ?_⟩) ?_ ?_
            rotate_left
            ·intro w'
             go_simp
             with_reducible rfl
            rotate_left
            ·simp only [Act.put, List.setIfInBounds_toArray, List.set_cons_zero, List.set_cons_succ, i64_w, i32_w]
             rfl
            refine pure_ (i := 11) (N := some 69) (v := ?_) (a' := ?_) #[true, true, true, true, true, true, true, true, true, true, true, true, false, false, false, false, false, false, false, false, false, false, false, false, false] rfl rfl (any_of HT_.out (by kernel_rfl)) (fun _ _ _ h => h) (Or.inl ⟨by rfl, ?_⟩) ?_ ?_
            rotate_left
            ·intro w'
             go_simp
             with_reducible rfl
            rotate_left
            ·simp only [Act.put, List.setIfInBounds_toArray, List.set_cons_zero, List.set_cons_succ, i64_w, i32_w]
             rfl
            refine pure_ (i := 12) (N := some 70) (v := ?_) (a' := ?_) #[true, true, true, true, true, true, true, true, true, true, true, true, true, false, false, false, false, false, false, false, false, false, false, false, false] rfl rfl (any_of HT_.out (by kernel_rfl)) (fun _ _ _ h => h) (Or.inl ⟨by rfl, ?_⟩) ?_ ?_
            rotate_left
            ·intro w'
             go_simp
             with_reducible rfl
            rotate_left
            ·simp only [Act.put, List.setIfInBounds_toArray, List.set_cons_zero, List.set_cons_succ, i64_w, i32_w]
             rfl
            refine pure_ (i := 13) (N := some 71) (v := ?_) (a' := ?_) #[true, true, true, true, true, true, true, true, true, true, true, true, true, true, false, false, false, false, false, false, false, false, false, false, false] rfl rfl (any_of HT_.out (by kernel_rfl)) (fun _ _ _ h => h) (Or.inl ⟨by rfl, ?_⟩) ?_ ?_
            rotate_left
            ·intro w'
             go_simp
             with_reducible rfl
            rotate_left
            ·simp only [Act.put, List.setIfInBounds_toArray, List.set_cons_zero, List.set_cons_succ, i64_w, i32_w]
             rfl
            refine pure_ (i := 14) (N := some 72) (v := ?_) (a' := ?_) #[true, true, true, true, true, true, true, true, true, true, true, true, true, true, true, false, false, false, false, false, false, false, false, false, false] rfl rfl (any_of HT_.out (by kernel_rfl)) (fun _ _ _ h => h) (Or.inl ⟨by rfl, ?_⟩) ?_ ?_
            rotate_left
            ·intro w'
             go_simp
             with_reducible rfl
            rotate_left
            ·simp only [Act.put, List.setIfInBounds_toArray, List.set_cons_zero, List.set_cons_succ, i64_w, i32_w]
             rfl
            refine pure_ (i := 15) (N := some 73) (v := ?_) (a' := ?_) #[true, true, true, true, true, true, true, true, true, true, true, true, true, true, true, true, false, false, false, false, false, false, false, false, false] rfl rfl (any_of HT_.out (by kernel_rfl)) (fun _ _ _ h => h) (Or.inl ⟨by rfl, ?_⟩) ?_ ?_
            rotate_left
            ·intro w'
             go_simp
             with_reducible rfl
            rotate_left
            ·simp only [Act.put, List.setIfInBounds_toArray, List.set_cons_zero, List.set_cons_succ, i64_w, i32_w]
             rfl
            refine pure_ (i := 17) (N := some 75) (v := ?_) (a' := ?_) #[true, true, true, true, true, true, true, true, true, true, true, true, true, true, true, true, false, true, false, false, false, false, false, false, false] rfl rfl (any_of HT_.out (by kernel_rfl)) (fun _ _ _ h => h) (Or.inl ⟨by rfl, ?_⟩) ?_ ?_
            rotate_left
            ·intro w'
             go_simp
             with_reducible rfl
            rotate_left
            ·simp only [Act.put, List.setIfInBounds_toArray, List.set_cons_zero, List.set_cons_succ, i64_w, i32_w]
             rfl
            refine pure_ (i := 18) (N := some 76) (v := ?_) (a' := ?_) #[true, true, true, true, true, true, true, true, true, true, true, true, true, true, true, true, false, true, true, false, false, false, false, false, false] rfl rfl (any_of HT_.out (by kernel_rfl)) (fun _ _ _ h => h) (Or.inl ⟨by rfl, ?_⟩) ?_ ?_
            rotate_left
            ·intro w'
             go_simp
             with_reducible rfl
            rotate_left
            ·simp only [Act.put, List.setIfInBounds_toArray, List.set_cons_zero, List.set_cons_succ, i64_w, i32_w]
             rfl
            refine pure_ (i := 19) (N := some 77) (v := ?_) (a' := ?_) #[true, true, true, true, true, true, true, true, true, true, true, true, true, true, true, true, false, true, true, true, false, false, false, false, false] rfl rfl (any_of HT_.out (by kernel_rfl)) (fun _ _ _ h => h) (Or.inl ⟨by rfl, ?_⟩) ?_ ?_
            rotate_left
            ·intro w'
             go_simp
             with_reducible rfl
            rotate_left
            ·simp only [Act.put, List.setIfInBounds_toArray, List.set_cons_zero, List.set_cons_succ, i64_w, i32_w]
             rfl
            refine pure_ (i := 20) (N := some 78) (v := ?_) (a' := ?_) #[true, true, true, true, true, true, true, true, true, true, true, true, true, true, true, true, false, true, true, true, true, false, false, false, false] rfl rfl (any_of HT_.out (by kernel_rfl)) (fun _ _ _ h => h) (Or.inl ⟨by rfl, ?_⟩) ?_ ?_
            rotate_left
            ·intro w'
             go_simp
             with_reducible rfl
            rotate_left
            ·simp only [Act.put, List.setIfInBounds_toArray, List.set_cons_zero, List.set_cons_succ, i64_w, i32_w]
             rfl
            refine take_ (i := 16) (N := some 74) (v := ?_) (a' := ?_) #[true, true, true, true, true, true, true, true, true, true, true, true, true, true, true, true, true, true, true, true, true, false, false, false, false] rfl rfl (take_ofW HT_.out HW_.out (by kernel_rfl)) (fun _ _ _ h => h) (Or.inl ⟨by rfl, ?_⟩) hHeld ?_ ?_
            rotate_left
            ·rintro w' ⟨s0, s1, s2, s3, s4, s5, s6⟩
             go_simp
             with_reducible rfl
            rotate_left
            ·simp only [Act.put, List.setIfInBounds_toArray, List.set_cons_zero, List.set_cons_succ, i64_w, i32_w]
             rfl
            refine take_ (i := 21) (N := some 79) (v := ?_) (a' := ?_) #[true, true, true, true, true, true, true, true, true, true, true, true, true, true, true, true, true, true, true, true, true, true, false, false, false] rfl rfl (take_ofW HT_.out HW_.out (by kernel_rfl)) (fun _ _ _ h => h) (Or.inl ⟨by rfl, ?_⟩) hHeld ?_ ?_
            rotate_left
            ·rintro w' ⟨s0, s1, s2, s3, s4, s5, s6⟩
             go_simp
             with_reducible rfl
            rotate_left
            ·simp only [Act.put, List.setIfInBounds_toArray, List.set_cons_zero, List.set_cons_succ, i64_w, i32_w]
             rfl
            refine pure_ (i := 22) (N := some 80) (v := ?_) (a' := ?_) #[true, true, true, true, true, true, true, true, true, true, true, true, true, true, true, true, true, true, true, true, true, true, true, false, false] rfl rfl (any_of HT_.out (by kernel_rfl)) (fun _ _ _ h => h) (Or.inl ⟨by rfl, ?_⟩) ?_ ?_
            rotate_left
            ·intro w'
             go_simp
             with_reducible rfl
            rotate_left
            ·simp only [Act.put, List.setIfInBounds_toArray, List.set_cons_zero, List.set_cons_succ, i64_w, i32_w]
             rfl
            refine pure_ (i := 23) (N := some 81) (v := ?_) (a' := ?_) #[true, true, true, true, true, true, true, true, true, true, true, true, true, true, true, true, true, true, true, true, true, true, true, true, false] rfl rfl (any_of HT_.out (by kernel_rfl)) (fun _ _ _ h => h) (Or.inl ⟨by rfl, ?_⟩) ?_ ?_
            rotate_left
            ·intro w'
             go_simp
             with_reducible rfl
            rotate_left
            ·simp only [Act.put, List.setIfInBounds_toArray, List.set_cons_zero, List.set_cons_succ, i64_w, i32_w]
             rfl
            refine pure_ (i := 24) (N := some 82) (v := ?_) (a' := ?_) #[true, true, true, true, true, true, true, true, true, true, true, true, true, true, true, true, true, true, true, true, true, true, true, true, true] rfl rfl (any_of HT_.out (by kernel_rfl)) (fun _ _ _ h => h) (Or.inl ⟨by rfl, ?_⟩) ?_ ?_
            rotate_left
            ·intro w'
             go_simp
             with_reducible rfl
            rotate_left
            ·simp only [Act.put, List.setIfInBounds_toArray, List.set_cons_zero, List.set_cons_succ, i64_w, i32_w]
             rfl
            refine done_ (done_of HT_.out (by kernel_rfl)) ?_
            try go_wp2
            go_meet
            case rel => exact ⟨_, (decide ((rd l3 x13_2) ≤ (rd l3 ji82))), (by rfl), H', ⟨by have := HJ5.out; have := HK2.out; omega⟩, ⟨by (with_reducible repeat (apply Kd.R_drewN)); exact HOz0.out⟩, ⟨by (with_reducible repeat (apply Kd.R_drewN)); exact HOz1.out⟩, ⟨by (with_reducible repeat (refine blk_drewN ?_ _)); exact BKz1.out⟩, ⟨by (with_reducible repeat (refine blk_drewN ?_ _)); exact BKz0.out⟩, ⟨by (with_reducible repeat (refine blk_drewN ?_ _)); exact BKz2.out⟩, ⟨by (with_reducible repeat (refine blk_drewN ?_ _)); exact BKz3.out⟩, ⟨by (with_reducible repeat (refine blk_drewN ?_ _)); exact BKz4.out⟩, ⟨by repeat (with_reducible first | exact HB.out | apply pw_below_drewN)⟩⟩
           rw [if_neg c84] at H
           exact absurd H (by simp)
          rw [if_neg c83] at H
          exact absurd H (by simp)
         rw [if_neg c81] at H
         have c81b0 : decide (0 < x13_2) = false := decide_eq_false c81
         clear c81
         have H' := mk H
         clear H
         try go_wp2
         replace HOz0 := mk (Kd.R_drew HOz0.out)
         replace HOz1 := mk (Kd.R_drew HOz1.out)
         replace BKz1 := mk (blk_drew BKz1.out)
         replace BKz0 := mk (blk_drew BKz0.out)
         replace BKz2 := mk (blk_drew BKz2.out)
         replace BKz3 := mk (blk_drew BKz3.out)
         replace BKz4 := mk (blk_drew BKz4.out)
         replace HB := mk (below_drew1 HB.out)
         have p77020 : 0 ≤ (x13_2 : Int) := of_decide_eq_true (by (with_reducible assumption))
         have q77020 : x13_2 < (l3.length : Int) := of_decide_eq_true (by (with_reducible assumption))
         obtain ⟨ad77020, e77020, hx77020_0⟩ := Kd.at_int HR3.out x13_2 p77020 q77020
         have hw77020_0 := hx77020_0
         cases e77020
         replace hx77020_0 := (HB.out.cell (World.block_lt_of_cell? w _ hx77020_0)).trans hx77020_0
         replace p77020 := eq_true p77020
         replace q77020 := eq_true q77020
         refine start_ (n := 25) (S := fun w' => w'.cell? ⟨gbz1, 0, none⟩ = some (.int .i64 a1_0) ∧ w'.cell? ⟨gbz1, 1, none⟩ = some (.int .i64 a1_1) ∧ w'.cell? ⟨gbz1, 2, none⟩ = some (.int .i64 a1_2) ∧ w'.cell? ⟨gbz1, 3, none⟩ = some (.slice A1_3 l1_3.length c1_3) ∧ w'.cell? (ad77020.add (x13_2).toNat) = some (.int .i64 (rd l3 x13_2))) (ds := []) #[false, false, false, false, false, false, false, false, false, false, false, false, false, false, false, false, false, false, false, false, false, false, false, false, false] (by kernel_rfl) rfl rfl ⟨blk_cell BKz0.out 0, blk_cell BKz0.out 1, blk_cell BKz0.out 2, blk_cell BKz0.out 3, ((HB.out.cell (World.block_lt_of_cell? w _ hw77020_0)).trans hw77020_0)⟩ (fun hHeld => ?_); refine with_tabW spec_RedrawTiles.tab8 spec_RedrawTiles.bits8 (fun HT_ HW_ => ?_)
         generalize wr.drew = w87 at HOz0 HOz1 BKz1 BKz0 BKz2 BKz3 BKz4 HB hx77020_0 hHeld ⊢
         refine pure_ (i := 0) (N := some 58) (v := ?_) (a' := ?_) #[true, false, false, false, false, false, false, false, false, false, false, false, false, false, false, false, false, false, false, false, false, false, false, false, false] rfl rfl (any_of HT_.out (by kernel_rfl)) (fun _ _ _ h => h) (Or.inl ⟨by rfl, ?_⟩) ?_ ?_
         rotate_left
         ·intro w'
          go_simp
          with_reducible rfl
         rotate_left
         ·simp only [Act.put, List.setIfInBounds_toArray, List.set_cons_zero, List.set_cons_succ, i64_w, i32_w]
          rfl
         refine pure_ (i := 1) (N := some 59) (v := ?_) (a' := ?_) #[true, true, false, false, false, false, false, false, false, false, false, false, false, false, false, false, false, false, false, false, false, false, false, false, false] rfl rfl (any_of HT_.out (by kernel_rfl)) (fun _ _ _ h => h) (Or.inl ⟨by rfl, ?_⟩) ?_ ?_
         rotate_left
         ·intro w'
          go_simp
          with_reducible rfl
         rotate_left
         ·simp only [Act.put, List.setIfInBounds_toArray, List.set_cons_zero, List.set_cons_succ, i64_w, i32_w]
          rfl
         refine pure_ (i := 2) (N := some 60) (v := ?_) (a' := ?_) #[true, true, true, false, false, false, false, false, false, false, false, false, false, false, false, false, false, false, false, false, false, false, false, false, false] rfl rfl (any_of HT_.out (by kernel_rfl)) (fun _ _ _ h => h) (Or.inl ⟨by rfl, ?_⟩) ?_ ?_
         rotate_left
         ·intro w'
          go_simp
          with_reducible rfl
         rotate_left
         ·simp only [Act.put, List.setIfInBounds_toArray, List.set_cons_zero, List.set_cons_succ, i64_w, i32_w]
          rfl
         refine take_ (i := 3) (N := some 61) (v := ?_) (a' := ?_) #[true, true, true, true, false, false, false, false, false, false, false, false, false, false, false, false, false, false, false, false, false, false, false, false, false] rfl rfl (take_ofW HT_.out HW_.out (by kernel_rfl)) (fun _ _ _ h => h) (Or.inl ⟨by rfl, ?_⟩) hHeld ?_ ?_
         rotate_left
         ·rintro w' ⟨s0, s1, s2, s3, s4⟩
          go_simp
          with_reducible rfl
         rotate_left
         ·simp only [Act.put, List.setIfInBounds_toArray, List.set_cons_zero, List.set_cons_succ, i64_w, i32_w]
          rfl
         refine take_ (i := 4) (N := some 62) (v := ?_) (a' := ?_) #[true, true, true, true, true, false, false, false, false, false, false, false, false, false, false, false, false, false, false, false, false, false, false, false, false] rfl rfl (take_ofW HT_.out HW_.out (by kernel_rfl)) (fun _ _ _ h => h) (Or.inl ⟨by rfl, ?_⟩) hHeld ?_ ?_
         rotate_left
         ·rintro w' ⟨s0, s1, s2, s3, s4⟩
          go_simp
          with_reducible rfl
         rotate_left
         ·simp only [Act.put, List.setIfInBounds_toArray, List.set_cons_zero, List.set_cons_succ, i64_w, i32_w]
          rfl
         refine one_ (i := 5) (N := some 63) #[true, true, true, true, true, true, false, false, false, false, false, false, false, false, false, false, false, false, false, false, false, false, false, false, false] rfl rfl (one_of HT_.out (by kernel_rfl)) (by decide) (fun K hK => ?_)
         refine goes_ Try.func90 (by kernel_rfl) rfl #[.agg #[.int .i64 a1_0, .int .i64 a1_1, .int .i64 a1_2, .slice A1_3 l1_3.length c1_3]] (by rfl) rfl rfl (by (try simp only [List.map_toArray, List.map_cons, List.map_nil]); rfl) ?_
         with_reducible refine (spec_tileCount.calls a1_0 a1_1 a1_2 _ _ l1_3 tz11 _ ?side1 ?side2 A78.out).mono ?_
         (case side1 => repeat (exact (Kd.C_below HR1_3.out HB.out)))
         (case side2 => exact HC1_3.out)
         rintro e w88 ⟨rfl, hb⟩
         refine ⟨_, rfl, ?_⟩
         replace HOz0 := mk (Kd.R_below HOz0.out hb)
         replace HOz1 := mk (Kd.R_below HOz1.out hb)
         replace BKz1 := mk (blk_below BKz1.out hb)
         replace BKz0 := mk (blk_below BKz0.out hb)
         replace BKz2 := mk (blk_below BKz2.out hb)
         replace BKz3 := mk (blk_below BKz3.out hb)
         replace BKz4 := mk (blk_below BKz4.out hb)
         replace HB := mk (below_step HB.out hb)
         (try clear hb)
         refine hK.out _ _ ⟨blk_cell BKz0.out 0, blk_cell BKz0.out 1, blk_cell BKz0.out 2, blk_cell BKz0.out 3, ((HB.out.cell (World.block_lt_of_cell? w _ hw77020_0)).trans hw77020_0)⟩ (fun hHeld => ?_)
         clear hK K
         refine norm_ (a' := ?_) ?_ ?_
         rotate_left
         ·show Act.put _ (some 63) _ = _
          simp only [Act.put, List.setIfInBounds_toArray, List.set_cons_zero, List.set_cons_succ, i64_w, i32_w]
          rfl
         refine pure_ (i := 6) (N := some 64) (v := ?_) (a' := ?_) #[true, true, true, true, true, true, true, false, false, false, false, false, false, false, false, false, false, false, false, false, false, false, false, false, false] rfl rfl (any_of HT_.out (by kernel_rfl)) (fun _ _ _ h => h) (Or.inl ⟨by rfl, ?_⟩) ?_ ?_
         rotate_left
         ·intro w'
          go_simp
          with_reducible rfl
         rotate_left
         ·simp only [Act.put, List.setIfInBounds_toArray, List.set_cons_zero, List.set_cons_succ, i64_w, i32_w]
          rfl
         refine one_ (i := 7) (N := some 65) #[true, true, true, true, true, true, true, true, false, false, false, false, false, false, false, false, false, false, false, false, false, false, false, false, false] rfl rfl (one_of HT_.out (by kernel_rfl)) (by decide) (fun K hK => ?_)
         refine goes_ Try.func110 (by kernel_rfl) rfl #[.int .i64 (rd l3 x13_2), .int .i64 0, .int .i64 (wrap64 (tz11 - 1))] (by rfl) rfl rfl (by (try simp only [List.map_toArray, List.map_cons, List.map_nil]); rfl) ?_
         with_reducible refine (spec_inRange.calls (rd l3 x13_2) 0 (wrap64 (tz11 - 1)) true _ A79.out).mono ?_
         rintro e w' ⟨rfl, ⟨nd, rfl⟩⟩
         refine ⟨_, rfl, ?_⟩
         refine hK.out _ _ ⟨blk_cell BKz0.out 0, blk_cell BKz0.out 1, blk_cell BKz0.out 2, blk_cell BKz0.out 3, ((HB.out.cell (World.block_lt_of_cell? w _ hw77020_0)).trans hw77020_0)⟩ (fun hHeld => ?_)
         clear hK K
         refine norm_ (a' := ?_) ?_ ?_
         rotate_left
         ·show Act.put _ (some 65) _ = _
          simp only [Act.put, List.setIfInBounds_toArray, List.set_cons_zero, List.set_cons_succ, i64_w, i32_w]
          rfl
         refine pure_ (i := 8) (N := some 66) (v := ?_) (a' := ?_) #[true, true, true, true, true, true, true, true, true, false, false, false, false, false, false, false, false, false, false, false, false, false, false, false, false] rfl rfl (any_of HT_.out (by kernel_rfl)) (fun _ _ _ h => h) (Or.inl ⟨by rfl, ?_⟩) ?_ ?_
         rotate_left
         ·intro w'
          go_simp
          with_reducible rfl
         rotate_left
         ·simp only [Act.put, List.setIfInBounds_toArray, List.set_cons_zero, List.set_cons_succ, i64_w, i32_w]
          rfl
         refine pure_ (i := 9) (N := some 67) (v := ?_) (a' := ?_) #[true, true, true, true, true, true, true, true, true, true, false, false, false, false, false, false, false, false, false, false, false, false, false, false, false] rfl rfl (any_of HT_.out (by kernel_rfl)) (fun _ _ _ h => h) (Or.inl ⟨by rfl, ?_⟩) ?_ ?_
         rotate_left
         ·intro w'
          go_simp
          with_reducible rfl
         rotate_left
         ·simp only [Act.put, List.setIfInBounds_toArray, List.set_cons_zero, List.set_cons_succ, i64_w, i32_w]
          rfl
         refine pure_ (i := 10) (N := some 68) (v := ?_) (a' := ?_) #[true, true, true, true, true, true, true, true, true, true, true, false, false, false, false, false, false, false, false, false, false, false, false, false, false] rfl rfl (any_of HT_.out (by kernel_rfl)) (fun _ _ _ h => h) (Or.inl ⟨by rfl, ?_⟩) ?_ ?_
         rotate_left
         ·intro w'
          go_simp
          with_reducible rfl
         rotate_left
         ·simp only [Act.put, List.setIfInBounds_toArray, List.set_cons_zero, List.set_cons_succ, i64_w, i32_w]
          rfl
         refine pure_ (i := 11) (N := some 69) (v := ?_) (a' := ?_) #[true, true, true, true, true, true, true, true, true, true, true, true, false, false, false, false, false, false, false, false, false, false, false, false, false] rfl rfl (any_of HT_.out (by kernel_rfl)) (fun _ _ _ h => h) (Or.inl ⟨by rfl, ?_⟩) ?_ ?_
         rotate_left
         ·intro w'
          go_simp
          with_reducible rfl
         rotate_left
         ·simp only [Act.put, List.setIfInBounds_toArray, List.set_cons_zero, List.set_cons_succ, i64_w, i32_w]
          rfl
         refine pure_ (i := 12) (N := some 70) (v := ?_) (a' := ?_) #[true, true, true, true, true, true, true, true, true, true, true, true, true, false, false, false, false, false, false, false, false, false, false, false, false] rfl rfl (any_of HT_.out (by kernel_rfl)) (fun _ _ _ h => h) (Or.inl ⟨by rfl, ?_⟩) ?_ ?_
         rotate_left
         ·intro w'
          go_simp
          with_reducible rfl
         rotate_left
         ·simp only [Act.put, List.setIfInBounds_toArray, List.set_cons_zero, List.set_cons_succ, i64_w, i32_w]
          rfl
         refine pure_ (i := 13) (N := some 71) (v := undef) (a' := ?_) #[true, true, true, true, true, true, true, true, true, true, true, true, true, true, false, false, false, false, false, false, false, false, false, false, false] rfl rfl (any_of HT_.out (by kernel_rfl)) (fun _ _ _ h => h) (Or.inr ⟨by rfl, rfl⟩) ?_ ?_
         rotate_left
         ·simp only [Act.put, List.setIfInBounds_toArray, List.set_cons_zero, List.set_cons_succ, i64_w, i32_w]
          rfl
         refine pure_ (i := 14) (N := some 72) (v := undef) (a' := ?_) #[true, true, true, true, true, true, true, true, true, true, true, true, true, true, true, false, false, false, false, false, false, false, false, false, false] rfl rfl (any_of HT_.out (by kernel_rfl)) (fun _ _ _ h => h) (Or.inr ⟨by rfl, rfl⟩) ?_ ?_
         rotate_left
         ·simp only [Act.put, List.setIfInBounds_toArray, List.set_cons_zero, List.set_cons_succ, i64_w, i32_w]
          rfl
         refine pure_ (i := 15) (N := some 73) (v := undef) (a' := ?_) #[true, true, true, true, true, true, true, true, true, true, true, true, true, true, true, true, false, false, false, false, false, false, false, false, false] rfl rfl (any_of HT_.out (by kernel_rfl)) (fun _ _ _ h => h) (Or.inr ⟨by rfl, rfl⟩) ?_ ?_
         rotate_left
         ·simp only [Act.put, List.setIfInBounds_toArray, List.set_cons_zero, List.set_cons_succ, i64_w, i32_w]
          rfl
         refine pure_ (i := 16) (N := some 74) (v := undef) (a' := ?_) #[true, true, true, true, true, true, true, true, true, true, true, true, true, true, true, true, true, false, false, false, false, false, false, false, false] rfl rfl (any_of HT_.out (by kernel_rfl)) (fun _ _ _ h => h) (Or.inr ⟨by rfl, rfl⟩) ?_ ?_
         rotate_left
         ·simp only [Act.put, List.setIfInBounds_toArray, List.set_cons_zero, List.set_cons_succ, i64_w, i32_w]
          rfl
         refine pure_ (i := 17) (N := some 75) (v := undef) (a' := ?_) #[true, true, true, true, true, true, true, true, true, true, true, true, true, true, true, true, true, true, false, false, false, false, false, false, false] rfl rfl (any_of HT_.out (by kernel_rfl)) (fun _ _ _ h => h) (Or.inr ⟨by rfl, rfl⟩) ?_ ?_
         rotate_left
         ·simp only [Act.put, List.setIfInBounds_toArray, List.set_cons_zero, List.set_cons_succ, i64_w, i32_w]
          rfl
         refine pure_ (i := 18) (N := some 76) (v := undef) (a' := ?_) #[true, true, true, true, true, true, true, true, true, true, true, true, true, true, true, true, true, true, true, false, false, false, false, false, false] rfl rfl (any_of HT_.out (by kernel_rfl)) (fun _ _ _ h => h) (Or.inr ⟨by rfl, rfl⟩) ?_ ?_
         rotate_left
         ·simp only [Act.put, List.setIfInBounds_toArray, List.set_cons_zero, List.set_cons_succ, i64_w, i32_w]
          rfl
         refine pure_ (i := 19) (N := some 77) (v := undef) (a' := ?_) #[true, true, true, true, true, true, true, true, true, true, true, true, true, true, true, true, true, true, true, true, false, false, false, false, false] rfl rfl (any_of HT_.out (by kernel_rfl)) (fun _ _ _ h => h) (Or.inr ⟨by rfl, rfl⟩) ?_ ?_
         rotate_left
         ·simp only [Act.put, List.setIfInBounds_toArray, List.set_cons_zero, List.set_cons_succ, i64_w, i32_w]
          rfl
         refine pure_ (i := 20) (N := some 78) (v := undef) (a' := ?_) #[true, true, true, true, true, true, true, true, true, true, true, true, true, true, true, true, true, true, true, true, true, false, false, false, false] rfl rfl (any_of HT_.out (by kernel_rfl)) (fun _ _ _ h => h) (Or.inr ⟨by rfl, rfl⟩) ?_ ?_
         rotate_left
         ·simp only [Act.put, List.setIfInBounds_toArray, List.set_cons_zero, List.set_cons_succ, i64_w, i32_w]
          rfl
         refine pure_ (i := 21) (N := some 79) (v := undef) (a' := ?_) #[true, true, true, true, true, true, true, true, true, true, true, true, true, true, true, true, true, true, true, true, true, true, false, false, false] rfl rfl (any_of HT_.out (by kernel_rfl)) (fun _ _ _ h => h) (Or.inr ⟨by rfl, rfl⟩) ?_ ?_
         rotate_left
         ·simp only [Act.put, List.setIfInBounds_toArray, List.set_cons_zero, List.set_cons_succ, i64_w, i32_w]
          rfl
         refine pure_ (i := 22) (N := some 80) (v := undef) (a' := ?_) #[true, true, true, true, true, true, true, true, true, true, true, true, true, true, true, true, true, true, true, true, true, true, true, false, false] rfl rfl (any_of HT_.out (by kernel_rfl)) (fun _ _ _ h => h) (Or.inr ⟨by rfl, rfl⟩) ?_ ?_
         rotate_left
         ·simp only [Act.put, List.setIfInBounds_toArray, List.set_cons_zero, List.set_cons_succ, i64_w, i32_w]
          rfl
         refine pure_ (i := 23) (N := some 81) (v := ?_) (a' := ?_) #[true, true, true, true, true, true, true, true, true, true, true, true, true, true, true, true, true, true, true, true, true, true, true, true, false] rfl rfl (any_of HT_.out (by kernel_rfl)) (fun _ _ _ h => h) (Or.inl ⟨by rfl, ?_⟩) ?_ ?_
         rotate_left
         ·intro w'
          go_simp
          with_reducible rfl
         rotate_left
         ·simp only [Act.put, List.setIfInBounds_toArray, List.set_cons_zero, List.set_cons_succ, i64_w, i32_w]
          rfl
         refine pure_ (i := 24) (N := some 82) (v := ?_) (a' := ?_) #[true, true, true, true, true, true, true, true, true, true, true, true, true, true, true, true, true, true, true, true, true, true, true, true, true] rfl rfl (any_of HT_.out (by kernel_rfl)) (fun _ _ _ h => h) (Or.inl ⟨by rfl, ?_⟩) ?_ ?_
         rotate_left
         ·intro w'
          go_simp
          with_reducible rfl
         rotate_left
         ·simp only [Act.put, List.setIfInBounds_toArray, List.set_cons_zero, List.set_cons_succ, i64_w, i32_w]
          rfl
         refine done_ (done_of HT_.out (by kernel_rfl)) ?_
         try go_wp2
         go_meet
         case rel => exact ⟨_, (false), (by rfl), H', ⟨by have := HJ5.out; have := HK2.out; omega⟩, ⟨by (with_reducible repeat (apply Kd.R_drewN)); exact HOz0.out⟩, ⟨by (with_reducible repeat (apply Kd.R_drewN)); exact HOz1.out⟩, ⟨by (with_reducible repeat (refine blk_drewN ?_ _)); exact BKz1.out⟩, ⟨by (with_reducible repeat (refine blk_drewN ?_ _)); exact BKz0.out⟩, ⟨by (with_reducible repeat (refine blk_drewN ?_ _)); exact BKz2.out⟩, ⟨by (with_reducible repeat (refine blk_drewN ?_ _)); exact BKz3.out⟩, ⟨by (with_reducible repeat (refine blk_drewN ?_ _)); exact BKz4.out⟩, ⟨by repeat (with_reducible first | exact HB.out | apply pw_below_drewN)⟩⟩
        replace c80 := Bool.eq_false_iff.mpr c80
        subst c80
        have H1 : (spec_RedrawTiles.j2 k2 l3 x13_2 true a1_0 a1_1 a1_2 l1_3 tz0 tz1 tz2 xz0 tz3 tz4 tz6 xz1) = some (r1, r2, r3, r4, r5) := by rw [if_neg (show ¬ (false = true) by decide)] at H; exact H
        clear H
        have H := H1
        clear H1
        have H' := mk H
        clear H
        try go_wp2
        replace HOz0 := mk (Kd.R_drew HOz0.out)
        replace HOz1 := mk (Kd.R_drew HOz1.out)
        replace BKz1 := mk (blk_drew BKz1.out)
        replace BKz0 := mk (blk_drew BKz0.out)
        replace BKz2 := mk (blk_drew BKz2.out)
        replace BKz3 := mk (blk_drew BKz3.out)
        replace BKz4 := mk (blk_drew BKz4.out)
        replace HB := mk (below_drew1 HB.out)
        have p77020 : 0 ≤ (x13_2 : Int) := of_decide_eq_true (by (with_reducible assumption))
        have q77020 : x13_2 < (l3.length : Int) := of_decide_eq_true (by (with_reducible assumption))
        obtain ⟨ad77020, e77020, hx77020_0⟩ := Kd.at_int HR3.out x13_2 p77020 q77020
        have hw77020_0 := hx77020_0
        cases e77020
        replace hx77020_0 := (HB.out.cell (World.block_lt_of_cell? w _ hx77020_0)).trans hx77020_0
        replace p77020 := eq_true p77020
        replace q77020 := eq_true q77020
        refine start_ (n := 25) (S := fun w' => w'.cell? ⟨gbz1, 0, none⟩ = some (.int .i64 a1_0) ∧ w'.cell? ⟨gbz1, 1, none⟩ = some (.int .i64 a1_1) ∧ w'.cell? ⟨gbz1, 2, none⟩ = some (.int .i64 a1_2) ∧ w'.cell? ⟨gbz1, 3, none⟩ = some (.slice A1_3 l1_3.length c1_3) ∧ w'.cell? (ad77020.add (x13_2).toNat) = some (.int .i64 (rd l3 x13_2))) (ds := []) #[false, false, false, false, false, false, false, false, false, false, false, false, false, false, false, false, false, false, false, false, false, false, false, false, false] (by kernel_rfl) rfl rfl ⟨blk_cell BKz0.out 0, blk_cell BKz0.out 1, blk_cell BKz0.out 2, blk_cell BKz0.out 3, ((HB.out.cell (World.block_lt_of_cell? w _ hw77020_0)).trans hw77020_0)⟩ (fun hHeld => ?_); refine with_tabW spec_RedrawTiles.tab8 spec_RedrawTiles.bits8 (fun HT_ HW_ => ?_)
        generalize wr.drew = w89 at HOz0 HOz1 BKz1 BKz0 BKz2 BKz3 BKz4 HB hx77020_0 hHeld ⊢
        refine pure_ (i := 0) (N := some 58) (v := ?_) (a' := ?_) #[true, false, false, false, false, false, false, false, false, false, false, false, false, false, false, false, false, false, false, false, false, false, false, false, false] rfl rfl (any_of HT_.out (by kernel_rfl)) (fun _ _ _ h => h) (Or.inl ⟨by rfl, ?_⟩) ?_ ?_
        rotate_left
        ·intro w'
         go_simp
         with_reducible rfl
        rotate_left
        ·simp only [Act.put, List.setIfInBounds_toArray, List.set_cons_zero, List.set_cons_succ, i64_w, i32_w]
         rfl
        refine pure_ (i := 1) (N := some 59) (v := ?_) (a' := ?_) #[true, true, false, false, false, false, false, false, false, false, false, false, false, false, false, false, false, false, false, false, false, false, false, false, false] rfl rfl (any_of HT_.out (by kernel_rfl)) (fun _ _ _ h => h) (Or.inl ⟨by rfl, ?_⟩) ?_ ?_
        rotate_left
        ·intro w'
         go_simp
         with_reducible rfl
        rotate_left
        ·simp only [Act.put, List.setIfInBounds_toArray, List.set_cons_zero, List.set_cons_succ, i64_w, i32_w]
         rfl
        refine pure_ (i := 2) (N := some 60) (v := ?_) (a' := ?_) #[true, true, true, false, false, false, false, false, false, false, false, false, false, false, false, false, false, false, false, false, false, false, false, false, false] rfl rfl (any_of HT_.out (by kernel_rfl)) (fun _ _ _ h => h) (Or.inl ⟨by rfl, ?_⟩) ?_ ?_
        rotate_left
        ·intro w'
         go_simp
         with_reducible rfl
        rotate_left
        ·simp only [Act.put, List.setIfInBounds_toArray, List.set_cons_zero, List.set_cons_succ, i64_w, i32_w]
         rfl
        refine take_ (i := 3) (N := some 61) (v := ?_) (a' := ?_) #[true, true, true, true, false, false, false, false, false, false, false, false, false, false, false, false, false, false, false, false, false, false, false, false, false] rfl rfl (take_ofW HT_.out HW_.out (by kernel_rfl)) (fun _ _ _ h => h) (Or.inl ⟨by rfl, ?_⟩) hHeld ?_ ?_
        rotate_left
        ·rintro w' ⟨s0, s1, s2, s3, s4⟩
         go_simp
         with_reducible rfl
        rotate_left
        ·simp only [Act.put, List.setIfInBounds_toArray, List.set_cons_zero, List.set_cons_succ, i64_w, i32_w]
         rfl
        refine take_ (i := 4) (N := some 62) (v := ?_) (a' := ?_) #[true, true, true, true, true, false, false, false, false, false, false, false, false, false, false, false, false, false, false, false, false, false, false, false, false] rfl rfl (take_ofW HT_.out HW_.out (by kernel_rfl)) (fun _ _ _ h => h) (Or.inl ⟨by rfl, ?_⟩) hHeld ?_ ?_
        rotate_left
        ·rintro w' ⟨s0, s1, s2, s3, s4⟩
         go_simp
         with_reducible rfl
        rotate_left
        ·simp only [Act.put, List.setIfInBounds_toArray, List.set_cons_zero, List.set_cons_succ, i64_w, i32_w]
         rfl
        refine one_ (i := 5) (N := some 63) #[true, true, true, true, true, true, false, false, false, false, false, false, false, false, false, false, false, false, false, false, false, false, false, false, false] rfl rfl (one_of HT_.out (by kernel_rfl)) (by decide) (fun K hK => ?_)
        refine goes_ Try.func90 (by kernel_rfl) rfl #[.agg #[.int .i64 a1_0, .int .i64 a1_1, .int .i64 a1_2, .slice A1_3 l1_3.length c1_3]] (by rfl) rfl rfl (by (try simp only [List.map_toArray, List.map_cons, List.map_nil]); rfl) ?_
        with_reducible refine (spec_tileCount.calls a1_0 a1_1 a1_2 _ _ l1_3 tz11 _ ?side1 ?side2 A78.out).mono ?_
        (case side1 => repeat (exact (Kd.C_below HR1_3.out HB.out)))
        (case side2 => exact HC1_3.out)
        rintro e w90 ⟨rfl, hb⟩
        refine ⟨_, rfl, ?_⟩
        replace HOz0 := mk (Kd.R_below HOz0.out hb)
        replace HOz1 := mk (Kd.R_below HOz1.out hb)
        replace BKz1 := mk (blk_below BKz1.out hb)
        replace BKz0 := mk (blk_below BKz0.out hb)
        replace BKz2 := mk (blk_below BKz2.out hb)
        replace BKz3 := mk (blk_below BKz3.out hb)
        replace BKz4 := mk (blk_below BKz4.out hb)
        replace HB := mk (below_step HB.out hb)
        (try clear hb)
        refine hK.out _ _ ⟨blk_cell BKz0.out 0, blk_cell BKz0.out 1, blk_cell BKz0.out 2, blk_cell BKz0.out 3, ((HB.out.cell (World.block_lt_of_cell? w _ hw77020_0)).trans hw77020_0)⟩ (fun hHeld => ?_)
        clear hK K
        refine norm_ (a' := ?_) ?_ ?_
        rotate_left
        ·show Act.put _ (some 63) _ = _
         simp only [Act.put, List.setIfInBounds_toArray, List.set_cons_zero, List.set_cons_succ, i64_w, i32_w]
         rfl
        refine pure_ (i := 6) (N := some 64) (v := ?_) (a' := ?_) #[true, true, true, true, true, true, true, false, false, false, false, false, false, false, false, false, false, false, false, false, false, false, false, false, false] rfl rfl (any_of HT_.out (by kernel_rfl)) (fun _ _ _ h => h) (Or.inl ⟨by rfl, ?_⟩) ?_ ?_
        rotate_left
        ·intro w'
         go_simp
         with_reducible rfl
        rotate_left
        ·simp only [Act.put, List.setIfInBounds_toArray, List.set_cons_zero, List.set_cons_succ, i64_w, i32_w]
         rfl
        refine one_ (i := 7) (N := some 65) #[true, true, true, true, true, true, true, true, false, false, false, false, false, false, false, false, false, false, false, false, false, false, false, false, false] rfl rfl (one_of HT_.out (by kernel_rfl)) (by decide) (fun K hK => ?_)
        refine goes_ Try.func110 (by kernel_rfl) rfl #[.int .i64 (rd l3 x13_2), .int .i64 0, .int .i64 (wrap64 (tz11 - 1))] (by rfl) rfl rfl (by (try simp only [List.map_toArray, List.map_cons, List.map_nil]); rfl) ?_
        with_reducible refine (spec_inRange.calls (rd l3 x13_2) 0 (wrap64 (tz11 - 1)) false _ A79.out).mono ?_
        rintro e w' ⟨rfl, ⟨nd, rfl⟩⟩
        refine ⟨_, rfl, ?_⟩
        refine hK.out _ _ ⟨blk_cell BKz0.out 0, blk_cell BKz0.out 1, blk_cell BKz0.out 2, blk_cell BKz0.out 3, ((HB.out.cell (World.block_lt_of_cell? w _ hw77020_0)).trans hw77020_0)⟩ (fun hHeld => ?_)
        clear hK K
        refine norm_ (a' := ?_) ?_ ?_
        rotate_left
        ·show Act.put _ (some 65) _ = _
         simp only [Act.put, List.setIfInBounds_toArray, List.set_cons_zero, List.set_cons_succ, i64_w, i32_w]
         rfl
        refine pure_ (i := 8) (N := some 66) (v := ?_) (a' := ?_) #[true, true, true, true, true, true, true, true, true, false, false, false, false, false, false, false, false, false, false, false, false, false, false, false, false] rfl rfl (any_of HT_.out (by kernel_rfl)) (fun _ _ _ h => h) (Or.inl ⟨by rfl, ?_⟩) ?_ ?_
        rotate_left
        ·intro w'
         go_simp
         with_reducible rfl
        rotate_left
        ·simp only [Act.put, List.setIfInBounds_toArray, List.set_cons_zero, List.set_cons_succ, i64_w, i32_w]
         rfl
        refine pure_ (i := 9) (N := some 67) (v := ?_) (a' := ?_) #[true, true, true, true, true, true, true, true, true, true, false, false, false, false, false, false, false, false, false, false, false, false, false, false, false] rfl rfl (any_of HT_.out (by kernel_rfl)) (fun _ _ _ h => h) (Or.inl ⟨by rfl, ?_⟩) ?_ ?_
        rotate_left
        ·intro w'
         go_simp
         with_reducible rfl
        rotate_left
        ·simp only [Act.put, List.setIfInBounds_toArray, List.set_cons_zero, List.set_cons_succ, i64_w, i32_w]
         rfl
        refine pure_ (i := 10) (N := some 68) (v := undef) (a' := ?_) #[true, true, true, true, true, true, true, true, true, true, true, false, false, false, false, false, false, false, false, false, false, false, false, false, false] rfl rfl (any_of HT_.out (by kernel_rfl)) (fun _ _ _ h => h) (Or.inr ⟨by rfl, rfl⟩) ?_ ?_
        rotate_left
        ·simp only [Act.put, List.setIfInBounds_toArray, List.set_cons_zero, List.set_cons_succ, i64_w, i32_w]
         rfl
        refine pure_ (i := 11) (N := some 69) (v := undef) (a' := ?_) #[true, true, true, true, true, true, true, true, true, true, true, true, false, false, false, false, false, false, false, false, false, false, false, false, false] rfl rfl (any_of HT_.out (by kernel_rfl)) (fun _ _ _ h => h) (Or.inr ⟨by rfl, rfl⟩) ?_ ?_
        rotate_left
        ·simp only [Act.put, List.setIfInBounds_toArray, List.set_cons_zero, List.set_cons_succ, i64_w, i32_w]
         rfl
        refine pure_ (i := 12) (N := some 70) (v := undef) (a' := ?_) #[true, true, true, true, true, true, true, true, true, true, true, true, true, false, false, false, false, false, false, false, false, false, false, false, false] rfl rfl (any_of HT_.out (by kernel_rfl)) (fun _ _ _ h => h) (Or.inr ⟨by rfl, rfl⟩) ?_ ?_
        rotate_left
        ·simp only [Act.put, List.setIfInBounds_toArray, List.set_cons_zero, List.set_cons_succ, i64_w, i32_w]
         rfl
        refine pure_ (i := 13) (N := some 71) (v := undef) (a' := ?_) #[true, true, true, true, true, true, true, true, true, true, true, true, true, true, false, false, false, false, false, false, false, false, false, false, false] rfl rfl (any_of HT_.out (by kernel_rfl)) (fun _ _ _ h => h) (Or.inr ⟨by rfl, rfl⟩) ?_ ?_
        rotate_left
        ·simp only [Act.put, List.setIfInBounds_toArray, List.set_cons_zero, List.set_cons_succ, i64_w, i32_w]
         rfl
        refine pure_ (i := 14) (N := some 72) (v := undef) (a' := ?_) #[true, true, true, true, true, true, true, true, true, true, true, true, true, true, true, false, false, false, false, false, false, false, false, false, false] rfl rfl (any_of HT_.out (by kernel_rfl)) (fun _ _ _ h => h) (Or.inr ⟨by rfl, rfl⟩) ?_ ?_
        rotate_left
        ·simp only [Act.put, List.setIfInBounds_toArray, List.set_cons_zero, List.set_cons_succ, i64_w, i32_w]
         rfl
        refine pure_ (i := 15) (N := some 73) (v := undef) (a' := ?_) #[true, true, true, true, true, true, true, true, true, true, true, true, true, true, true, true, false, false, false, false, false, false, false, false, false] rfl rfl (any_of HT_.out (by kernel_rfl)) (fun _ _ _ h => h) (Or.inr ⟨by rfl, rfl⟩) ?_ ?_
        rotate_left
        ·simp only [Act.put, List.setIfInBounds_toArray, List.set_cons_zero, List.set_cons_succ, i64_w, i32_w]
         rfl
        refine pure_ (i := 16) (N := some 74) (v := undef) (a' := ?_) #[true, true, true, true, true, true, true, true, true, true, true, true, true, true, true, true, true, false, false, false, false, false, false, false, false] rfl rfl (any_of HT_.out (by kernel_rfl)) (fun _ _ _ h => h) (Or.inr ⟨by rfl, rfl⟩) ?_ ?_
        rotate_left
        ·simp only [Act.put, List.setIfInBounds_toArray, List.set_cons_zero, List.set_cons_succ, i64_w, i32_w]
         rfl
        refine pure_ (i := 17) (N := some 75) (v := undef) (a' := ?_) #[true, true, true, true, true, true, true, true, true, true, true, true, true, true, true, true, true, true, false, false, false, false, false, false, false] rfl rfl (any_of HT_.out (by kernel_rfl)) (fun _ _ _ h => h) (Or.inr ⟨by rfl, rfl⟩) ?_ ?_
        rotate_left
        ·simp only [Act.put, List.setIfInBounds_toArray, List.set_cons_zero, List.set_cons_succ, i64_w, i32_w]
         rfl
        refine pure_ (i := 18) (N := some 76) (v := undef) (a' := ?_) #[true, true, true, true, true, true, true, true, true, true, true, true, true, true, true, true, true, true, true, false, false, false, false, false, false] rfl rfl (any_of HT_.out (by kernel_rfl)) (fun _ _ _ h => h) (Or.inr ⟨by rfl, rfl⟩) ?_ ?_
        rotate_left
        ·simp only [Act.put, List.setIfInBounds_toArray, List.set_cons_zero, List.set_cons_succ, i64_w, i32_w]
         rfl
        refine pure_ (i := 19) (N := some 77) (v := undef) (a' := ?_) #[true, true, true, true, true, true, true, true, true, true, true, true, true, true, true, true, true, true, true, true, false, false, false, false, false] rfl rfl (any_of HT_.out (by kernel_rfl)) (fun _ _ _ h => h) (Or.inr ⟨by rfl, rfl⟩) ?_ ?_
        rotate_left
        ·simp only [Act.put, List.setIfInBounds_toArray, List.set_cons_zero, List.set_cons_succ, i64_w, i32_w]
         rfl
        refine pure_ (i := 20) (N := some 78) (v := undef) (a' := ?_) #[true, true, true, true, true, true, true, true, true, true, true, true, true, true, true, true, true, true, true, true, true, false, false, false, false] rfl rfl (any_of HT_.out (by kernel_rfl)) (fun _ _ _ h => h) (Or.inr ⟨by rfl, rfl⟩) ?_ ?_
        rotate_left
        ·simp only [Act.put, List.setIfInBounds_toArray, List.set_cons_zero, List.set_cons_succ, i64_w, i32_w]
         rfl
        refine pure_ (i := 21) (N := some 79) (v := undef) (a' := ?_) #[true, true, true, true, true, true, true, true, true, true, true, true, true, true, true, true, true, true, true, true, true, true, false, false, false] rfl rfl (any_of HT_.out (by kernel_rfl)) (fun _ _ _ h => h) (Or.inr ⟨by rfl, rfl⟩) ?_ ?_
        rotate_left
        ·simp only [Act.put, List.setIfInBounds_toArray, List.set_cons_zero, List.set_cons_succ, i64_w, i32_w]
         rfl
        refine pure_ (i := 22) (N := some 80) (v := undef) (a' := ?_) #[true, true, true, true, true, true, true, true, true, true, true, true, true, true, true, true, true, true, true, true, true, true, true, false, false] rfl rfl (any_of HT_.out (by kernel_rfl)) (fun _ _ _ h => h) (Or.inr ⟨by rfl, rfl⟩) ?_ ?_
        rotate_left
        ·simp only [Act.put, List.setIfInBounds_toArray, List.set_cons_zero, List.set_cons_succ, i64_w, i32_w]
         rfl
        refine pure_ (i := 23) (N := some 81) (v := undef) (a' := ?_) #[true, true, true, true, true, true, true, true, true, true, true, true, true, true, true, true, true, true, true, true, true, true, true, true, false] rfl rfl (any_of HT_.out (by kernel_rfl)) (fun _ _ _ h => h) (Or.inr ⟨by rfl, rfl⟩) ?_ ?_
        rotate_left
        ·simp only [Act.put, List.setIfInBounds_toArray, List.set_cons_zero, List.set_cons_succ, i64_w, i32_w]
         rfl
        refine pure_ (i := 24) (N := some 82) (v := ?_) (a' := ?_) #[true, true, true, true, true, true, true, true, true, true, true, true, true, true, true, true, true, true, true, true, true, true, true, true, true] rfl rfl (any_of HT_.out (by kernel_rfl)) (fun _ _ _ h => h) (Or.inl ⟨by rfl, ?_⟩) ?_ ?_
        rotate_left
        ·intro w'
         go_simp
         with_reducible rfl
        rotate_left
        ·simp only [Act.put, List.setIfInBounds_toArray, List.set_cons_zero, List.set_cons_succ, i64_w, i32_w]
         rfl
        refine done_ (done_of HT_.out (by kernel_rfl)) ?_
        try go_wp2
        go_meet
        case rel => exact ⟨_, (true), (by rfl), H', ⟨by have := HJ5.out; have := HK2.out; omega⟩, ⟨by (with_reducible repeat (apply Kd.R_drewN)); exact HOz0.out⟩, ⟨by (with_reducible repeat (apply Kd.R_drewN)); exact HOz1.out⟩, ⟨by (with_reducible repeat (refine blk_drewN ?_ _)); exact BKz1.out⟩, ⟨by (with_reducible repeat (refine blk_drewN ?_ _)); exact BKz0.out⟩, ⟨by (with_reducible repeat (refine blk_drewN ?_ _)); exact BKz2.out⟩, ⟨by (with_reducible repeat (refine blk_drewN ?_ _)); exact BKz3.out⟩, ⟨by (with_reducible repeat (refine blk_drewN ?_ _)); exact BKz4.out⟩, ⟨by repeat (with_reducible first | exact HB.out | apply pw_below_drewN)⟩⟩
       rw [if_neg c77] at H
       exact absurd H (by simp)
      case rest =>
       clear HC76
       obtain ⟨kq, x82_75, rfl, HA, HJ75, HOz0, HOz1, BKz1, BKz0, BKz2, BKz3, BKz4, HB⟩ := hcut
       cases kq with
       | zero => exact absurd HA.out (by simp [spec_RedrawTiles.j2])
       | succ kj75 =>
        have H := HA.out
        clear HA
        simp only [spec_RedrawTiles.j2] at H
        by_cases c91 : x82_75 = true
        ·subst c91
         have H1 : (some (0, 0, 0, ([] : List Int), false)) = some (r1, r2, r3, r4, r5) := by rw [if_pos rfl] at H; exact H
         clear H
         have H := H1
         clear H1
         simp only [Option.some.injEq, Prod.mk.injEq] at H
         obtain ⟨rfl, rfl, rfl, rfl, rfl⟩ := H
         obtain ⟨hcz96_0, hcz96_1, hcz96_2, hcz96_3, hfz96_0, hfz96_1, hfz96_2, hfz96_3⟩ := c4 BKz2.out
         go_wp2
         refine bodyPost_ret (results_ct rfl _ _ gbz4 27 #[.int .i64 0, .int .i64 0, .int .i64 0, .slice none 0 0] (0, 0) _ rfl (by refine blk_put (cs := #[.int .i64 0, .int .i64 0, .int .i64 0, .slice none 0 0]) ?_ 3 _ rfl; refine blk_put (cs := #[.int .i64 0, .int .i64 0, .int .i64 xz2, .slice none 0 0]) ?_ 2 _ rfl; refine blk_put (cs := #[.int .i64 0, .int .i64 xz3, .int .i64 xz2, .slice none 0 0]) ?_ 1 _ rfl; refine blk_put (cs := #[.int .i64 xz4, .int .i64 xz3, .int .i64 xz2, .slice none 0 0]) ?_ 0 _ rfl; exact BKz2.out) Try.underlying27 rfl (by kernel_rfl)) rfl ?_
         exact ⟨_, by rfl, by exact Kd.R_nil _ _ _ _ _, by repeat (with_reducible first | exact HB.out | refine below_set ?_ GEz2.out)⟩
        replace c91 := Bool.eq_false_iff.mpr c91
        subst c91
        have H1 : (if 0 ≤ x13_2 then (if x13_2 < (l3.length : Int) then ((spec_tileBox.f a1_0 a1_1 a1_2 l1_3 (rd l3 x13_2)).bind fun btz2 => ((spec_crop.f kj75 tz0 tz1 tz2 xz0 btz2.1 btz2.2.1 btz2.2.2.1 btz2.2.2.2).bind fun btz1 => ((spec_paste.f kj75 tz3 tz4 tz6 xz1 btz2.1 btz2.2.1 btz1.1 btz1.2.1 btz1.2.2.1 btz1.2.2.2).bind fun tz12 => (spec_RedrawTiles.l0 kj75 l3 (wrap64 (x13_2 + 1)) a1_0 a1_1 a1_2 l1_3 tz0 tz1 tz2 xz0 tz3 tz4 tz6 tz12)))) else none) else none) = some (r1, r2, r3, r4, r5) := by rw [if_neg (show ¬ (false = true) by decide)] at H; exact H
        clear H
        have H := H1
        clear H1
        by_cases c97 : 0 ≤ x13_2
        ·rw [if_pos c97] at H
         have c97b0 : decide (0 ≤ x13_2) = true := decide_eq_true c97
         clear c97
         by_cases c98 : x13_2 < (l3.length : Int)
         ·rw [if_pos c98] at H
          have c98b0 : decide (x13_2 < (l3.length : Int)) = true := decide_eq_true c98
          clear c98
          replace H := Option.bind_eq_some_iff.mp H
          obtain ⟨⟨tz7, tz8, tz9, tz10⟩, A990, H⟩ := H
          replace H : ((spec_crop.f kj75 tz0 tz1 tz2 xz0 tz7 tz8 tz9 tz10).bind fun btz1 => ((spec_paste.f kj75 tz3 tz4 tz6 xz1 tz7 tz8 btz1.1 btz1.2.1 btz1.2.2.1 btz1.2.2.2).bind fun tz12 => (spec_RedrawTiles.l0 kj75 l3 (wrap64 (x13_2 + 1)) a1_0 a1_1 a1_2 l1_3 tz0 tz1 tz2 xz0 tz3 tz4 tz6 tz12))) = some (r1, r2, r3, r4, r5) := H
          have A99 := mk A990
          clear A990
          replace H := Option.bind_eq_some_iff.mp H
          obtain ⟨⟨tz17, tz18, tz19, tz16⟩, A1000, H⟩ := H
          replace H : ((spec_paste.f kj75 tz3 tz4 tz6 xz1 tz7 tz8 tz17 tz18 tz19 tz16).bind fun tz12 => (spec_RedrawTiles.l0 kj75 l3 (wrap64 (x13_2 + 1)) a1_0 a1_1 a1_2 l1_3 tz0 tz1 tz2 xz0 tz3 tz4 tz6 tz12)) = some (r1, r2, r3, r4, r5) := H
          have A100 := mk A1000
          clear A1000
          replace H := Option.bind_eq_some_iff.mp H
          obtain ⟨tz12, A1010, H⟩ := H
          replace H : (spec_RedrawTiles.l0 kj75 l3 (wrap64 (x13_2 + 1)) a1_0 a1_1 a1_2 l1_3 tz0 tz1 tz2 xz0 tz3 tz4 tz6 tz12) = some (r1, r2, r3, r4, r5) := H
          have A101 := mk A1010
          clear A1010
          have H' := mk H
          clear H
          try go_wp2
          replace HOz0 := mk (Kd.R_drew HOz0.out)
          replace HOz1 := mk (Kd.R_drew HOz1.out)
          replace BKz1 := mk (blk_drew BKz1.out)
          replace BKz0 := mk (blk_drew BKz0.out)
          replace BKz2 := mk (blk_drew BKz2.out)
          replace BKz3 := mk (blk_drew BKz3.out)
          replace BKz4 := mk (blk_drew BKz4.out)
          replace HB := mk (below_drew1 HB.out)
          have p77025 : 0 ≤ (x13_2 : Int) := of_decide_eq_true (by (with_reducible assumption))
          have q77025 : x13_2 < (l3.length : Int) := of_decide_eq_true (by (with_reducible assumption))
          obtain ⟨ad77025, e77025, hx77025_0⟩ := Kd.at_int HR3.out x13_2 p77025 q77025
          have hw77025_0 := hx77025_0
          cases e77025
          replace hx77025_0 := (HB.out.cell (World.block_lt_of_cell? w _ hx77025_0)).trans hx77025_0
          replace p77025 := eq_true p77025
          replace q77025 := eq_true q77025
          refine start_ (n := 8) (S := fun w' => w'.cell? ⟨gbz1, 0, none⟩ = some (.int .i64 a1_0) ∧ w'.cell? ⟨gbz1, 1, none⟩ = some (.int .i64 a1_1) ∧ w'.cell? ⟨gbz1, 2, none⟩ = some (.int .i64 a1_2) ∧ w'.cell? ⟨gbz1, 3, none⟩ = some (.slice A1_3 l1_3.length c1_3) ∧ w'.cell? (ad77025.add (x13_2).toNat) = some (.int .i64 (rd l3 x13_2))) (ds := []) #[false, false, false, false, false, false, false, false] (by kernel_rfl) rfl rfl ⟨blk_cell BKz0.out 0, blk_cell BKz0.out 1, blk_cell BKz0.out 2, blk_cell BKz0.out 3, ((HB.out.cell (World.block_lt_of_cell? w _ hw77025_0)).trans hw77025_0)⟩ (fun hHeld => ?_); refine with_tabW spec_RedrawTiles.tab10 spec_RedrawTiles.bits10 (fun HT_ HW_ => ?_)
          generalize wc.drew = w102 at HOz0 HOz1 BKz1 BKz0 BKz2 BKz3 BKz4 HB hx77025_0 hHeld ⊢
          refine pure_ (i := 1) (N := some 85) (v := ?_) (a' := ?_) #[false, true, false, false, false, false, false, false] rfl rfl (any_of HT_.out (by kernel_rfl)) (fun _ _ _ h => h) (Or.inl ⟨by rfl, ?_⟩) ?_ ?_
          rotate_left
          ·intro w'
           go_simp
           with_reducible rfl
          rotate_left
          ·simp only [Act.put, List.setIfInBounds_toArray, List.set_cons_zero, List.set_cons_succ, i64_w, i32_w]
           rfl
          refine pure_ (i := 2) (N := some 86) (v := ?_) (a' := ?_) #[false, true, true, false, false, false, false, false] rfl rfl (any_of HT_.out (by kernel_rfl)) (fun _ _ _ h => h) (Or.inl ⟨by rfl, ?_⟩) ?_ ?_
          rotate_left
          ·intro w'
           go_simp
           with_reducible rfl
          rotate_left
          ·simp only [Act.put, List.setIfInBounds_toArray, List.set_cons_zero, List.set_cons_succ, i64_w, i32_w]
           rfl
          refine pure_ (i := 3) (N := some 87) (v := ?_) (a' := ?_) #[false, true, true, true, false, false, false, false] rfl rfl (any_of HT_.out (by kernel_rfl)) (fun _ _ _ h => h) (Or.inl ⟨by rfl, ?_⟩) ?_ ?_
          rotate_left
          ·intro w'
           go_simp
           with_reducible rfl
          rotate_left
          ·simp only [Act.put, List.setIfInBounds_toArray, List.set_cons_zero, List.set_cons_succ, i64_w, i32_w]
           rfl
          refine take_ (i := 0) (N := some 84) (v := ?_) (a' := ?_) #[true, true, true, true, false, false, false, false] rfl rfl (take_ofW HT_.out HW_.out (by kernel_rfl)) (fun _ _ _ h => h) (Or.inl ⟨by rfl, ?_⟩) hHeld ?_ ?_
          rotate_left
          ·rintro w' ⟨s0, s1, s2, s3, s4⟩
           go_simp
           with_reducible rfl
          rotate_left
          ·simp only [Act.put, List.setIfInBounds_toArray, List.set_cons_zero, List.set_cons_succ, i64_w, i32_w]
           rfl
          refine take_ (i := 4) (N := some 88) (v := ?_) (a' := ?_) #[true, true, true, true, true, false, false, false] rfl rfl (take_ofW HT_.out HW_.out (by kernel_rfl)) (fun _ _ _ h => h) (Or.inl ⟨by rfl, ?_⟩) hHeld ?_ ?_
          rotate_left
          ·rintro w' ⟨s0, s1, s2, s3, s4⟩
           go_simp
           with_reducible rfl
          rotate_left
          ·simp only [Act.put, List.setIfInBounds_toArray, List.set_cons_zero, List.set_cons_succ, i64_w, i32_w]
           rfl
          refine join_ (σ := Nat) 1 #[true, true, true, true, true, true, true, false] (fun s_ => [(89, .agg #[.int .i64 tz7, .int .i64 tz8, .int .i64 tz9, .int .i64 tz10]), (14, .pointer (some ⟨s_, 0, none⟩))]) (fun s_ w' => (w'.cell? ⟨gbz1, 0, none⟩ = some (.int .i64 a1_0) ∧ w'.cell? ⟨gbz1, 1, none⟩ = some (.int .i64 a1_1) ∧ w'.cell? ⟨gbz1, 2, none⟩ = some (.int .i64 a1_2) ∧ w'.cell? ⟨gbz1, 3, none⟩ = some (.slice A1_3 l1_3.length c1_3) ∧ w'.cell? (ad77025.add (x13_2).toNat) = some (.int .i64 (rd l3 x13_2))) ∧ (Kd.R (Kd.int .i64) 3 w' w.heap.size (fun k_ => some k_ ≠ (u77020003 : Value).ownBlock) u77012003 xz0) ∧ (Kd.R (Kd.int .i64) 3 w' w.heap.size (fun k_ => some k_ ≠ (u77012003 : Value).ownBlock) u77020003 xz1) ∧ (w'.heap[gbz3]? = some (.cells #[.int .i64 a0_0, .int .i64 a0_1, .int .i64 a0_2, .slice A0_3 l0_3.length c0_3] 27 (0, 0))) ∧ (w'.heap[gbz1]? = some (.cells #[.int .i64 a1_0, .int .i64 a1_1, .int .i64 a1_2, .slice A1_3 l1_3.length c1_3] 27 (0, 0))) ∧ (w'.heap[gbz4]? = some (.cells #[.int .i64 xz4, .int .i64 xz3, .int .i64 xz2, .slice none 0 0] 27 (0, 0))) ∧ (w'.heap[gbz2]? = some (.cells #[.int .i64 tz0, .int .i64 tz1, .int .i64 tz2, u77012003] 27 (0, 0))) ∧ (w'.heap[gbz5]? = some (.cells #[.int .i64 tz3, .int .i64 tz4, .int .i64 tz6, u77020003] 27 (0, 0))) ∧ (w'.heap[s_]? = some (.cells #[.int .i64 0, .int .i64 0, .int .i64 0, .int .i64 0] 47 (0, 0))) ∧ (w.heap.size ≤ s_) ∧ (w.heap.size ≤ s_) ∧ (gbz3 ≠ s_) ∧ (s_ ≠ gbz3) ∧ (gbz1 ≠ s_) ∧ (s_ ≠ gbz1) ∧ (gbz4 ≠ s_) ∧ (s_ ≠ gbz4) ∧ (gbz2 ≠ s_) ∧ (s_ ≠ gbz2) ∧ (gbz5 ≠ s_) ∧ (s_ ≠ gbz5) ∧ (Below w.heap.size w w')) ?_ ?_
          rotate_left
          ·intro hCont
           refine two_ (i := 5) (j := 6) (Ni := some 89) (Nj := some 14) #[true, true, true, true, true, true, false, false] #[true, true, true, true, true, false, true, false] rfl rfl rfl rfl (two_of HT_.out (by kernel_rfl)) (by decide) (by decide) (fun K hK => ?_) (fun K hK => ?_)
           ·skip
            refine goes_ Try.func91 (by kernel_rfl) rfl #[.agg #[.int .i64 a1_0, .int .i64 a1_1, .int .i64 a1_2, .slice A1_3 l1_3.length c1_3], .int .i64 (rd l3 x13_2)] (by rfl) rfl rfl (by (try simp only [List.map_toArray, List.map_cons, List.map_nil]); rfl) ?_
            with_reducible refine (spec_tileBox.calls a1_0 a1_1 a1_2 _ _ l1_3 (rd l3 x13_2) tz7 tz8 tz9 tz10 _ ?side1 ?side2 A99.out).mono ?_
            (case side1 => repeat (exact (Kd.C_below HR1_3.out HB.out)))
            (case side2 => exact HC1_3.out)
            rintro e w103 ⟨rfl, hb⟩
            refine ⟨_, rfl, ?_⟩
            replace HOz0 := mk (Kd.R_below HOz0.out hb)
            replace HOz1 := mk (Kd.R_below HOz1.out hb)
            replace BKz1 := mk (blk_below BKz1.out hb)
            replace BKz0 := mk (blk_below BKz0.out hb)
            replace BKz2 := mk (blk_below BKz2.out hb)
            replace BKz3 := mk (blk_below BKz3.out hb)
            replace BKz4 := mk (blk_below BKz4.out hb)
            replace HB := mk (below_step HB.out hb)
            (try clear hb)
            refine hK.out _ _ ⟨blk_cell BKz0.out 0, blk_cell BKz0.out 1, blk_cell BKz0.out 2, blk_cell BKz0.out 3, ((HB.out.cell (World.block_lt_of_cell? w _ hw77025_0)).trans hw77025_0)⟩ (fun hHeld => ?_)
            clear hK K
            refine norm_ (a' := ?_) ?_ ?_
            rotate_left
            ·show Act.put _ (some 89) _ = _
             simp only [Act.put, List.setIfInBounds_toArray, List.set_cons_zero, List.set_cons_succ, i64_w, i32_w]
             rfl
            refine one_ (i := 6) (N := some 14) #[true, true, true, true, true, true, true, false] rfl rfl (one_of HT_.out (by kernel_rfl)) (by decide) (fun K hK => ?_)
            refine box_step ?hg (N := 14) ?hd (cs := #[.int .i64 0, .int .i64 0, .int .i64 0, .int .i64 0]) (t := 47) ?hr ?_; (case hd => rfl); (case hg => rfl); (case hr => (go_simp; done))
            intro gbz0 hg w104 hbox hb
            replace HOz0 := mk (Kd.R_below HOz0.out hb)
            replace HOz1 := mk (Kd.R_below HOz1.out hb)
            have BKz5 := mk (hbox)
            have GWz0 := mk ((by rw [hg]; exact (below_size HB.out) : w.heap.size ≤ gbz0))
            have GEz1 := mk ((by rw [hg]; exact (below_size HB.out) : w.heap.size ≤ gbz0))
            replace HB := mk (below_step HB.out hb)
            have NBz4 := mk ((by rw [hg]; exact Nat.ne_of_lt (blk_lt BKz1.out) : gbz3 ≠ gbz0))
            replace BKz1 := mk (blk_below BKz1.out hb)
            have NBz8 := mk NBz4.out.symm
            have NBz0 := mk ((by rw [hg]; exact Nat.ne_of_lt (blk_lt BKz0.out) : gbz1 ≠ gbz0))
            replace BKz0 := mk (blk_below BKz0.out hb)
            have NBz9 := mk NBz0.out.symm
            have NBz5 := mk ((by rw [hg]; exact Nat.ne_of_lt (blk_lt BKz2.out) : gbz4 ≠ gbz0))
            replace BKz2 := mk (blk_below BKz2.out hb)
            have NBz10 := mk NBz5.out.symm
            have NBz6 := mk ((by rw [hg]; exact Nat.ne_of_lt (blk_lt BKz3.out) : gbz2 ≠ gbz0))
            replace BKz3 := mk (blk_below BKz3.out hb)
            have NBz11 := mk NBz6.out.symm
            have NBz7 := mk ((by rw [hg]; exact Nat.ne_of_lt (blk_lt BKz4.out) : gbz5 ≠ gbz0))
            replace BKz4 := mk (blk_below BKz4.out hb)
            have NBz12 := mk NBz7.out.symm
            clear hb hbox hg
            refine hK.out _ _ ⟨blk_cell BKz0.out 0, blk_cell BKz0.out 1, blk_cell BKz0.out 2, blk_cell BKz0.out 3, ((HB.out.cell (World.block_lt_of_cell? w _ hw77025_0)).trans hw77025_0)⟩ (fun hHeld => ?_)
            clear hK K
            refine norm_ (a' := ?_) ?_ ?_
            rotate_left
            ·show Act.put _ (some 14) _ = _
             simp only [Act.put, List.setIfInBounds_toArray, List.set_cons_zero, List.set_cons_succ, i64_w, i32_w]
             rfl
            exact norm_ (by simp only [putAll, Act.put, List.setIfInBounds_toArray, List.set_cons_zero, List.set_cons_succ]) (hCont gbz0 _ ⟨hHeld, HOz0.out, HOz1.out, BKz1.out, BKz0.out, BKz2.out, BKz3.out, BKz4.out, BKz5.out, GWz0.out, GEz1.out, NBz4.out, NBz8.out, NBz0.out, NBz9.out, NBz5.out, NBz10.out, NBz6.out, NBz11.out, NBz7.out, NBz12.out, (HB.out)⟩)
           skip
           refine box_step ?hg (N := 14) ?hd (cs := #[.int .i64 0, .int .i64 0, .int .i64 0, .int .i64 0]) (t := 47) ?hr ?_; (case hd => rfl); (case hg => rfl); (case hr => (go_simp; done))
           intro gbz0 hg w103 hbox hb
           replace HOz0 := mk (Kd.R_below HOz0.out hb)
           replace HOz1 := mk (Kd.R_below HOz1.out hb)
           have BKz5 := mk (hbox)
           have GWz0 := mk ((by rw [hg]; exact (below_size HB.out) : w.heap.size ≤ gbz0))
           have GEz1 := mk ((by rw [hg]; exact (below_size HB.out) : w.heap.size ≤ gbz0))
           replace HB := mk (below_step HB.out hb)
           have NBz4 := mk ((by rw [hg]; exact Nat.ne_of_lt (blk_lt BKz1.out) : gbz3 ≠ gbz0))
           replace BKz1 := mk (blk_below BKz1.out hb)
           have NBz8 := mk NBz4.out.symm
           have NBz0 := mk ((by rw [hg]; exact Nat.ne_of_lt (blk_lt BKz0.out) : gbz1 ≠ gbz0))
           replace BKz0 := mk (blk_below BKz0.out hb)
           have NBz9 := mk NBz0.out.symm
           have NBz5 := mk ((by rw [hg]; exact Nat.ne_of_lt (blk_lt BKz2.out) : gbz4 ≠ gbz0))
           replace BKz2 := mk (blk_below BKz2.out hb)
           have NBz10 := mk NBz5.out.symm
           have NBz6 := mk ((by rw [hg]; exact Nat.ne_of_lt (blk_lt BKz3.out) : gbz2 ≠ gbz0))
           replace BKz3 := mk (blk_below BKz3.out hb)
           have NBz11 := mk NBz6.out.symm
           have NBz7 := mk ((by rw [hg]; exact Nat.ne_of_lt (blk_lt BKz4.out) : gbz5 ≠ gbz0))
           replace BKz4 := mk (blk_below BKz4.out hb)
           have NBz12 := mk NBz7.out.symm
           clear hb hbox hg
           refine hK.out _ _ ⟨blk_cell BKz0.out 0, blk_cell BKz0.out 1, blk_cell BKz0.out 2, blk_cell BKz0.out 3, ((HB.out.cell (World.block_lt_of_cell? w _ hw77025_0)).trans hw77025_0)⟩ (fun hHeld => ?_)
           clear hK K
           refine norm_ (a' := ?_) ?_ ?_
           rotate_left
           ·show Act.put _ (some 14) _ = _
            simp only [Act.put, List.setIfInBounds_toArray, List.set_cons_zero, List.set_cons_succ, i64_w, i32_w]
            rfl
           refine one_ (i := 5) (N := some 89) #[true, true, true, true, true, true, true, false] rfl rfl (one_of HT_.out (by kernel_rfl)) (by decide) (fun K hK => ?_)
           refine goes_ Try.func91 (by kernel_rfl) rfl #[.agg #[.int .i64 a1_0, .int .i64 a1_1, .int .i64 a1_2, .slice A1_3 l1_3.length c1_3], .int .i64 (rd l3 x13_2)] (by rfl) rfl rfl (by (try simp only [List.map_toArray, List.map_cons, List.map_nil]); rfl) ?_
           with_reducible refine (spec_tileBox.calls a1_0 a1_1 a1_2 _ _ l1_3 (rd l3 x13_2) tz7 tz8 tz9 tz10 _ ?side1 ?side2 A99.out).mono ?_
           (case side1 => repeat (exact (Kd.C_below HR1_3.out HB.out)))
           (case side2 => exact HC1_3.out)
           rintro e w104 ⟨rfl, hb⟩
           refine ⟨_, rfl, ?_⟩
           replace HOz0 := mk (Kd.R_below HOz0.out hb)
           replace HOz1 := mk (Kd.R_below HOz1.out hb)
           replace BKz1 := mk (blk_below BKz1.out hb)
           replace BKz0 := mk (blk_below BKz0.out hb)
           replace BKz2 := mk (blk_below BKz2.out hb)
           replace BKz3 := mk (blk_below BKz3.out hb)
           replace BKz4 := mk (blk_below BKz4.out hb)
           replace BKz5 := mk (blk_below BKz5.out hb)
           replace HB := mk (below_step HB.out hb)
           (try clear hb)
           refine hK.out _ _ ⟨blk_cell BKz0.out 0, blk_cell BKz0.out 1, blk_cell BKz0.out 2, blk_cell BKz0.out 3, ((HB.out.cell (World.block_lt_of_cell? w _ hw77025_0)).trans hw77025_0)⟩ (fun hHeld => ?_)
           clear hK K
           refine norm_ (a' := ?_) ?_ ?_
           rotate_left
           ·show Act.put _ (some 89) _ = _
            simp only [Act.put, List.setIfInBounds_toArray, List.set_cons_zero, List.set_cons_succ, i64_w, i32_w]
            rfl
           exact norm_ (by simp only [putAll, Act.put, List.setIfInBounds_toArray, List.set_cons_zero, List.set_cons_succ]) (hCont gbz0 _ ⟨hHeld, HOz0.out, HOz1.out, BKz1.out, BKz0.out, BKz2.out, BKz3.out, BKz4.out, BKz5.out, GWz0.out, GEz1.out, NBz4.out, NBz8.out, NBz0.out, NBz9.out, NBz5.out, NBz10.out, NBz6.out, NBz11.out, NBz7.out, NBz12.out, (HB.out)⟩)
          rintro gbz0 w105 ⟨hS_, h0_, h1_, h2_, h3_, h4_, h5_, h6_, h7_, h8_, h9_, h10_, h11_, h12_, h13_, h14_, h15_, h16_, h17_, h18_, h19_, h20_⟩
          have n0_ : Aside0 (Kd.R (Kd.int .i64) 3 w105 w.heap.size (fun k_ => some k_ ≠ (u77020003 : Value).ownBlock) u77012003 xz0) := ⟨h0_⟩
          have n1_ : Aside0 (Kd.R (Kd.int .i64) 3 w105 w.heap.size (fun k_ => some k_ ≠ (u77012003 : Value).ownBlock) u77020003 xz1) := ⟨h1_⟩
          have n2_ : Aside0 (w105.heap[gbz3]? = some (.cells #[.int .i64 a0_0, .int .i64 a0_1, .int .i64 a0_2, .slice A0_3 l0_3.length c0_3] 27 (0, 0))) := ⟨h2_⟩
          have n3_ : Aside0 (w105.heap[gbz1]? = some (.cells #[.int .i64 a1_0, .int .i64 a1_1, .int .i64 a1_2, .slice A1_3 l1_3.length c1_3] 27 (0, 0))) := ⟨h3_⟩
          have n4_ : Aside0 (w105.heap[gbz4]? = some (.cells #[.int .i64 xz4, .int .i64 xz3, .int .i64 xz2, .slice none 0 0] 27 (0, 0))) := ⟨h4_⟩
          have n5_ : Aside0 (w105.heap[gbz2]? = some (.cells #[.int .i64 tz0, .int .i64 tz1, .int .i64 tz2, u77012003] 27 (0, 0))) := ⟨h5_⟩
          have n6_ : Aside0 (w105.heap[gbz5]? = some (.cells #[.int .i64 tz3, .int .i64 tz4, .int .i64 tz6, u77020003] 27 (0, 0))) := ⟨h6_⟩
          have n7_ : Aside0 (w105.heap[gbz0]? = some (.cells #[.int .i64 0, .int .i64 0, .int .i64 0, .int .i64 0] 47 (0, 0))) := ⟨h7_⟩
          have n8_ : Aside0 (w.heap.size ≤ gbz0) := ⟨h8_⟩
          have n9_ : Aside0 (w.heap.size ≤ gbz0) := ⟨h9_⟩
          have n10_ : Aside0 (gbz3 ≠ gbz0) := ⟨h10_⟩
          have n11_ : Aside0 (gbz0 ≠ gbz3) := ⟨h11_⟩
          have n12_ : Aside0 (gbz1 ≠ gbz0) := ⟨h12_⟩
          have n13_ : Aside0 (gbz0 ≠ gbz1) := ⟨h13_⟩
          have n14_ : Aside0 (gbz4 ≠ gbz0) := ⟨h14_⟩
          have n15_ : Aside0 (gbz0 ≠ gbz4) := ⟨h15_⟩
          have n16_ : Aside0 (gbz2 ≠ gbz0) := ⟨h16_⟩
          have n17_ : Aside0 (gbz0 ≠ gbz2) := ⟨h17_⟩
          have n18_ : Aside0 (gbz5 ≠ gbz0) := ⟨h18_⟩
          have n19_ : Aside0 (gbz0 ≠ gbz5) := ⟨h19_⟩
          have n20_ : Aside0 (Below w.heap.size w w105) := ⟨h20_⟩
          clear HOz0 HOz1 BKz1 BKz0 BKz2 BKz3 BKz4 HB h0_ h1_ h2_ h3_ h4_ h5_ h6_ h7_ h8_ h9_ h10_ h11_ h12_ h13_ h14_ h15_ h16_ h17_ h18_ h19_ h20_
          revert n0_ n1_ n2_ n3_ n4_ n5_ n6_ n7_ n8_ n9_ n10_ n11_ n12_ n13_ n14_ n15_ n16_ n17_ n18_ n19_ n20_; intro HOz0 HOz1 BKz1 BKz0 BKz2 BKz3 BKz4 BKz5 GWz0 GEz1 NBz4 NBz8 NBz0 NBz9 NBz5 NBz10 NBz6 NBz11 NBz7 NBz12 HB
          have hHeld : w105.cell? ⟨gbz1, 0, none⟩ = some (.int .i64 a1_0) ∧ w105.cell? ⟨gbz1, 1, none⟩ = some (.int .i64 a1_1) ∧ w105.cell? ⟨gbz1, 2, none⟩ = some (.int .i64 a1_2) ∧ w105.cell? ⟨gbz1, 3, none⟩ = some (.slice A1_3 l1_3.length c1_3) ∧ w105.cell? (ad77025.add (x13_2).toNat) = some (.int .i64 (rd l3 x13_2)) := hS_
          refine norm_ (a' := ?_) ?_ ?_
          rotate_left
          ·simp only [putAll, Act.put, List.setIfInBounds_toArray, List.set_cons_zero, List.set_cons_succ]
           rfl
          refine one_ (i := 7) (N := none) #[true, true, true, true, true, true, true, true] rfl rfl (one_of HT_.out (by kernel_rfl)) (by decide) (fun K hK => ?_)
          obtain ⟨hs106, -, -, -, hfs106, -⟩ := c4 BKz5.out
          have hns106_0 := NBz4.out
          have hns106_1 := NBz0.out
          have hns106_2 := NBz5.out
          have hns106_3 := NBz6.out
          have hns106_4 := NBz7.out
          have hms106_0 := NBz8.out
          have hms106_1 := NBz9.out
          have hms106_2 := NBz10.out
          have hms106_3 := NBz11.out
          have hms106_4 := NBz12.out
          obtain ⟨-, hs107, -, -, -, hfs107, -⟩ := c4 BKz5.out
          have hns107_0 := NBz4.out
          have hns107_1 := NBz0.out
          have hns107_2 := NBz5.out
          have hns107_3 := NBz6.out
          have hns107_4 := NBz7.out
          have hms107_0 := NBz8.out
          have hms107_1 := NBz9.out
          have hms107_2 := NBz10.out
          have hms107_3 := NBz11.out
          have hms107_4 := NBz12.out
          obtain ⟨-, -, hs108, -, -, -, hfs108, -⟩ := c4 BKz5.out
          have hns108_0 := NBz4.out
          have hns108_1 := NBz0.out
          have hns108_2 := NBz5.out
          have hns108_3 := NBz6.out
          have hns108_4 := NBz7.out
          have hms108_0 := NBz8.out
          have hms108_1 := NBz9.out
          have hms108_2 := NBz10.out
          have hms108_3 := NBz11.out
          have hms108_4 := NBz12.out
          obtain ⟨-, -, -, hs109, -, -, -, hfs109⟩ := c4 BKz5.out
          have hns109_0 := NBz4.out
          have hns109_1 := NBz0.out
          have hns109_2 := NBz5.out
          have hns109_3 := NBz6.out
          have hns109_4 := NBz7.out
          have hms109_0 := NBz8.out
          have hms109_1 := NBz9.out
          have hms109_2 := NBz10.out
          have hms109_3 := NBz11.out
          have hms109_4 := NBz12.out
          refine skip_ (w1 := ?_) (by rfl) rfl ?_ ?_
          rotate_left
          ·go_simp
           rfl
          refine hK.out _ _ ⟨((cell_far (p := ⟨gbz0, _, none⟩) NBz0.out _).trans (((cell_far (p := ⟨gbz0, _, none⟩) NBz0.out _).trans (((cell_far (p := ⟨gbz0, _, none⟩) NBz0.out _).trans (((cell_far (p := ⟨gbz0, _, none⟩) NBz0.out _).trans hHeld.1))))))), ((cell_far (p := ⟨gbz0, _, none⟩) NBz0.out _).trans (((cell_far (p := ⟨gbz0, _, none⟩) NBz0.out _).trans (((cell_far (p := ⟨gbz0, _, none⟩) NBz0.out _).trans (((cell_far (p := ⟨gbz0, _, none⟩) NBz0.out _).trans hHeld.2.1))))))), ((cell_far (p := ⟨gbz0, _, none⟩) NBz0.out _).trans (((cell_far (p := ⟨gbz0, _, none⟩) NBz0.out _).trans (((cell_far (p := ⟨gbz0, _, none⟩) NBz0.out _).trans (((cell_far (p := ⟨gbz0, _, none⟩) NBz0.out _).trans hHeld.2.2.1))))))), ((cell_far (p := ⟨gbz0, _, none⟩) NBz0.out _).trans (((cell_far (p := ⟨gbz0, _, none⟩) NBz0.out _).trans (((cell_far (p := ⟨gbz0, _, none⟩) NBz0.out _).trans (((cell_far (p := ⟨gbz0, _, none⟩) NBz0.out _).trans hHeld.2.2.2.1))))))), ((cell_far (p := ⟨gbz0, _, none⟩) (by exact Nat.ne_of_lt (Nat.lt_of_lt_of_le (by have := World.block_lt_of_cell? _ _ hw77025_0; exact this) GWz0.out)) _).trans (((cell_far (p := ⟨gbz0, _, none⟩) (by exact Nat.ne_of_lt (Nat.lt_of_lt_of_le (by have := World.block_lt_of_cell? _ _ hw77025_0; exact this) GWz0.out)) _).trans (((cell_far (p := ⟨gbz0, _, none⟩) (by exact Nat.ne_of_lt (Nat.lt_of_lt_of_le (by have := World.block_lt_of_cell? _ _ hw77025_0; exact this) GWz0.out)) _).trans (((cell_far (p := ⟨gbz0, _, none⟩) (by exact Nat.ne_of_lt (Nat.lt_of_lt_of_le (by have := World.block_lt_of_cell? _ _ hw77025_0; exact this) GWz0.out)) _).trans hHeld.2.2.2.2)))))))⟩ (fun hHeld => ?_)
          clear hK K
          refine done_ (done_of HT_.out (by kernel_rfl)) ?_
          try go_wp2
          have n0_ : Aside0 (Kd.R (Kd.int .i64) 3 ((((w105.setCell ⟨gbz0, 0, none⟩ (.int .i64 tz7)).setCell ⟨gbz0, 1, none⟩ (.int .i64 tz8)).setCell ⟨gbz0, 2, none⟩ (.int .i64 tz9)).setCell ⟨gbz0, 3, none⟩ (.int .i64 tz10)) w.heap.size (fun k_ => some k_ ≠ (u77020003 : Value).ownBlock) u77012003 xz0) := ⟨by exact Kd.R_mono (Kd.R_far (p := ⟨gbz0, 3, none⟩) (Kd.R_far (p := ⟨gbz0, 2, none⟩) (Kd.R_far (p := ⟨gbz0, 1, none⟩) (Kd.R_far (p := ⟨gbz0, 0, none⟩) (Kd.R_types HOz0.out BKz5.out (by decide)) (fun _ hk => hk.2) (.int .i64 tz7)) (fun _ hk => hk.2) (.int .i64 tz8)) (fun _ hk => hk.2) (.int .i64 tz9)) (fun _ hk => hk.2) (.int .i64 tz10)) (fun _ hk => hk.1)⟩
          have n1_ : Aside0 (Kd.R (Kd.int .i64) 3 ((((w105.setCell ⟨gbz0, 0, none⟩ (.int .i64 tz7)).setCell ⟨gbz0, 1, none⟩ (.int .i64 tz8)).setCell ⟨gbz0, 2, none⟩ (.int .i64 tz9)).setCell ⟨gbz0, 3, none⟩ (.int .i64 tz10)) w.heap.size (fun k_ => some k_ ≠ (u77012003 : Value).ownBlock) u77020003 xz1) := ⟨by exact Kd.R_mono (Kd.R_far (p := ⟨gbz0, 3, none⟩) (Kd.R_far (p := ⟨gbz0, 2, none⟩) (Kd.R_far (p := ⟨gbz0, 1, none⟩) (Kd.R_far (p := ⟨gbz0, 0, none⟩) (Kd.R_types HOz1.out BKz5.out (by decide)) (fun _ hk => hk.2) (.int .i64 tz7)) (fun _ hk => hk.2) (.int .i64 tz8)) (fun _ hk => hk.2) (.int .i64 tz9)) (fun _ hk => hk.2) (.int .i64 tz10)) (fun _ hk => hk.1)⟩
          have n2_ : Aside0 (((((w105.setCell ⟨gbz0, 0, none⟩ (.int .i64 tz7)).setCell ⟨gbz0, 1, none⟩ (.int .i64 tz8)).setCell ⟨gbz0, 2, none⟩ (.int .i64 tz9)).setCell ⟨gbz0, 3, none⟩ (.int .i64 tz10)).heap[gbz3]? = some (.cells #[.int .i64 a0_0, .int .i64 a0_1, .int .i64 a0_2, .slice A0_3 l0_3.length c0_3] 27 (0, 0))) := ⟨by refine blk_far ?_ NBz4.out _; refine blk_far ?_ NBz4.out _; refine blk_far ?_ NBz4.out _; refine blk_far ?_ NBz4.out _; exact BKz1.out⟩
          have n3_ : Aside0 (((((w105.setCell ⟨gbz0, 0, none⟩ (.int .i64 tz7)).setCell ⟨gbz0, 1, none⟩ (.int .i64 tz8)).setCell ⟨gbz0, 2, none⟩ (.int .i64 tz9)).setCell ⟨gbz0, 3, none⟩ (.int .i64 tz10)).heap[gbz1]? = some (.cells #[.int .i64 a1_0, .int .i64 a1_1, .int .i64 a1_2, .slice A1_3 l1_3.length c1_3] 27 (0, 0))) := ⟨by refine blk_far ?_ NBz0.out _; refine blk_far ?_ NBz0.out _; refine blk_far ?_ NBz0.out _; refine blk_far ?_ NBz0.out _; exact BKz0.out⟩
          have n4_ : Aside0 (((((w105.setCell ⟨gbz0, 0, none⟩ (.int .i64 tz7)).setCell ⟨gbz0, 1, none⟩ (.int .i64 tz8)).setCell ⟨gbz0, 2, none⟩ (.int .i64 tz9)).setCell ⟨gbz0, 3, none⟩ (.int .i64 tz10)).heap[gbz4]? = some (.cells #[.int .i64 xz4, .int .i64 xz3, .int .i64 xz2, .slice none 0 0] 27 (0, 0))) := ⟨by refine blk_far ?_ NBz5.out _; refine blk_far ?_ NBz5.out _; refine blk_far ?_ NBz5.out _; refine blk_far ?_ NBz5.out _; exact BKz2.out⟩
          have n5_ : Aside0 (((((w105.setCell ⟨gbz0, 0, none⟩ (.int .i64 tz7)).setCell ⟨gbz0, 1, none⟩ (.int .i64 tz8)).setCell ⟨gbz0, 2, none⟩ (.int .i64 tz9)).setCell ⟨gbz0, 3, none⟩ (.int .i64 tz10)).heap[gbz2]? = some (.cells #[.int .i64 tz0, .int .i64 tz1, .int .i64 tz2, u77012003] 27 (0, 0))) := ⟨by refine blk_far ?_ NBz6.out _; refine blk_far ?_ NBz6.out _; refine blk_far ?_ NBz6.out _; refine blk_far ?_ NBz6.out _; exact BKz3.out⟩
          have n6_ : Aside0 (((((w105.setCell ⟨gbz0, 0, none⟩ (.int .i64 tz7)).setCell ⟨gbz0, 1, none⟩ (.int .i64 tz8)).setCell ⟨gbz0, 2, none⟩ (.int .i64 tz9)).setCell ⟨gbz0, 3, none⟩ (.int .i64 tz10)).heap[gbz5]? = some (.cells #[.int .i64 tz3, .int .i64 tz4, .int .i64 tz6, u77020003] 27 (0, 0))) := ⟨by refine blk_far ?_ NBz7.out _; refine blk_far ?_ NBz7.out _; refine blk_far ?_ NBz7.out _; refine blk_far ?_ NBz7.out _; exact BKz4.out⟩
          have n7_ : Aside0 (((((w105.setCell ⟨gbz0, 0, none⟩ (.int .i64 tz7)).setCell ⟨gbz0, 1, none⟩ (.int .i64 tz8)).setCell ⟨gbz0, 2, none⟩ (.int .i64 tz9)).setCell ⟨gbz0, 3, none⟩ (.int .i64 tz10)).heap[gbz0]? = some (.cells #[.int .i64 tz7, .int .i64 tz8, .int .i64 tz9, .int .i64 tz10] 47 (0, 0))) := ⟨by refine blk_put (cs := #[.int .i64 tz7, .int .i64 tz8, .int .i64 tz9, .int .i64 0]) ?_ 3 _ rfl; refine blk_put (cs := #[.int .i64 tz7, .int .i64 tz8, .int .i64 0, .int .i64 0]) ?_ 2 _ rfl; refine blk_put (cs := #[.int .i64 tz7, .int .i64 0, .int .i64 0, .int .i64 0]) ?_ 1 _ rfl; refine blk_put (cs := #[.int .i64 0, .int .i64 0, .int .i64 0, .int .i64 0]) ?_ 0 _ rfl; exact BKz5.out⟩
          have n8_ : Aside0 (Below w.heap.size w ((((w105.setCell ⟨gbz0, 0, none⟩ (.int .i64 tz7)).setCell ⟨gbz0, 1, none⟩ (.int .i64 tz8)).setCell ⟨gbz0, 2, none⟩ (.int .i64 tz9)).setCell ⟨gbz0, 3, none⟩ (.int .i64 tz10))) := ⟨by repeat (with_reducible first | exact HB.out | refine below_set ?_ GEz1.out)⟩
          (try clear HOz0)
          (try clear HOz1)
          (try clear BKz1)
          (try clear BKz0)
          (try clear BKz2)
          (try clear BKz3)
          (try clear BKz4)
          (try clear BKz5)
          (try clear HB)
          generalize ((((w105.setCell ⟨gbz0, 0, none⟩ (.int .i64 tz7)).setCell ⟨gbz0, 1, none⟩ (.int .i64 tz8)).setCell ⟨gbz0, 2, none⟩ (.int .i64 tz9)).setCell ⟨gbz0, 3, none⟩ (.int .i64 tz10)) = w110 at n0_ n1_ n2_ n3_ n4_ n5_ n6_ n7_ n8_ ⊢
          revert n0_ n1_ n2_ n3_ n4_ n5_ n6_ n7_ n8_; intro HOz0 HOz1 BKz1 BKz0 BKz2 BKz3 BKz4 BKz5 HB
          replace HOz0 := mk (Kd.R_drew HOz0.out)
          replace HOz1 := mk (Kd.R_drew HOz1.out)
          replace BKz1 := mk (blk_drew BKz1.out)
          replace BKz0 := mk (blk_drew BKz0.out)
          replace BKz2 := mk (blk_drew BKz2.out)
          replace BKz3 := mk (blk_drew BKz3.out)
          replace BKz4 := mk (blk_drew BKz4.out)
          replace BKz5 := mk (blk_drew BKz5.out)
          replace HB := mk (below_drew1 HB.out)
          obtain ⟨Ao112, co112, eo112⟩ := Kd.R_slice HOz0.out
          (subst eo112)
          refine start_ (n := 16) (S := fun w' => w'.cell? ⟨gbz5, 0, none⟩ = some (.int .i64 tz3) ∧ w'.cell? ⟨gbz5, 1, none⟩ = some (.int .i64 tz4) ∧ w'.cell? ⟨gbz5, 2, none⟩ = some (.int .i64 tz6) ∧ w'.cell? ⟨gbz5, 3, none⟩ = some u77020003 ∧ w'.cell? ⟨gbz0, 0, none⟩ = some (.int .i64 tz7) ∧ w'.cell? ⟨gbz0, 1, none⟩ = some (.int .i64 tz8) ∧ w'.cell? ⟨gbz0, 2, none⟩ = some (.int .i64 tz9) ∧ w'.cell? ⟨gbz0, 3, none⟩ = some (.int .i64 tz10) ∧ w'.cell? ⟨gbz2, 0, none⟩ = some (.int .i64 tz0) ∧ w'.cell? ⟨gbz2, 1, none⟩ = some (.int .i64 tz1) ∧ w'.cell? ⟨gbz2, 2, none⟩ = some (.int .i64 tz2) ∧ w'.cell? ⟨gbz2, 3, none⟩ = some (.slice Ao112 xz0.length co112)) (ds := []) #[false, false, false, false, false, false, false, false, false, false, false, false, false, false, false, false] (by kernel_rfl) rfl rfl ⟨blk_cell BKz4.out 0, blk_cell BKz4.out 1, blk_cell BKz4.out 2, blk_cell BKz4.out 3, blk_cell BKz5.out 0, blk_cell BKz5.out 1, blk_cell BKz5.out 2, blk_cell BKz5.out 3, blk_cell BKz3.out 0, blk_cell BKz3.out 1, blk_cell BKz3.out 2, blk_cell BKz3.out 3⟩ (fun hHeld => ?_); refine with_tabW spec_RedrawTiles.tab11 spec_RedrawTiles.bits11 (fun HT_ HW_ => ?_)
          generalize w110.drew = w111 at HOz0 HOz1 BKz1 BKz0 BKz2 BKz3 BKz4 BKz5 HB hHeld ⊢
          refine pure_ (i := 1) (N := some 91) (v := ?_) (a' := ?_) #[false, true, false, false, false, false, false, false, false, false, false, false, false, false, false, false] rfl rfl (any_of HT_.out (by kernel_rfl)) (fun _ _ _ h => h) (Or.inl ⟨by rfl, ?_⟩) ?_ ?_
          rotate_left
          ·intro w'
           go_simp
           with_reducible rfl
          rotate_left
          ·simp only [Act.put, List.setIfInBounds_toArray, List.set_cons_zero, List.set_cons_succ, i64_w, i32_w]
           rfl
          refine pure_ (i := 3) (N := some 93) (v := ?_) (a' := ?_) #[false, true, false, true, false, false, false, false, false, false, false, false, false, false, false, false] rfl rfl (any_of HT_.out (by kernel_rfl)) (fun _ _ _ h => h) (Or.inl ⟨by rfl, ?_⟩) ?_ ?_
          rotate_left
          ·intro w'
           go_simp
           with_reducible rfl
          rotate_left
          ·simp only [Act.put, List.setIfInBounds_toArray, List.set_cons_zero, List.set_cons_succ, i64_w, i32_w]
           rfl
          refine pure_ (i := 6) (N := some 96) (v := ?_) (a' := ?_) #[false, true, false, true, false, false, true, false, false, false, false, false, false, false, false, false] rfl rfl (any_of HT_.out (by kernel_rfl)) (fun _ _ _ h => h) (Or.inl ⟨by rfl, ?_⟩) ?_ ?_
          rotate_left
          ·intro w'
           go_simp
           with_reducible rfl
          rotate_left
          ·simp only [Act.put, List.setIfInBounds_toArray, List.set_cons_zero, List.set_cons_succ, i64_w, i32_w]
           rfl
          refine pure_ (i := 8) (N := some 98) (v := ?_) (a' := ?_) #[false, true, false, true, false, false, true, false, true, false, false, false, false, false, false, false] rfl rfl (any_of HT_.out (by kernel_rfl)) (fun _ _ _ h => h) (Or.inl ⟨by rfl, ?_⟩) ?_ ?_
          rotate_left
          ·intro w'
           go_simp
           with_reducible rfl
          rotate_left
          ·simp only [Act.put, List.setIfInBounds_toArray, List.set_cons_zero, List.set_cons_succ, i64_w, i32_w]
           rfl
          refine pure_ (i := 10) (N := some 100) (v := ?_) (a' := ?_) #[false, true, false, true, false, false, true, false, true, false, true, false, false, false, false, false] rfl rfl (any_of HT_.out (by kernel_rfl)) (fun _ _ _ h => h) (Or.inl ⟨by rfl, ?_⟩) ?_ ?_
          rotate_left
          ·intro w'
           go_simp
           with_reducible rfl
          rotate_left
          ·simp only [Act.put, List.setIfInBounds_toArray, List.set_cons_zero, List.set_cons_succ, i64_w, i32_w]
           rfl
          refine pure_ (i := 12) (N := some 102) (v := ?_) (a' := ?_) #[false, true, false, true, false, false, true, false, true, false, true, false, true, false, false, false] rfl rfl (any_of HT_.out (by kernel_rfl)) (fun _ _ _ h => h) (Or.inl ⟨by rfl, ?_⟩) ?_ ?_
          rotate_left
          ·intro w'
           go_simp
           with_reducible rfl
          rotate_left
          ·simp only [Act.put, List.setIfInBounds_toArray, List.set_cons_zero, List.set_cons_succ, i64_w, i32_w]
           rfl
          refine take_ (i := 0) (N := some 90) (v := ?_) (a' := ?_) #[true, true, false, true, false, false, true, false, true, false, true, false, true, false, false, false] rfl rfl (take_ofW HT_.out HW_.out (by kernel_rfl)) (fun _ _ _ h => h) (Or.inl ⟨by rfl, ?_⟩) hHeld ?_ ?_
          rotate_left
          ·rintro w' ⟨s0, s1, s2, s3, s4, s5, s6, s7, s8, s9, s10, s11⟩
           go_simp
           with_reducible rfl
          rotate_left
          ·simp only [Act.put, List.setIfInBounds_toArray, List.set_cons_zero, List.set_cons_succ, i64_w, i32_w]
           rfl
          refine take_ (i := 2) (N := some 92) (v := ?_) (a' := ?_) #[true, true, true, true, false, false, true, false, true, false, true, false, true, false, false, false] rfl rfl (take_ofW HT_.out HW_.out (by kernel_rfl)) (fun _ _ _ h => h) (Or.inl ⟨by rfl, ?_⟩) hHeld ?_ ?_
          rotate_left
          ·rintro w' ⟨s0, s1, s2, s3, s4, s5, s6, s7, s8, s9, s10, s11⟩
           go_simp
           with_reducible rfl
          rotate_left
          ·simp only [Act.put, List.setIfInBounds_toArray, List.set_cons_zero, List.set_cons_succ, i64_w, i32_w]
           rfl
          refine take_ (i := 4) (N := some 94) (v := ?_) (a' := ?_) #[true, true, true, true, true, false, true, false, true, false, true, false, true, false, false, false] rfl rfl (take_ofW HT_.out HW_.out (by kernel_rfl)) (fun _ _ _ h => h) (Or.inl ⟨by rfl, ?_⟩) hHeld ?_ ?_
          rotate_left
          ·rintro w' ⟨s0, s1, s2, s3, s4, s5, s6, s7, s8, s9, s10, s11⟩
           go_simp
           with_reducible rfl
          rotate_left
          ·simp only [Act.put, List.setIfInBounds_toArray, List.set_cons_zero, List.set_cons_succ, i64_w, i32_w]
           rfl
          refine take_ (i := 5) (N := some 95) (v := ?_) (a' := ?_) #[true, true, true, true, true, true, true, false, true, false, true, false, true, false, false, false] rfl rfl (take_ofW HT_.out HW_.out (by kernel_rfl)) (fun _ _ _ h => h) (Or.inl ⟨by rfl, ?_⟩) hHeld ?_ ?_
          rotate_left
          ·rintro w' ⟨s0, s1, s2, s3, s4, s5, s6, s7, s8, s9, s10, s11⟩
           go_simp
           with_reducible rfl
          rotate_left
          ·simp only [Act.put, List.setIfInBounds_toArray, List.set_cons_zero, List.set_cons_succ, i64_w, i32_w]
           rfl
          refine take_ (i := 7) (N := some 97) (v := ?_) (a' := ?_) #[true, true, true, true, true, true, true, true, true, false, true, false, true, false, false, false] rfl rfl (take_ofW HT_.out HW_.out (by kernel_rfl)) (fun _ _ _ h => h) (Or.inl ⟨by rfl, ?_⟩) hHeld ?_ ?_
          rotate_left
          ·rintro w' ⟨s0, s1, s2, s3, s4, s5, s6, s7, s8, s9, s10, s11⟩
           go_simp
           with_reducible rfl
          rotate_left
          ·simp only [Act.put, List.setIfInBounds_toArray, List.set_cons_zero, List.set_cons_succ, i64_w, i32_w]
           rfl
          refine take_ (i := 9) (N := some 99) (v := ?_) (a' := ?_) #[true, true, true, true, true, true, true, true, true, true, true, false, true, false, false, false] rfl rfl (take_ofW HT_.out HW_.out (by kernel_rfl)) (fun _ _ _ h => h) (Or.inl ⟨by rfl, ?_⟩) hHeld ?_ ?_
          rotate_left
          ·rintro w' ⟨s0, s1, s2, s3, s4, s5, s6, s7, s8, s9, s10, s11⟩
           go_simp
           with_reducible rfl
          rotate_left
          ·simp only [Act.put, List.setIfInBounds_toArray, List.set_cons_zero, List.set_cons_succ, i64_w, i32_w]
           rfl
          refine take_ (i := 11) (N := some 101) (v := ?_) (a' := ?_) #[true, true, true, true, true, true, true, true, true, true, true, true, true, false, false, false] rfl rfl (take_ofW HT_.out HW_.out (by kernel_rfl)) (fun _ _ _ h => h) (Or.inl ⟨by rfl, ?_⟩) hHeld ?_ ?_
          rotate_left
          ·rintro w' ⟨s0, s1, s2, s3, s4, s5, s6, s7, s8, s9, s10, s11⟩
           go_simp
           with_reducible rfl
          rotate_left
          ·simp only [Act.put, List.setIfInBounds_toArray, List.set_cons_zero, List.set_cons_succ, i64_w, i32_w]
           rfl
          refine take_ (i := 13) (N := some 103) (v := ?_) (a' := ?_) #[true, true, true, true, true, true, true, true, true, true, true, true, true, true, false, false] rfl rfl (take_ofW HT_.out HW_.out (by kernel_rfl)) (fun _ _ _ h => h) (Or.inl ⟨by rfl, ?_⟩) hHeld ?_ ?_
          rotate_left
          ·rintro w' ⟨s0, s1, s2, s3, s4, s5, s6, s7, s8, s9, s10, s11⟩
           go_simp
           with_reducible rfl
          rotate_left
          ·simp only [Act.put, List.setIfInBounds_toArray, List.set_cons_zero, List.set_cons_succ, i64_w, i32_w]
           rfl
          refine one_ (i := 14) (N := some 104) #[true, true, true, true, true, true, true, true, true, true, true, true, true, true, true, false] rfl rfl (one_of HT_.out (by kernel_rfl)) (by decide) (fun K hK => ?_)
          refine goes_ Try.func123 (by kernel_rfl) rfl #[.agg #[.int .i64 tz0, .int .i64 tz1, .int .i64 tz2, .slice Ao112 xz0.length co112], .int .i64 tz7, .int .i64 tz8, .int .i64 tz9, .int .i64 tz10] (by rfl) rfl rfl (by (try simp only [List.map_toArray, List.map_cons, List.map_nil]); rfl) ?_
          with_reducible refine (spec_crop.calls kj75 tz0 tz1 tz2 _ _ xz0 tz7 tz8 tz9 tz10 tz17 tz18 tz19 tz16 _ ?side1 ?side2 A100.out).mono ?_
          (case side1 => repeat (exact (Kd.R_reads' HOz0.out).2.2))
          (case side2 => exact (Kd.R_reads' HOz0.out).2.1)
          rintro e w113 ⟨vz2, rfl, ho0, hb⟩
          refine ⟨_, rfl, ?_⟩
          have HOz3 := mk (Kd.R_lower (Kd.R_new' (Kd.R_new' ho0 (Kd.R_lt HOz0.out)) (Kd.R_lt HOz1.out)) (below_size HB.out))
          replace HOz0 := mk (Kd.R_elder' HOz0.out (Kd.R_base ho0) hb)
          replace HOz1 := mk (Kd.R_elder' HOz1.out (Kd.R_base ho0) hb)
          replace BKz1 := mk (blk_below BKz1.out hb)
          replace BKz0 := mk (blk_below BKz0.out hb)
          replace BKz2 := mk (blk_below BKz2.out hb)
          replace BKz3 := mk (blk_below BKz3.out hb)
          replace BKz4 := mk (blk_below BKz4.out hb)
          replace BKz5 := mk (blk_below BKz5.out hb)
          replace HB := mk (below_step HB.out hb)
          (try clear hb)
          (try clear ho0)
          obtain ⟨Ao114, co114, eo114⟩ := Kd.R_slice HOz1.out
          (subst eo114)
          obtain ⟨Ao115, co115, eo115⟩ := Kd.R_slice HOz3.out
          (subst eo115)
          refine hK.out _ _ ⟨blk_cell BKz4.out 0, blk_cell BKz4.out 1, blk_cell BKz4.out 2, blk_cell BKz4.out 3, blk_cell BKz5.out 0, blk_cell BKz5.out 1, blk_cell BKz5.out 2, blk_cell BKz5.out 3, blk_cell BKz3.out 0, blk_cell BKz3.out 1, blk_cell BKz3.out 2, blk_cell BKz3.out 3⟩ (fun hHeld => ?_)
          clear hK K
          refine norm_ (a' := ?_) ?_ ?_
          rotate_left
          ·show Act.put _ (some 104) _ = _
           simp only [Act.put, List.setIfInBounds_toArray, List.set_cons_zero, List.set_cons_succ, i64_w, i32_w]
           rfl
          refine one_ (i := 15) (N := some 105) #[true, true, true, true, true, true, true, true, true, true, true, true, true, true, true, true] rfl rfl (one_of HT_.out (by kernel_rfl)) (by decide) (fun K hK => ?_)
          refine goes_ Try.func122 (by kernel_rfl) rfl #[.agg #[.int .i64 tz3, .int .i64 tz4, .int .i64 tz6, .slice Ao114 xz1.length co114], .int .i64 tz7, .int .i64 tz8, .agg #[.int .i64 tz17, .int .i64 tz18, .int .i64 tz19, .slice Ao115 tz16.length co115]] (by rfl) rfl rfl (by (try simp only [List.map_toArray, List.map_cons, List.map_nil]); rfl) ?_
          with_reducible refine (spec_paste.calls kj75 tz3 tz4 tz6 (fun k_ => some k_ = (.slice Ao114 xz1.length co114 : Value).ownBlock) (.slice Ao114 xz1.length co114) xz1 tz7 tz8 tz17 tz18 tz19 _ _ tz16 tz12 w _ ?side1 ?side2 ?side3 ?side4 A101.out).mono ?_
          (case side1 => repeat (with_reducible exact HB.out))
          (case side2 => exact Kd.R_tight rfl HOz1.out)
          (case side3 => exact Kd.C_kept_own HOz3.out (fun k_ hk_ hs_ => hk_.2 hs_))
          (case side4 => exact (Kd.R_reads' HOz3.out).2.1)
          rintro e w116 ⟨rfl, hy0, hb, hkp⟩
          refine ⟨_, rfl, ?_⟩
          replace HOz0 := mk (Kd.R_mono (ok' := fun k_ => some k_ ≠ (.slice Ao114 xz1.length co114 : Value).ownBlock ∧ some k_ ≠ (.slice Ao115 tz16.length co115 : Value).ownBlock) (Kd.R_keptB HOz0.out hkp (fun k_ hk_ hs_ => hk_.1 hs_)) (fun k_ hk_ => ⟨hk_.1.1, hk_.1.2⟩))
          replace BKz1 := mk (blk_kept BKz1.out hkp (fun hs_ => (fun e_ => (Kd.R_ne HOz1.out BKz1.out (by decide)) e_) hs_))
          replace BKz0 := mk (blk_kept BKz0.out hkp (fun hs_ => (fun e_ => (Kd.R_ne HOz1.out BKz0.out (by decide)) e_) hs_))
          replace BKz2 := mk (blk_kept BKz2.out hkp (fun hs_ => (fun e_ => (Kd.R_ne HOz1.out BKz2.out (by decide)) e_) hs_))
          replace BKz3 := mk (blk_kept BKz3.out hkp (fun hs_ => (fun e_ => (Kd.R_ne HOz1.out BKz3.out (by decide)) e_) hs_))
          replace BKz4 := mk (blk_kept BKz4.out hkp (fun hs_ => (fun e_ => (Kd.R_ne HOz1.out BKz4.out (by decide)) e_) hs_))
          replace BKz5 := mk (blk_kept BKz5.out hkp (fun hs_ => (fun e_ => (Kd.R_ne HOz1.out BKz5.out (by decide)) e_) hs_))
          replace HOz1 := mk (Kd.R_reok rfl hy0 (fun k_ e_ => HOz1.out.1 k_ e_))
          replace HOz3 := mk (Kd.R_mono (ok' := fun k_ => some k_ ≠ (.slice Ao112 xz0.length co112 : Value).ownBlock ∧ some k_ ≠ (.slice Ao114 xz1.length co114 : Value).ownBlock) (Kd.R_keptB HOz3.out hkp (fun k_ hk_ hs_ => hk_.2 hs_)) (fun k_ hk_ => ⟨hk_.1.1.2, hk_.1.2⟩))
          replace HB := mk (hb)
          (try clear hb)
          (try clear hkp)
          (try clear hy0)
          refine hK.out _ _ ⟨blk_cell BKz4.out 0, blk_cell BKz4.out 1, blk_cell BKz4.out 2, blk_cell BKz4.out 3, blk_cell BKz5.out 0, blk_cell BKz5.out 1, blk_cell BKz5.out 2, blk_cell BKz5.out 3, blk_cell BKz3.out 0, blk_cell BKz3.out 1, blk_cell BKz3.out 2, blk_cell BKz3.out 3⟩ (fun hHeld => ?_)
          clear hK K
          refine norm_ (a' := ?_) ?_ ?_
          rotate_left
          ·show Act.put _ (some 105) _ = _
           simp only [Act.put, List.setIfInBounds_toArray, List.set_cons_zero, List.set_cons_succ, i64_w, i32_w]
           rfl
          refine done_ (done_of HT_.out (by kernel_rfl)) ?_
          try go_wp2
          go_roundg kj75
          case measure => have := HJ5.out; have := HK2.out; have := HJ75.out; omega
          case rel => exact ⟨(wrap64 (x13_2 + 1)), (xz4), (xz3), (xz2), (xz0), (tz12), (.slice Ao112 xz0.length co112), (.slice Ao114 xz1.length co114), (by rfl), H', ⟨by have := HJ5.out; have := HK2.out; have := HJ75.out; omega⟩, ⟨by exact Kd.R_mono HOz0.out (fun _ hk => hk.1)⟩, ⟨by exact Kd.R_mono HOz1.out (fun _ hk => hk.1)⟩, BKz1, BKz0, BKz2, BKz3, BKz4, HB⟩
         rw [if_neg c98] at H
         exact absurd H (by simp)
        rw [if_neg c97] at H
        exact absurd H (by simp)
     rw [if_neg c75] at H
     have c75b0 : decide (x13_2 < (l3.length : Int)) = false := decide_eq_false c75
     clear c75
     simp only [Option.some.injEq, Prod.mk.injEq] at H
     obtain ⟨rfl, rfl, rfl, rfl, rfl⟩ := H
     obtain ⟨hcz121_0, hcz121_1, hcz121_2, -⟩ := c4 BKz4.out
     have hcz121_3 : wr.cell? ⟨gbz5, 3, none⟩ = some u77020003 := (blk_cell BKz4.out 3).trans rfl
     obtain ⟨hcz125_0, hcz125_1, hcz125_2, hcz125_3, hfz125_0, hfz125_1, hfz125_2, hfz125_3⟩ := c4 BKz2.out
     obtain ⟨Ao126, co126, eo126⟩ := Kd.R_slice HOz1.out
     subst eo126
     go_wp2
     refine bodyPost_ret (results_ct rfl _ _ gbz4 27 #[.int .i64 tz3, .int .i64 tz4, .int .i64 tz6, .slice Ao126 xz1.length co126] (0, 0) _ rfl (by refine blk_put (cs := #[.int .i64 tz3, .int .i64 tz4, .int .i64 tz6, .slice none 0 0]) ?_ 3 _ rfl; refine blk_put (cs := #[.int .i64 tz3, .int .i64 tz4, .int .i64 xz2, .slice none 0 0]) ?_ 2 _ rfl; refine blk_put (cs := #[.int .i64 tz3, .int .i64 xz3, .int .i64 xz2, .slice none 0 0]) ?_ 1 _ rfl; refine blk_put (cs := #[.int .i64 xz4, .int .i64 xz3, .int .i64 xz2, .slice none 0 0]) ?_ 0 _ rfl; exact BKz2.out) Try.underlying27 rfl (by kernel_rfl)) rfl ?_
     exact ⟨_, by rfl, by exact Kd.R_mono (Kd.R_far (p := ⟨gbz4, 3, none⟩) (Kd.R_far (p := ⟨gbz4, 2, none⟩) (Kd.R_far (p := ⟨gbz4, 1, none⟩) (Kd.R_far (p := ⟨gbz4, 0, none⟩) (Kd.R_types HOz1.out BKz2.out (by decide)) (fun _ hk => hk.2) (.int .i64 tz3)) (fun _ hk => hk.2) (.int .i64 tz4)) (fun _ hk => hk.2) (.int .i64 tz6)) (fun _ hk => hk.2) (.slice Ao126 xz1.length co126)) (fun _ hk => trivial), by repeat (with_reducible first | exact HB.out | refine below_set ?_ GEz2.out)⟩

end Go.Proofs.Ytnofkbbcbpjhfaa.Q

namespace Go.Proofs.Ytnofkbbcbpjhfaa.Q
open Go.RowKit Go.Proofs.YtnofkbbcbpjhfaaW.PrintWords Go.Proofs.YtnofkbbcbpjhfaaW.PrintLast Go.Proofs.YtnofkbbcbpjhfaaW.PrintMore
attribute [local go_sem] max2_int min2_int max_two min_two max_three min_three max_four min_four
set_option linter.unusedVariables false
set_option linter.unusedSimpArgs false
def impl_isSide.f (a0 : Int) : Option (Bool) := if a0 ≥ 1 then (some (decide (a0 ≤ 16))) else (some false)
set_option maxHeartbeats 8000000 in
set_option maxRecDepth 100000 in
theorem impl_isSide.calls (a0 : Int) (r : Bool) (w : World) (h : impl_isSide.f a0 = some r) :
  Calls Try.prog 153 #[.int .i64 a0] w fun e w' => e = .returned (.bool r) ∧ Drawn0 w w' := by
 have H : (if a0 ≥ 1 then (some (decide (a0 ≤ 16))) else (some false)) = some r := h
 clear h
 by_cases c2 : a0 ≥ 1
 ·rw [if_pos c2] at H
  have c2b0 : decide (1 ≤ a0) = true := decide_eq_true c2
  clear c2
  obtain rfl := Option.some.inj H
  go_enter Try.func153, Try.ntmps153
  go_wp2
  go_ret
  exact ⟨by first | rfl | (simp; done) | (simp [*]; done), by repeat (first | exact Drawn0.refl _ | apply Drawn0.step)⟩
 ·rw [if_neg c2] at H
  have c2b0 : decide (1 ≤ a0) = false := decide_eq_false c2
  clear c2
  obtain rfl := Option.some.inj H
  go_enter Try.func153, Try.ntmps153
  go_wp2
  go_ret
  exact ⟨by first | rfl | (simp; done) | (simp [*]; done), by repeat (first | exact Drawn0.refl _ | apply Drawn0.step)⟩


def impl_isShape.f (a0 : Int) (a1 : Int) (a2 : Int) : Option (Bool) := (impl_isSide.f a0).bind fun t132001 => (if t132001 = true then ((impl_isSide.f a1).bind fun t132002 => (if t132002 = true then (if a2 ≥ 1 then (some (decide (a2 ≤ 4))) else (some false)) else (some false))) else (some false))
set_option maxHeartbeats 8000000 in
set_option maxRecDepth 100000 in
theorem impl_isShape.calls (a0 : Int) (a1 : Int) (a2 : Int) (r : Bool) (w : World) (h : impl_isShape.f a0 a1 a2 = some r) :
  Calls Try.prog 131 #[.int .i64 a0, .int .i64 a1, .int .i64 a2] w fun e w' => e = .returned (.bool r) ∧ Drawn0 w w' := by
 have H : ((impl_isSide.f a0).bind fun t132001 => (if t132001 = true then ((impl_isSide.f a1).bind fun t132002 => (if t132002 = true then (if a2 ≥ 1 then (some (decide (a2 ≤ 4))) else (some false)) else (some false))) else (some false))) = some r := h
 clear h
 replace H := Option.bind_eq_some_iff.mp H
 obtain ⟨t132001, A40, H⟩ := H
 replace H : (if t132001 = true then ((impl_isSide.f a1).bind fun t132002 => (if t132002 = true then (if a2 ≥ 1 then (some (decide (a2 ≤ 4))) else (some false)) else (some false))) else (some false)) = some r := H
 have A4 := Aside0.mk A40
 clear A40
 by_cases c5 : t132001 = true
 ·subst c5
  have H1 : ((impl_isSide.f a1).bind fun t132002 => (if t132002 = true then (if a2 ≥ 1 then (some (decide (a2 ≤ 4))) else (some false)) else (some false))) = some r := by rw [if_pos rfl] at H; exact H
  clear H
  have H := H1
  clear H1
  replace H := Option.bind_eq_some_iff.mp H
  obtain ⟨t132002, A60, H⟩ := H
  replace H : (if t132002 = true then (if a2 ≥ 1 then (some (decide (a2 ≤ 4))) else (some false)) else (some false)) = some r := H
  have A6 := Aside0.mk A60
  clear A60
  by_cases c7 : t132002 = true
  ·subst c7
   have H1 : (if a2 ≥ 1 then (some (decide (a2 ≤ 4))) else (some false)) = some r := by rw [if_pos rfl] at H; exact H
   clear H
   have H := H1
   clear H1
   by_cases c8 : a2 ≥ 1
   ·rw [if_pos c8] at H
    have c8b0 : decide (1 ≤ a2) = true := decide_eq_true c8
    clear c8
    obtain rfl := Option.some.inj H
    go_enter Try.func131, Try.ntmps131
    go_wp2_with (first | ((with_reducible refine gate_callee (f := 153) rfl ?_); refine goesL_ (some 8) rfl rfl Try.func153 (by kernel_rfl) rfl #[.int .i64 a0] rfl (by (try simp only [List.map_toArray, List.map_cons, List.map_nil]); first | done | rfl | (simp only [List.length_drop, List.length_take]; rfl)) ?_; (with_reducible refine (impl_isSide.calls a0 true _ A4.out).mono ?_); rintro e w' ⟨rfl, ⟨nd, rfl⟩⟩; refine ⟨_, rfl, ?_⟩) | (go_at_call 153; (with_reducible refine (impl_isSide.calls a1 true _ A6.out).mono ?_); rintro e w' ⟨rfl, ⟨nd, rfl⟩⟩))
    go_ret
    exact ⟨by first | rfl | (simp; done) | (simp [*]; done), by repeat (first | exact Drawn0.refl _ | apply Drawn0.step)⟩
   ·rw [if_neg c8] at H
    have c8b0 : decide (1 ≤ a2) = false := decide_eq_false c8
    clear c8
    obtain rfl := Option.some.inj H
    go_enter Try.func131, Try.ntmps131
    go_wp2_with (first | ((with_reducible refine gate_callee (f := 153) rfl ?_); refine goesL_ (some 8) rfl rfl Try.func153 (by kernel_rfl) rfl #[.int .i64 a0] rfl (by (try simp only [List.map_toArray, List.map_cons, List.map_nil]); first | done | rfl | (simp only [List.length_drop, List.length_take]; rfl)) ?_; (with_reducible refine (impl_isSide.calls a0 true _ A4.out).mono ?_); rintro e w' ⟨rfl, ⟨nd, rfl⟩⟩; refine ⟨_, rfl, ?_⟩) | (go_at_call 153; (with_reducible refine (impl_isSide.calls a1 true _ A6.out).mono ?_); rintro e w' ⟨rfl, ⟨nd, rfl⟩⟩))
    go_ret
    exact ⟨by first | rfl | (simp; done) | (simp [*]; done), by repeat (first | exact Drawn0.refl _ | apply Drawn0.step)⟩
  ·replace c7 := Bool.eq_false_iff.mpr c7
   subst c7
   have H1 : (some false) = some r := by rw [if_neg (show ¬ (false = true) by decide)] at H; exact H
   clear H
   have H := H1
   clear H1
   obtain rfl := Option.some.inj H
   go_enter Try.func131, Try.ntmps131
   go_wp2_with (first | ((with_reducible refine gate_callee (f := 153) rfl ?_); refine goesL_ (some 8) rfl rfl Try.func153 (by kernel_rfl) rfl #[.int .i64 a0] rfl (by (try simp only [List.map_toArray, List.map_cons, List.map_nil]); first | done | rfl | (simp only [List.length_drop, List.length_take]; rfl)) ?_; (with_reducible refine (impl_isSide.calls a0 true _ A4.out).mono ?_); rintro e w' ⟨rfl, ⟨nd, rfl⟩⟩; refine ⟨_, rfl, ?_⟩) | (go_at_call 153; (with_reducible refine (impl_isSide.calls a1 false _ A6.out).mono ?_); rintro e w' ⟨rfl, ⟨nd, rfl⟩⟩))
   go_ret
   exact ⟨by first | rfl | (simp; done) | (simp [*]; done), by repeat (first | exact Drawn0.refl _ | apply Drawn0.step)⟩
 ·replace c5 := Bool.eq_false_iff.mpr c5
  subst c5
  have H1 : (some false) = some r := by rw [if_neg (show ¬ (false = true) by decide)] at H; exact H
  clear H
  have H := H1
  clear H1
  obtain rfl := Option.some.inj H
  go_enter Try.func131, Try.ntmps131
  go_wp2_with (first | ((with_reducible refine gate_callee (f := 153) rfl ?_); refine goesL_ (some 8) rfl rfl Try.func153 (by kernel_rfl) rfl #[.int .i64 a0] rfl (by (try simp only [List.map_toArray, List.map_cons, List.map_nil]); first | done | rfl | (simp only [List.length_drop, List.length_take]; rfl)) ?_; (with_reducible refine (impl_isSide.calls a0 false _ A4.out).mono ?_); rintro e w' ⟨rfl, ⟨nd, rfl⟩⟩; refine ⟨_, rfl, ?_⟩))
  go_ret
  exact ⟨by first | rfl | (simp; done) | (simp [*]; done), by repeat (first | exact Drawn0.refl _ | apply Drawn0.step)⟩


/- Words of this session's own hand-made walks: where the first element lies for which a test holds; draws that follow each other. -/

theorem dtrans {a b c : World} (h : Drawn0 a b) (k : Drawn0 b c) : Drawn0 a c := by
  obtain ⟨n, rfl⟩ := k
  exact h.step n

/-- where the first element is for which p holds; -1 -/
def idxF {α : Type} (p : α → Bool) : List α → Int
  | [] => -1
  | x :: xs => if p x then 0 else (let r := idxF p xs; if r < 0 then -1 else r + 1)
theorem idxF_any {α : Type} (p : α → Bool) (l : List α) : decide (idxF p l ≥ 0) = l.any p := by
  induction l with
  | nil => simp [idxF]
  | cons x xs ih =>
    unfold idxF
    by_cases h : p x = true
    · simp [h]
    · simp only [h, List.any_cons, Bool.false_or, ← ih]
      simp only [Bool.false_eq_true, if_false]
      split
      · simp; omega
      · simp; omega
/-- p fails at all that lies before k -/
def SawNone {α : Type} (p : α → Bool) (l : List α) (k : Nat) : Prop := ∀ j, j < k → ∀ h : j < l.length, p l[j] = false
theorem SawNone.succ {α : Type} {p : α → Bool} {l : List α} {k : Nat} (h : SawNone p l k) (hk : k < l.length) (hp : p l[k] = false) : SawNone p l (k + 1) := by
  intro j hj hl
  by_cases e : j = k
  · subst e; exact hp
  · exact h j (by omega) hl
theorem idxF_at {α : Type} (p : α → Bool) (l : List α) (k : Nat) (hk : k < l.length) (hs : SawNone p l k) (hp : p l[k] = true) : idxF p l = k := by
  induction l generalizing k with
  | nil => simp at hk
  | cons x xs ih =>
    unfold idxF
    cases k with
    | zero => simp at hp; simp [hp]
    | succ k =>
      have h0 : p x = false := hs 0 (by omega) (by simp)
      have := ih k (by simpa using hk) (fun j hj h => hs (j + 1) (by omega) (by simpa using h)) (by simpa using hp)
      simp [h0, this]; omega
theorem idxF_none {α : Type} (p : α → Bool) (l : List α) (hs : SawNone p l l.length) : idxF p l = -1 := by
  induction l with
  | nil => rfl
  | cons x xs ih =>
    unfold idxF
    have h0 : p x = false := hs 0 (by simp) (by simp)
    have := ih (fun j hj h => hs (j + 1) (by simpa using hj) (by simpa using h))
    simp [h0, this]
theorem rd_get (l : List Int) (k : Nat) (hk : k < l.length) : rd l k = l[k] := by simp [rd, hk]
theorem ret_bool {a b : Bool} (h : a = b) : Ending.returned (.bool a) = .returned (.bool b) := by rw [h]
theorem R_empty {α : Type} (d : Kd α) (e base : Nat) (W : World) (hb : base ≤ W.heap.size) : d.R e (W.alloc (.cells #[] e)) base (fun _ => True) (.slice (some ⟨W.heap.size, 0, none⟩) 0 0) [] :=
  ⟨fun _ _ => trivial, OwnRow.lit (ps := []) (inner := []) W base (Reps.none _ _) hb (by simp)⟩

/- slices.IndexFunc over whole numbers: where the first element lies for which the function value's answer is true. -/

set_option maxHeartbeats 1000000 in
theorem idxFunc_int (g : Nat) (lb : Array Value) (p : Int → Bool) (A : Option Addr) (c : Nat) (l : List Int) (w : World)
  (eg : ∀ args W, (callFunc g args).run Try.prog W = .ok (.enter g args) W)
  (hp : ∀ (W : World) (x : Int), Below w.heap.size w W → Calls Try.prog g (#[.int .i64 x] ++ lb) W fun e W' => e = .returned (.bool (p x)) ∧ Drawn0 W W')
  (hr : Kd.C (Kd.int .i64) w A l.length l) :
  Calls Try.prog 162 #[.slice A l.length c, .func (.func g) #[] lb] w fun e w' => e = .returned (.int .i64 (idxF p l)) ∧ Drawn0 w w' := by
 have hm : l.length ≤ 9223372036854775807 := hr.2.1
 have HP := Aside0.mk hp
 have HR := Aside0.mk hr
 clear hp hr
 go_enter Try.func162, Try.ntmps162
 go_wp2
 go_loopw [8] (fun v8 W => ∃ k : Nat, v8 = .int .i64 k ∧ k ≤ l.length ∧ SawNone p l k ∧ Drawn0 w W) (fun v8 _ => l.length - (intOf v8).toNat)
 case atStart => exact ⟨0, rfl, by omega, fun j hj => by omega, Drawn0.refl _⟩
 case round =>
  obtain ⟨k, rfl, hk, hs, hd⟩ := hrel
  by_cases hlt : k < l.length
  ·obtain ⟨ad, e, hx⟩ := Kd.at_int HR.out (k : Int) (by omega) (by omega)
   cases e
   rw [rd_get l k hlt, Int.toNat_natCast] at hx
   replace hx := (hd.below.cell (World.block_lt_of_cell? w _ hx)).trans hx
   by_cases hv : p l[k] = true
   ·have HV := Aside0.mk hv
    clear hv
    go_wp2_with (first | (go_at_fn g; refine (HP.out _ _ hd.below).mono ?_; rintro e w' ⟨rfl, hd2⟩; rw [HV.out]))
    go_ret
    exact ⟨by rw [idxF_at p l k hlt hs HV.out]; rfl, dtrans hd hd2⟩
   ·replace hv : p l[k] = false := by simpa using hv
    have hs' := hs.succ hlt hv
    have HV := Aside0.mk hv
    clear hv
    go_wp2_with (first | (go_at_fn g; refine (HP.out _ _ hd.below).mono ?_; rintro e w' ⟨rfl, hd2⟩; rw [HV.out]))
    go_roundw
    case rel => exact ⟨k + 1, by go_num, by omega, hs', dtrans hd hd2⟩
    case measure => simp [intOf]; omega
  ·go_wp2
   go_ret
   have : k = l.length := by omega
   subst this
   exact ⟨by rw [idxF_none p l hs]; rfl, hd⟩

/- slices.ContainsFunc over whole numbers. -/

set_option maxHeartbeats 1000000 in
theorem containsFunc_int (g : Nat) (lb : Array Value) (p : Int → Bool) (A : Option Addr) (c : Nat) (l : List Int) (w : World)
  (eg : ∀ args W, (callFunc g args).run Try.prog W = .ok (.enter g args) W)
  (hp : ∀ (W : World) (x : Int), Below w.heap.size w W → Calls Try.prog g (#[.int .i64 x] ++ lb) W fun e W' => e = .returned (.bool (p x)) ∧ Drawn0 W W')
  (hr : Kd.C (Kd.int .i64) w A l.length l) :
  Calls Try.prog 154 #[.slice A l.length c, .func (.func g) #[] lb] w fun e w' => e = .returned (.bool (l.any p)) ∧ Drawn0 w w' := by
 have HP := Aside0.mk hp
 have HR := Aside0.mk hr
 clear hp hr
 go_enter Try.func154, Try.ntmps154
 go_wp2_with (first | (go_at_call 162; refine (idxFunc_int g lb p _ _ _ _ eg HP.out HR.out).mono ?_; rintro e w' ⟨rfl, hd⟩))
 go_ret
 exact ⟨ret_bool (by first | exact idxF_any p l | (rw [← idxF_any p l])), hd⟩

/- impl.areBytes: every number is in 0..255. -/

def notByte (n : Int) : Bool := decide (n < 0) || decide (n > 255)
def impl_areBytes.f (l0 : List Int) : Option Bool := some (!l0.any notByte)

theorem areBytes1 (n : Int) (w : World) : Calls Try.prog 155 #[.int .i64 n] w fun e w' => e = .returned (.bool (notByte n)) ∧ Drawn0 w w' := by
 by_cases h1 : n < 0 <;> by_cases h2 : n > 255
 all_goals
  go_enter Try.func155, Try.ntmps155
  go_wp2
  go_ret
  exact ⟨by simp [notByte, *], Drawn0.refl _⟩

set_option maxHeartbeats 1000000 in
theorem impl_areBytes.calls (A0 : Option Addr) (c0 : Nat) (l0 : List Int) (r : Bool) (w : World) (hr0 : Kd.C (Kd.int .i64) w A0 l0.length l0) (hc0 : l0.length ≤ c0) (h : impl_areBytes.f l0 = some r) :
  Calls Try.prog 132 #[.slice A0 l0.length c0] w fun e w' => e = .returned (.bool r) ∧ Drawn0 w w' := by
 obtain rfl := Option.some.inj h
 clear h
 have HR := Aside0.mk hr0
 clear hr0
 have eg : ∀ args W, (callFunc 155 args).run Try.prog W = .ok (.enter 155 args) W := enters_of Try.func155 (by kernel_rfl) rfl
 go_enter Try.func132, Try.ntmps132
 go_wp2_with (first | (go_at_call 154; refine (containsFunc_int 155 #[] notByte _ _ _ _ eg (fun W x _ => areBytes1 x W) HR.out).mono ?_; rintro e w' ⟨rfl, hd⟩))
 go_ret
 exact ⟨rfl, hd⟩

def impl_isImage.f (a0_0 : Int) (a0_1 : Int) (a0_2 : Int) (l0_3 : List Int) : Option Bool := (impl_isShape.f a0_0 a0_1 a0_2).bind fun tz1 => (if tz1 = true then (if (l0_3.length : Int) = (wrap64 ((wrap64 (a0_0 * a0_1)) * a0_2)) then ((impl_areBytes.f l0_3).bind fun tz0 => (some tz0)) else (some false)) else (some false))
set_option maxHeartbeats 8000000 in
set_option maxRecDepth 100000 in
theorem impl_isImage.calls (a0_0 : Int) (a0_1 : Int) (a0_2 : Int) (A0_3 : Option Addr) (c0_3 : Nat) (l0_3 : List Int) (r : Bool) (w : World) (hr0_3 : Kd.C (Kd.int .i64) w A0_3 l0_3.length l0_3) (hc0_3 : l0_3.length ≤ c0_3) (h : impl_isImage.f a0_0 a0_1 a0_2 l0_3 = some r) :
  Calls Try.prog 83 #[.agg #[.int .i64 a0_0, .int .i64 a0_1, .int .i64 a0_2, .slice A0_3 l0_3.length c0_3]] w fun e w' => e = .returned (.bool r) ∧ Below w.heap.size w w' := by
 have hu27 := Try.underlying27
 have HR0_3 := Aside0.mk hr0_3
 have HC0_3 := Aside0.mk hc0_3
 clear hr0_3 hc0_3
 have HB := Aside0.mk (Below.refl w.heap.size w)
 have H : ((impl_isShape.f a0_0 a0_1 a0_2).bind fun tz1 => (if tz1 = true then (if (l0_3.length : Int) = (wrap64 ((wrap64 (a0_0 * a0_1)) * a0_2)) then ((impl_areBytes.f l0_3).bind fun tz0 => (some tz0)) else (some false)) else (some false))) = some r := h
 clear h
 replace H := Option.bind_eq_some_iff.mp H
 obtain ⟨tz1, A20, H⟩ := H
 replace H : (if tz1 = true then (if (l0_3.length : Int) = (wrap64 ((wrap64 (a0_0 * a0_1)) * a0_2)) then ((impl_areBytes.f l0_3).bind fun tz0 => (some tz0)) else (some false)) else (some false)) = some r := H
 have A2 := Aside0.mk A20
 clear A20
 by_cases c3 : tz1 = true
 ·subst c3
  have H1 : (if (l0_3.length : Int) = (wrap64 ((wrap64 (a0_0 * a0_1)) * a0_2)) then ((impl_areBytes.f l0_3).bind fun tz0 => (some tz0)) else (some false)) = some r := by rw [if_pos rfl] at H; exact H
  clear H
  have H := H1
  clear H1
  by_cases c4 : (l0_3.length : Int) = (wrap64 ((wrap64 (a0_0 * a0_1)) * a0_2))
  ·rw [if_pos c4] at H
   have c4b0 : ((l0_3.length : Int) == (wrap64 ((wrap64 (a0_0 * a0_1)) * a0_2))) = true := beq_iff_eq.mpr c4
   have c4b1 : ((l0_3.length : Int) != (wrap64 ((wrap64 (a0_0 * a0_1)) * a0_2))) = false := bne_eq_false_iff_eq.mpr c4
   clear c4
   replace H := Option.bind_eq_some_iff.mp H
   obtain ⟨tz0, A50, H⟩ := H
   replace H : (some tz0) = some r := H
   have A5 := Aside0.mk A50
   clear A50
   obtain rfl := Option.some.inj H
   go_enter Try.func83, Try.ntmps83
   go_wp2_with (first | ((with_reducible refine gate_dst (N := 1) rfl ?_); (try (refine gate_guard (by rfl) ?_; dsimp only)); refine box_event (by rfl) (N := 1) (by rfl) (cs := #[.int .i64 a0_0, .int .i64 a0_1, .int .i64 a0_2, .slice A0_3 l0_3.length c0_3]) (t := 27) (by go_simp; done) ?_; intro gbz0 hg w6 hbox hb; replace HB := Aside0.mk (below_step HB.out hb); have BKz0 := Aside0.mk (hbox); clear hb hbox hg; have hcz7_0 : w6.cell? ⟨gbz0, 0, none⟩ = some (.int .i64 a0_0) := (blk_cell BKz0.out 0).trans rfl; have hcz7_1 : w6.cell? ⟨gbz0, 1, none⟩ = some (.int .i64 a0_1) := (blk_cell BKz0.out 1).trans rfl; have hcz7_2 : w6.cell? ⟨gbz0, 2, none⟩ = some (.int .i64 a0_2) := (blk_cell BKz0.out 2).trans rfl; have hcz7_3 : w6.cell? ⟨gbz0, 3, none⟩ = some (.slice A0_3 l0_3.length c0_3) := (blk_cell BKz0.out 3).trans rfl) | ((with_reducible refine gate_callee (f := 131) rfl ?_); refine goesL_ (some 9) rfl rfl Try.func131 (by kernel_rfl) rfl #[.int .i64 a0_0, .int .i64 a0_1, .int .i64 a0_2] rfl (by (try simp only [List.map_toArray, List.map_cons, List.map_nil]); rfl) ?_; (with_reducible refine (impl_isShape.calls a0_0 a0_1 a0_2 true _ A2.out).mono ?_); rintro e w' ⟨rfl, ⟨nd, rfl⟩⟩; refine ⟨_, rfl, ?_⟩) | (go_at_call 132; (with_reducible refine (impl_areBytes.calls _ _ l0_3 tz0 _ ?side1 ?side2 A5.out).mono ?_); (case side1 => repeat (exact (Kd.C_below HR0_3.out (by repeat (with_reducible first | exact HB.out | apply pw_below_drewN))))); (case side2 => exact HC0_3.out); rintro e w' ⟨rfl, ⟨nd, rfl⟩⟩))
   go_ret
   exact ⟨by rfl, by repeat (with_reducible first | exact HB.out | apply pw_below_drewN)⟩
  rw [if_neg c4] at H
  have c4b0 : ((l0_3.length : Int) == (wrap64 ((wrap64 (a0_0 * a0_1)) * a0_2))) = false := beq_eq_false_iff_ne.mpr c4
  have c4b1 : ((l0_3.length : Int) != (wrap64 ((wrap64 (a0_0 * a0_1)) * a0_2))) = true := bne_iff_ne.mpr c4
  obtain rfl := Option.some.inj H
  go_enter Try.func83, Try.ntmps83
  go_wp2_with (first | ((with_reducible refine gate_dst (N := 1) rfl ?_); (try (refine gate_guard (by rfl) ?_; dsimp only)); refine box_event (by rfl) (N := 1) (by rfl) (cs := #[.int .i64 a0_0, .int .i64 a0_1, .int .i64 a0_2, .slice A0_3 l0_3.length c0_3]) (t := 27) (by go_simp; done) ?_; intro gbz0 hg w8 hbox hb; replace HB := Aside0.mk (below_step HB.out hb); have BKz0 := Aside0.mk (hbox); clear hb hbox hg; have hcz9_0 : w8.cell? ⟨gbz0, 0, none⟩ = some (.int .i64 a0_0) := (blk_cell BKz0.out 0).trans rfl; have hcz9_1 : w8.cell? ⟨gbz0, 1, none⟩ = some (.int .i64 a0_1) := (blk_cell BKz0.out 1).trans rfl; have hcz9_2 : w8.cell? ⟨gbz0, 2, none⟩ = some (.int .i64 a0_2) := (blk_cell BKz0.out 2).trans rfl; have hcz9_3 : w8.cell? ⟨gbz0, 3, none⟩ = some (.slice A0_3 l0_3.length c0_3) := (blk_cell BKz0.out 3).trans rfl) | ((with_reducible refine gate_callee (f := 131) rfl ?_); refine goesL_ (some 9) rfl rfl Try.func131 (by kernel_rfl) rfl #[.int .i64 a0_0, .int .i64 a0_1, .int .i64 a0_2] rfl (by (try simp only [List.map_toArray, List.map_cons, List.map_nil]); rfl) ?_; (with_reducible refine (impl_isShape.calls a0_0 a0_1 a0_2 true _ A2.out).mono ?_); rintro e w' ⟨rfl, ⟨nd, rfl⟩⟩; refine ⟨_, rfl, ?_⟩))
  go_ret
  exact ⟨by rfl, by repeat (with_reducible first | exact HB.out | apply pw_below_drewN)⟩
 replace c3 := Bool.eq_false_iff.mpr c3
 subst c3
 have H1 : (some false) = some r := by rw [if_neg (show ¬ (false = true) by decide)] at H; exact H
 clear H
 have H := H1
 clear H1
 obtain rfl := Option.some.inj H
 go_enter Try.func83, Try.ntmps83
 go_wp2_with (first | ((with_reducible refine gate_dst (N := 1) rfl ?_); (try (refine gate_guard (by rfl) ?_; dsimp only)); refine box_event (by rfl) (N := 1) (by rfl) (cs := #[.int .i64 a0_0, .int .i64 a0_1, .int .i64 a0_2, .slice A0_3 l0_3.length c0_3]) (t := 27) (by go_simp; done) ?_; intro gbz0 hg w10 hbox hb; replace HB := Aside0.mk (below_step HB.out hb); have BKz0 := Aside0.mk (hbox); clear hb hbox hg; have hcz11_0 : w10.cell? ⟨gbz0, 0, none⟩ = some (.int .i64 a0_0) := (blk_cell BKz0.out 0).trans rfl; have hcz11_1 : w10.cell? ⟨gbz0, 1, none⟩ = some (.int .i64 a0_1) := (blk_cell BKz0.out 1).trans rfl; have hcz11_2 : w10.cell? ⟨gbz0, 2, none⟩ = some (.int .i64 a0_2) := (blk_cell BKz0.out 2).trans rfl) | ((with_reducible refine gate_callee (f := 131) rfl ?_); refine goesL_ (some 9) rfl rfl Try.func131 (by kernel_rfl) rfl #[.int .i64 a0_0, .int .i64 a0_1, .int .i64 a0_2] rfl (by (try simp only [List.map_toArray, List.map_cons, List.map_nil]); rfl) ?_; (with_reducible refine (impl_isShape.calls a0_0 a0_1 a0_2 false _ A2.out).mono ?_); rintro e w' ⟨rfl, ⟨nd, rfl⟩⟩; refine ⟨_, rfl, ?_⟩))
 go_ret
 exact ⟨by rfl, by repeat (with_reducible first | exact HB.out | apply pw_below_drewN)⟩

end Go.Proofs.Ytnofkbbcbpjhfaa.Q

namespace Go.Proofs.Ytnofkbbcbpjhfaa.Q
open Go.RowKit Go.Proofs.YtnofkbbcbpjhfaaW.PrintWords Go.Proofs.YtnofkbbcbpjhfaaW.PrintLast Go.Proofs.YtnofkbbcbpjhfaaW.PrintMore
open Go.Proofs.YtnofkbbcbpjhfaaW.PrintWords.Aside0 (mk)
attribute [local go_sem] max2_int min2_int max_two min_two max_three min_three max_four min_four
set_option linter.unusedVariables false
set_option linter.unusedSimpArgs false
def impl_alikeImages.f (a0_0 : Int) (a0_1 : Int) (a0_2 : Int) (l0_3 : List Int) (a1_0 : Int) (a1_1 : Int) (a1_2 : Int) (l1_3 : List Int) : Option Bool := if a0_0 = a1_0 then (if a0_1 = a1_1 then (some (a0_2 == a1_2)) else (some false)) else (some false)
set_option maxHeartbeats 8000000 in
set_option maxRecDepth 100000 in
theorem impl_alikeImages.calls (a0_0 : Int) (a0_1 : Int) (a0_2 : Int) (A0_3 : Option Addr) (c0_3 : Nat) (l0_3 : List Int) (a1_0 : Int) (a1_1 : Int) (a1_2 : Int) (A1_3 : Option Addr) (c1_3 : Nat) (l1_3 : List Int) (r : Bool) (w : World) (hr0_3 : Kd.C (Kd.int .i64) w A0_3 l0_3.length l0_3) (hc0_3 : l0_3.length ≤ c0_3) (hr1_3 : Kd.C (Kd.int .i64) w A1_3 l1_3.length l1_3) (hc1_3 : l1_3.length ≤ c1_3) (h : impl_alikeImages.f a0_0 a0_1 a0_2 l0_3 a1_0 a1_1 a1_2 l1_3 = some r) :
  Calls Try.prog 84 #[.agg #[.int .i64 a0_0, .int .i64 a0_1, .int .i64 a0_2, .slice A0_3 l0_3.length c0_3], .agg #[.int .i64 a1_0, .int .i64 a1_1, .int .i64 a1_2, .slice A1_3 l1_3.length c1_3]] w fun e w' => e = .returned (.bool r) ∧ Below w.heap.size w w' := by
 have hu27 := Try.underlying27
 have HR0_3 := mk hr0_3
 have HC0_3 := mk hc0_3
 clear hr0_3 hc0_3
 have HR1_3 := mk hr1_3
 have HC1_3 := mk hc1_3
 clear hr1_3 hc1_3
 have HB := mk (Below.refl w.heap.size w)
 have H : (if a0_0 = a1_0 then (if a0_1 = a1_1 then (some (a0_2 == a1_2)) else (some false)) else (some false)) = some r := h
 clear h
 by_cases c3 : a0_0 = a1_0
 ·rw [if_pos c3] at H
  have c3b0 : (a0_0 == a1_0) = true := beq_iff_eq.mpr c3
  have c3b1 : (a0_0 != a1_0) = false := bne_eq_false_iff_eq.mpr c3
  clear c3
  by_cases c4 : a0_1 = a1_1
  ·rw [if_pos c4] at H
   have c4b0 : (a0_1 == a1_1) = true := beq_iff_eq.mpr c4
   have c4b1 : (a0_1 != a1_1) = false := bne_eq_false_iff_eq.mpr c4
   clear c4
   obtain rfl := Option.some.inj H
   go_enter Try.func84, Try.ntmps84
   go_wp2_with (first | ((with_reducible refine gate_dst (N := 2) rfl ?_); refine box_event (by rfl) (N := 2) (by rfl) (cs := #[.int .i64 a0_0, .int .i64 a0_1, .int .i64 a0_2, .slice A0_3 l0_3.length c0_3]) (t := 27) (by go_simp; done) ?_; intro gbz0 hg w5 hbox hb; replace HB := mk (below_step HB.out hb); have BKz0 := mk (hbox); clear hb hbox hg) | ((with_reducible refine gate_dst (N := 3) rfl ?_); refine box_event (by rfl) (N := 3) (by rfl) (cs := #[.int .i64 a1_0, .int .i64 a1_1, .int .i64 a1_2, .slice A1_3 l1_3.length c1_3]) (t := 27) (by go_simp; done) ?_; intro gbz1 hg w6 hbox hb; replace BKz0 := mk (blk_below BKz0.out hb); replace HB := mk (below_step HB.out hb); have BKz1 := mk (hbox); clear hb hbox hg; have hcz8_0 : w6.cell? ⟨gbz0, 0, none⟩ = some (.int .i64 a0_0) := (blk_cell BKz0.out 0).trans rfl; have hcz8_1 : w6.cell? ⟨gbz0, 1, none⟩ = some (.int .i64 a0_1) := (blk_cell BKz0.out 1).trans rfl; have hcz8_2 : w6.cell? ⟨gbz0, 2, none⟩ = some (.int .i64 a0_2) := (blk_cell BKz0.out 2).trans rfl; have hcz9_0 : w6.cell? ⟨gbz1, 0, none⟩ = some (.int .i64 a1_0) := (blk_cell BKz1.out 0).trans rfl; have hcz9_1 : w6.cell? ⟨gbz1, 1, none⟩ = some (.int .i64 a1_1) := (blk_cell BKz1.out 1).trans rfl; have hcz9_2 : w6.cell? ⟨gbz1, 2, none⟩ = some (.int .i64 a1_2) := (blk_cell BKz1.out 2).trans rfl))
   go_ret
   exact ⟨by rfl, by exact HB.out⟩
  rw [if_neg c4] at H
  have c4b0 : (a0_1 == a1_1) = false := beq_eq_false_iff_ne.mpr c4
  have c4b1 : (a0_1 != a1_1) = true := bne_iff_ne.mpr c4
  obtain rfl := Option.some.inj H
  go_enter Try.func84, Try.ntmps84
  go_wp2_with (first | ((with_reducible refine gate_dst (N := 2) rfl ?_); refine box_event (by rfl) (N := 2) (by rfl) (cs := #[.int .i64 a0_0, .int .i64 a0_1, .int .i64 a0_2, .slice A0_3 l0_3.length c0_3]) (t := 27) (by go_simp; done) ?_; intro gbz0 hg w10 hbox hb; replace HB := mk (below_step HB.out hb); have BKz0 := mk (hbox); clear hb hbox hg) | ((with_reducible refine gate_dst (N := 3) rfl ?_); refine box_event (by rfl) (N := 3) (by rfl) (cs := #[.int .i64 a1_0, .int .i64 a1_1, .int .i64 a1_2, .slice A1_3 l1_3.length c1_3]) (t := 27) (by go_simp; done) ?_; intro gbz1 hg w11 hbox hb; replace BKz0 := mk (blk_below BKz0.out hb); replace HB := mk (below_step HB.out hb); have BKz1 := mk (hbox); clear hb hbox hg; have hcz13_0 : w11.cell? ⟨gbz0, 0, none⟩ = some (.int .i64 a0_0) := (blk_cell BKz0.out 0).trans rfl; have hcz13_1 : w11.cell? ⟨gbz0, 1, none⟩ = some (.int .i64 a0_1) := (blk_cell BKz0.out 1).trans rfl; have hcz14_0 : w11.cell? ⟨gbz1, 0, none⟩ = some (.int .i64 a1_0) := (blk_cell BKz1.out 0).trans rfl; have hcz14_1 : w11.cell? ⟨gbz1, 1, none⟩ = some (.int .i64 a1_1) := (blk_cell BKz1.out 1).trans rfl))
  go_ret
  exact ⟨by rfl, by exact HB.out⟩
 rw [if_neg c3] at H
 have c3b0 : (a0_0 == a1_0) = false := beq_eq_false_iff_ne.mpr c3
 have c3b1 : (a0_0 != a1_0) = true := bne_iff_ne.mpr c3
 obtain rfl := Option.some.inj H
 go_enter Try.func84, Try.ntmps84
 go_wp2_with (first | ((with_reducible refine gate_dst (N := 2) rfl ?_); refine box_event (by rfl) (N := 2) (by rfl) (cs := #[.int .i64 a0_0, .int .i64 a0_1, .int .i64 a0_2, .slice A0_3 l0_3.length c0_3]) (t := 27) (by go_simp; done) ?_; intro gbz0 hg w15 hbox hb; replace HB := mk (below_step HB.out hb); have BKz0 := mk (hbox); clear hb hbox hg) | ((with_reducible refine gate_dst (N := 3) rfl ?_); refine box_event (by rfl) (N := 3) (by rfl) (cs := #[.int .i64 a1_0, .int .i64 a1_1, .int .i64 a1_2, .slice A1_3 l1_3.length c1_3]) (t := 27) (by go_simp; done) ?_; intro gbz1 hg w16 hbox hb; replace BKz0 := mk (blk_below BKz0.out hb); replace HB := mk (below_step HB.out hb); have BKz1 := mk (hbox); clear hb hbox hg; have hcz18_0 : w16.cell? ⟨gbz0, 0, none⟩ = some (.int .i64 a0_0) := (blk_cell BKz0.out 0).trans rfl; have hcz19_0 : w16.cell? ⟨gbz1, 0, none⟩ = some (.int .i64 a1_0) := (blk_cell BKz1.out 0).trans rfl))
 go_ret
 exact ⟨by rfl, by exact HB.out⟩


mutual
def impl_tileBoxes.l0 : Nat → List S47 → Int → Int → Int → Int → List Int → Option ((List S47))
 | 0, _, _, _, _, _, _ => none
 | k + 1, x3, x4, xz0, xz1, xz2, xz3 => if x4 < xz1 then (impl_tileBoxes.l1 k x3 x4 0 xz0 xz1 xz2 xz3) else (some x3)
def impl_tileBoxes.l1 : Nat → List S47 → Int → Int → Int → Int → Int → List Int → Option ((List S47))
 | 0, _, _, _, _, _, _, _ => none
 | k + 1, x3, x4, x5, xz0, xz1, xz2, xz3 => if x5 < xz0 then (if x3.length < 4398046511104 then (impl_tileBoxes.l1 k (x3 ++ [(⟨x5, x4, mn 4 (wrap64 (xz0 - x5)), mn 4 (wrap64 (xz1 - x4))⟩ : S47)]) x4 (wrap64 (x5 + 4)) xz0 xz1 xz2 xz3) else none) else (impl_tileBoxes.l0 k x3 (wrap64 (x4 + 4)) xz0 xz1 xz2 xz3)
end
def impl_tileBoxes.f (k : Nat) (a0_0 : Int) (a0_1 : Int) (a0_2 : Int) (l0_3 : List Int) : Option ((List S47)) := impl_tileBoxes.l0 k (([] : List S47)) 0 a0_0 a0_1 a0_2 l0_3
theorem impl_tileBoxes.mono_l : ∀ k, (∀ y0 y1 y2 y3 y4 y5, LeO (impl_tileBoxes.l0 k y0 y1 y2 y3 y4 y5) (impl_tileBoxes.l0 (k + 1) y0 y1 y2 y3 y4 y5)) ∧ (∀ y0 y1 y2 y3 y4 y5 y6, LeO (impl_tileBoxes.l1 k y0 y1 y2 y3 y4 y5 y6) (impl_tileBoxes.l1 (k + 1) y0 y1 y2 y3 y4 y5 y6))
 | 0 => ⟨fun _ _ _ _ _ _ r h => by simp [impl_tileBoxes.l0] at h, fun _ _ _ _ _ _ _ r h => by simp [impl_tileBoxes.l1] at h⟩
 | k + 1 => by
  obtain ⟨ih0, ih1⟩ := impl_tileBoxes.mono_l k
  refine ⟨?_, ?_⟩
  ·intro y0 y1 y2 y3 y4 y5
   unfold impl_tileBoxes.l0
   repeat' first | (with_reducible exact ih1 _ _ _ _ _ _ _) | (with_reducible exact LeO.refl _) | (with_reducible refine LeO.ite ?_ ?_)
  intro y0 y1 y2 y3 y4 y5 y6
  unfold impl_tileBoxes.l1
  repeat' first | (with_reducible exact ih0 _ _ _ _ _ _) | (with_reducible exact ih1 _ _ _ _ _ _ _) | (with_reducible exact LeO.refl _) | (with_reducible refine LeO.ite ?_ ?_)
theorem impl_tileBoxes.mono : ∀ a0 a1 a2 a3 k, LeO (impl_tileBoxes.f k a0 a1 a2 a3) (impl_tileBoxes.f (k + 1) a0 a1 a2 a3) := by
 intro a0 a1 a2 a3 k
 obtain ⟨ih0, ih1⟩ := impl_tileBoxes.mono_l k
 unfold impl_tileBoxes.f
 repeat' (with_reducible exact ih0 _ _ _ _ _ _)
set_option maxHeartbeats 8000000 in
set_option maxRecDepth 100000 in
theorem impl_tileBoxes.calls (k : Nat) (a0_0 : Int) (a0_1 : Int) (a0_2 : Int) (A0_3 : Option Addr) (c0_3 : Nat) (l0_3 : List Int) (r : List S47) (w : World) (hr0_3 : Kd.C (Kd.int .i64) w A0_3 l0_3.length l0_3) (hc0_3 : l0_3.length ≤ c0_3) (h : impl_tileBoxes.f k a0_0 a0_1 a0_2 l0_3 = some r) :
  Calls Try.prog 92 #[.agg #[.int .i64 a0_0, .int .i64 a0_1, .int .i64 a0_2, .slice A0_3 l0_3.length c0_3]] w fun e w' => ∃ v0_ : Value, e = .returned v0_ ∧ Kd.R k47 47 w' w.heap.size (fun _ => True) v0_ r ∧ Below w.heap.size w w' := by
 have hu27 := Try.underlying27
 have hu47 := Try.underlying47
 have HR0_3 := mk hr0_3
 have HC0_3 := mk hc0_3
 clear hr0_3 hc0_3
 have HB := mk (Below.refl w.heap.size w)
 have H : (impl_tileBoxes.l0 k (([] : List S47)) 0 a0_0 a0_1 a0_2 l0_3) = some r := h
 clear h
 obtain ⟨yz0, hyz0⟩ : ∃ y_ : List (S47), y_ = (([] : List S47)) := ⟨_, rfl⟩
 replace H : (impl_tileBoxes.l0 k yz0 0 a0_0 a0_1 a0_2 l0_3) = some r := by (rw [hyz0]; with_reducible exact H)
 have Nyz0 := mk hyz0
 clear hyz0
 have H' := mk H
 clear H
 go_enter Try.func92, Try.ntmps92
 go_wp2_with (first | ((with_reducible refine gate_dst (N := 1) rfl ?_); refine box_event (by rfl) (N := 1) (by rfl) (cs := #[.int .i64 a0_0, .int .i64 a0_1, .int .i64 a0_2, .slice A0_3 l0_3.length c0_3]) (t := 27) (by go_simp; done) ?_; intro gbz0 hg w2 hbox hb; have BKz0 := mk (hbox); have GWz0 := mk ((by rw [hg]; exact (below_size HB.out) : w.heap.size ≤ gbz0)); have GEz0 := mk ((by rw [hg]; exact (below_size HB.out) : w.heap.size ≤ gbz0)); replace HB := mk (below_step HB.out hb); clear hb hbox hg) | ((with_reducible refine gate_dst (N := 6) rfl ?_); refine Kd.R_lit k47 _ 47 ?hg (N := 6) ?hd (xs := ([] : List S47)) (inner := []) (ok := fun _ => True) (okp := fun _ => True) ?hr ?hp (fun _ hk => hk) trivial (Below.refl _ _) (Nat.le_refl _) (by simp) ?_; (case hd => rfl); (case hg => rfl); (case hr => (go_simp; done)); (case hp => exact (Reps.none _ _)); intro vz0 w3 ho4 hb hg_ hnew_; clear hg_ hnew_; (rw [← Nyz0.out] at ho4); have HOz0 := mk (Kd.R_lower ho4 (below_size HB.out)); replace BKz0 := mk (blk_below BKz0.out hb); replace HB := mk (below_step HB.out hb); clear hb ho4))
 go_loopg [3, 4] k (fun kq v3 v4 w' => ∃ (x3_1 : List S47) (x4_1 : Int), v4 = .int .i64 x4_1 ∧ Aside0 (impl_tileBoxes.l0 kq x3_1 x4_1 a0_0 a0_1 a0_2 l0_3 = some r) ∧ Aside0 (kq ≤ k) ∧ Aside0 (Kd.R k47 47 w' w.heap.size (fun _ => True) v3 x3_1) ∧ Aside0 (w'.heap[gbz0]? = some (.cells #[.int .i64 a0_0, .int .i64 a0_1, .int .i64 a0_2, (.slice A0_3 l0_3.length c0_3)] 27 (0, 0))) ∧ Aside0 (Below w.heap.size w w'))
 case atStart => exact ⟨(yz0), (0), (by rfl), H', ⟨Nat.le_refl _⟩, HOz0, BKz0, HB⟩
 case round =>
  clear H'
  obtain ⟨x3_1, x4_1, rfl, HA, HK1, HO_3, BKz0, HB⟩ := hrel
  cases gk with
  | zero => exact absurd HA.out (by simp [impl_tileBoxes.l0])
  | succ k1 =>
   have H := HA.out
   clear HA
   simp only [impl_tileBoxes.l0] at H
   by_cases c5 : x4_1 < a0_1
   ·rw [if_pos c5] at H
    have c5b0 : decide (x4_1 < a0_1) = true := decide_eq_true c5
    clear c5
    have H' := mk H
    clear H
    obtain ⟨hcz6_0, hcz6_1, hcz6_2, hcz6_3, hfz6_0, hfz6_1, hfz6_2, hfz6_3⟩ := c4 BKz0.out
    go_wp2
    go_loopg [3, 5] k1 (fun kq v3 v5 w' => ∃ (x3_2 : List S47) (x5_2 : Int), v5 = .int .i64 x5_2 ∧ Aside0 (impl_tileBoxes.l1 kq x3_2 x4_1 x5_2 a0_0 a0_1 a0_2 l0_3 = some r) ∧ Aside0 (kq ≤ k1) ∧ Aside0 (Kd.R k47 47 w' w.heap.size (fun _ => True) v3 x3_2) ∧ Aside0 (w'.heap[gbz0]? = some (.cells #[.int .i64 a0_0, .int .i64 a0_1, .int .i64 a0_2, (.slice A0_3 l0_3.length c0_3)] 27 (0, 0))) ∧ Aside0 (Below w.heap.size w w'))
    case atStart => exact ⟨(x3_1), (0), (by rfl), H', ⟨Nat.le_refl _⟩, HO_3, BKz0, HB⟩
    case round =>
     clear H'
     obtain ⟨x3_2, x5_2, rfl, HA, HK2, HO_3, BKz0, HB⟩ := hrel
     cases gk with
     | zero => exact absurd HA.out (by simp [impl_tileBoxes.l1])
     | succ k2 =>
      have H := HA.out
      clear HA
      simp only [impl_tileBoxes.l1] at H
      by_cases c7 : x5_2 < a0_0
      ·rw [if_pos c7] at H
       have c7b0 : decide (x5_2 < a0_0) = true := decide_eq_true c7
       clear c7
       obtain ⟨ji8, hji8⟩ : ∃ j_ : Int, (mn 4 (wrap64 (a0_0 - x5_2))) = j_ := ⟨_, rfl⟩
       replace H : (if x3_2.length < 4398046511104 then (impl_tileBoxes.l1 k2 (x3_2 ++ [(⟨x5_2, x4_1, ji8, mn 4 (wrap64 (a0_1 - x4_1))⟩ : S47)]) x4_1 (wrap64 (x5_2 + 4)) a0_0 a0_1 a0_2 l0_3) else none) = some r := by (rw [hji8] at H; exact H)
       have hji8_ : (if (wrap64 (a0_0 - x5_2)) < 4 then (wrap64 (a0_0 - x5_2)) else 4) = ji8 := hji8
       obtain ⟨ji9, hji9⟩ : ∃ j_ : Int, (mn 4 (wrap64 (a0_1 - x4_1))) = j_ := ⟨_, rfl⟩
       replace H : (if x3_2.length < 4398046511104 then (impl_tileBoxes.l1 k2 (x3_2 ++ [(⟨x5_2, x4_1, ji8, ji9⟩ : S47)]) x4_1 (wrap64 (x5_2 + 4)) a0_0 a0_1 a0_2 l0_3) else none) = some r := by (rw [hji9] at H; exact H)
       have hji9_ : (if (wrap64 (a0_1 - x4_1)) < 4 then (wrap64 (a0_1 - x4_1)) else 4) = ji9 := hji9
       by_cases c10 : x3_2.length < 4398046511104
       ·rw [if_pos c10] at H
        have LMc10 := mk c10
        clear c10
        obtain ⟨yz1, hyz1⟩ : ∃ y_ : List (S47), y_ = (x3_2 ++ [(⟨x5_2, x4_1, ji8, ji9⟩ : S47)]) := ⟨_, rfl⟩
        replace H : (impl_tileBoxes.l1 k2 yz1 x4_1 (wrap64 (x5_2 + 4)) a0_0 a0_1 a0_2 l0_3) = some r := by (rw [hyz1]; with_reducible exact H)
        have Nyz1 := mk hyz1
        clear hyz1
        have H' := mk H
        clear H
        obtain ⟨hcz11_0, hcz11_1, hcz11_2, hcz11_3, hfz11_0, hfz11_1, hfz11_2, hfz11_3⟩ := c4 BKz0.out
        go_wp2_with (first | ((with_reducible refine gate_builtin (b := .append) (xs := #[.tmp 19, .tmp 33]) rfl ?_); at_builtin; refine Kd.R_append k47 (w0 := w) w.heap.size rfl (.tmp 19) (.tmp 33) 36 47 (.agg #[(.int .i64 0), (.int .i64 0), (.int .i64 0), (.int .i64 0)]) 32 rfl Try.underlying36 info47 rfl (by decide) (by omega) u3 x3_2 (⟨x5_2, x4_1, ji8, ji9⟩ : S47) [.int .i64 x5_2, .int .i64 x4_1, .int .i64 ji8, .int .i64 ji9] (fun _ => True) (fun _ => False) rfl rfl ?aP (fun _ hk => hk.elim) ?aF ?aO ?aB ?aS ?aL ?_; (case aP => exact k47_mkM _ _ _ (⟨x5_2, x4_1, ji8, ji9⟩ : S47)); (case aB => exact HB.out); (case aF => exact (fun _ _ => trivial)); (case aO => exact HO_3.out); (case aS => exact (below_size HB.out)); (case aL => have := LMc10.out; omega); intro vz1 w12 ho hb hg hat; rw [← Nyz1.out] at ho; have n0_ := mk (blk_grown (g := gbz0) (o := .cells #[.int .i64 a0_0, .int .i64 a0_1, .int .i64 a0_2, .slice A0_3 l0_3.length c0_3] 27 (0, 0)) BKz0.out hg (Kd.R_ne HO_3.out BKz0.out (by decide))); have n1_ := mk (hb); have n2_ := mk (ho); clear BKz0; clear HB; clear HO_3; have BKz0 := n0_; have HB := n1_; have HOz1 := n2_; clear ho hb hg hat))
        go_roundg k2
        case measure => have := HK1.out; have := HK2.out; omega
        case rel => exact ⟨(yz1), (wrap64 (x5_2 + 4)), (by rfl), H', ⟨by have := HK1.out; have := HK2.out; omega⟩, HOz1, BKz0, HB⟩
       rw [if_neg c10] at H
       exact absurd H (by simp)
      rw [if_neg c7] at H
      have c7b0 : decide (x5_2 < a0_0) = false := decide_eq_false c7
      clear c7
      have H' := mk H
      clear H
      obtain ⟨hcz13_0, hcz13_1, hcz13_2, hcz13_3, hfz13_0, hfz13_1, hfz13_2, hfz13_3⟩ := c4 BKz0.out
      go_wp2
      go_roundg k2
      case measure => have := HK1.out; have := HK2.out; omega
      case rel => exact ⟨(x3_2), (wrap64 (x4_1 + 4)), (by rfl), H', ⟨by have := HK1.out; have := HK2.out; omega⟩, HO_3, BKz0, HB⟩
   rw [if_neg c5] at H
   have c5b0 : decide (x4_1 < a0_1) = false := decide_eq_false c5
   clear c5
   obtain rfl := Option.some.inj H
   obtain ⟨hcz14_0, hcz14_1, hcz14_2, hcz14_3, hfz14_0, hfz14_1, hfz14_2, hfz14_3⟩ := c4 BKz0.out
   go_wp2
   go_ret
   exact ⟨_, by rfl, by exact HO_3.out, by exact HB.out⟩

end Go.Proofs.Ytnofkbbcbpjhfaa.Q

namespace Go.Proofs.Ytnofkbbcbpjhfaa.Q
open Go.RowKit Go.Proofs.YtnofkbbcbpjhfaaW.PrintWords Go.Proofs.YtnofkbbcbpjhfaaW.PrintLast Go.Proofs.YtnofkbbcbpjhfaaW.PrintMore
attribute [local go_sem] max2_int min2_int max_two min_two max_three min_three max_four min_four
set_option linter.unusedVariables false
set_option linter.unusedSimpArgs false
def impl_isMode.f (a0 : Int) : Option (Bool) := if a0 ≥ 0 then (some (decide (a0 ≤ 4))) else (some false)
set_option maxHeartbeats 8000000 in
set_option maxRecDepth 100000 in
theorem impl_isMode.calls (a0 : Int) (r : Bool) (w : World) (h : impl_isMode.f a0 = some r) :
  Calls Try.prog 141 #[.int .i64 a0] w fun e w' => e = .returned (.bool r) ∧ Drawn0 w w' := by
 have H : (if a0 ≥ 0 then (some (decide (a0 ≤ 4))) else (some false)) = some r := h
 clear h
 by_cases c2 : a0 ≥ 0
 ·rw [if_pos c2] at H
  have c2b0 : decide (0 ≤ a0) = true := decide_eq_true c2
  clear c2
  obtain rfl := Option.some.inj H
  go_enter Try.func141, Try.ntmps141
  go_wp2
  go_ret
  exact ⟨by first | rfl | (simp; done) | (simp [*]; done), by repeat (first | exact Drawn0.refl _ | apply Drawn0.step)⟩
 ·rw [if_neg c2] at H
  have c2b0 : decide (0 ≤ a0) = false := decide_eq_false c2
  clear c2
  obtain rfl := Option.some.inj H
  go_enter Try.func141, Try.ntmps141
  go_wp2
  go_ret
  exact ⟨by first | rfl | (simp; done) | (simp [*]; done), by repeat (first | exact Drawn0.refl _ | apply Drawn0.step)⟩

end Go.Proofs.Ytnofkbbcbpjhfaa.Q

namespace Go.Proofs.Ytnofkbbcbpjhfaa.Q
open Go.RowKit Go.Proofs.YtnofkbbcbpjhfaaW.PrintWords Go.Proofs.YtnofkbbcbpjhfaaW.PrintLast Go.Proofs.YtnofkbbcbpjhfaaW.PrintMore
open Go.Proofs.YtnofkbbcbpjhfaaW.PrintWords.Aside0 (mk)
attribute [local go_sem] max2_int min2_int max_two min_two max_three min_three max_four min_four
set_option linter.unusedVariables false
set_option linter.unusedSimpArgs false
def impl_isLayer.f (a0_0 : Int) (a0_1 : Int) (a0_2 : Int) (l0_3 : List Int) (a0_4 : Int) (a0_5 : Int) (a0_6 : Int) (a0_7 : Int) (a0_8 : Bool) (a1 : Int) : Option Bool := (impl_isImage.f a0_0 a0_1 a0_2 l0_3).bind fun tz1 => (if tz1 = true then (if a0_2 = a1 then (if a0_4 ≥ (-16) then (if a0_4 ≤ 16 then (if a0_5 ≥ (-16) then (if a0_5 ≤ 16 then ((impl_isMode.f a0_6).bind fun tz0 => (if tz0 = true then (if a0_7 ≥ 0 then (some (decide (a0_7 ≤ 255))) else (some false)) else (some false))) else (some false)) else (some false)) else (some false)) else (some false)) else (some false)) else (some false))
set_option maxHeartbeats 8000000 in
set_option maxRecDepth 100000 in
theorem impl_isLayer.calls (a0_0 : Int) (a0_1 : Int) (a0_2 : Int) (A0_3 : Option Addr) (c0_3 : Nat) (l0_3 : List Int) (a0_4 : Int) (a0_5 : Int) (a0_6 : Int) (a0_7 : Int) (a0_8 : Bool) (a1 : Int) (r : Bool) (w : World) (hr0_3 : Kd.C (Kd.int .i64) w A0_3 l0_3.length l0_3) (hc0_3 : l0_3.length ≤ c0_3) (h : impl_isLayer.f a0_0 a0_1 a0_2 l0_3 a0_4 a0_5 a0_6 a0_7 a0_8 a1 = some r) :
  Calls Try.prog 103 #[.agg #[.int .i64 a0_0, .int .i64 a0_1, .int .i64 a0_2, .slice A0_3 l0_3.length c0_3, .int .i64 a0_4, .int .i64 a0_5, .int .i64 a0_6, .int .i64 a0_7, .bool a0_8], .int .i64 a1] w fun e w' => e = .returned (.bool r) ∧ Below w.heap.size w w' := by
 have hu55 := Try.underlying55
 have hu27 := Try.underlying27
 have HR0_3 := mk hr0_3
 have HC0_3 := mk hc0_3
 clear hr0_3 hc0_3
 have HB := mk (Below.refl w.heap.size w)
 have H : ((impl_isImage.f a0_0 a0_1 a0_2 l0_3).bind fun tz1 => (if tz1 = true then (if a0_2 = a1 then (if a0_4 ≥ (-16) then (if a0_4 ≤ 16 then (if a0_5 ≥ (-16) then (if a0_5 ≤ 16 then ((impl_isMode.f a0_6).bind fun tz0 => (if tz0 = true then (if a0_7 ≥ 0 then (some (decide (a0_7 ≤ 255))) else (some false)) else (some false))) else (some false)) else (some false)) else (some false)) else (some false)) else (some false)) else (some false))) = some r := h
 clear h
 replace H := Option.bind_eq_some_iff.mp H
 obtain ⟨tz1, A30, H⟩ := H
 replace H : (if tz1 = true then (if a0_2 = a1 then (if a0_4 ≥ (-16) then (if a0_4 ≤ 16 then (if a0_5 ≥ (-16) then (if a0_5 ≤ 16 then ((impl_isMode.f a0_6).bind fun tz0 => (if tz0 = true then (if a0_7 ≥ 0 then (some (decide (a0_7 ≤ 255))) else (some false)) else (some false))) else (some false)) else (some false)) else (some false)) else (some false)) else (some false)) else (some false)) = some r := H
 have A3 := mk A30
 clear A30
 by_cases c4 : tz1 = true
 ·subst c4
  have H1 : (if a0_2 = a1 then (if a0_4 ≥ (-16) then (if a0_4 ≤ 16 then (if a0_5 ≥ (-16) then (if a0_5 ≤ 16 then ((impl_isMode.f a0_6).bind fun tz0 => (if tz0 = true then (if a0_7 ≥ 0 then (some (decide (a0_7 ≤ 255))) else (some false)) else (some false))) else (some false)) else (some false)) else (some false)) else (some false)) else (some false)) = some r := by rw [if_pos rfl] at H; exact H
  clear H
  have H := H1
  clear H1
  by_cases c5 : a0_2 = a1
  ·rw [if_pos c5] at H
   have c5b0 : (a0_2 == a1) = true := beq_iff_eq.mpr c5
   have c5b1 : (a0_2 != a1) = false := bne_eq_false_iff_eq.mpr c5
   clear c5
   by_cases c6 : a0_4 ≥ (-16)
   ·rw [if_pos c6] at H
    have c6b0 : decide ((-16) ≤ a0_4) = true := decide_eq_true c6
    clear c6
    by_cases c7 : a0_4 ≤ 16
    ·rw [if_pos c7] at H
     have c7b0 : decide (a0_4 ≤ 16) = true := decide_eq_true c7
     clear c7
     by_cases c8 : a0_5 ≥ (-16)
     ·rw [if_pos c8] at H
      have c8b0 : decide ((-16) ≤ a0_5) = true := decide_eq_true c8
      clear c8
      by_cases c9 : a0_5 ≤ 16
      ·rw [if_pos c9] at H
       have c9b0 : decide (a0_5 ≤ 16) = true := decide_eq_true c9
       clear c9
       replace H := Option.bind_eq_some_iff.mp H
       obtain ⟨tz0, A100, H⟩ := H
       replace H : (if tz0 = true then (if a0_7 ≥ 0 then (some (decide (a0_7 ≤ 255))) else (some false)) else (some false)) = some r := H
       have A10 := mk A100
       clear A100
       by_cases c11 : tz0 = true
       ·subst c11
        have H1 : (if a0_7 ≥ 0 then (some (decide (a0_7 ≤ 255))) else (some false)) = some r := by rw [if_pos rfl] at H; exact H
        clear H
        have H := H1
        clear H1
        by_cases c12 : a0_7 ≥ 0
        ·rw [if_pos c12] at H
         have c12b0 : decide (0 ≤ a0_7) = true := decide_eq_true c12
         clear c12
         obtain rfl := Option.some.inj H
         go_enter Try.func103, Try.ntmps103
         go_wp2_with (first | ((with_reducible refine gate_dst (N := 2) rfl ?_); refine box_event (by rfl) (N := 2) (by rfl) (cs := #[.int .i64 a0_0, .int .i64 a0_1, .int .i64 a0_2, .slice A0_3 l0_3.length c0_3, .int .i64 a0_4, .int .i64 a0_5, .int .i64 a0_6, .int .i64 a0_7, .bool a0_8]) (t := 55) (by go_simp; done) ?_; intro gbz0 hg w13 hbox hb; have n0_ := mk (below_step HB.out hb); have n1_ := mk (hbox); have n2_ := mk ((by rw [hg]; exact (below_size HB.out) : w.heap.size ≤ gbz0)); have n3_ := mk ((by rw [hg]; exact (below_size HB.out) : w.heap.size ≤ gbz0)); clear HB; have HB := n0_; have BKz0 := n1_; have GWz0 := n2_; have GEz0 := n3_; clear n0_ n1_ n2_ n3_; clear hb hbox hg; obtain ⟨hcz14_0, hcz14_1, hcz14_2, hcz14_3, hcz14_4, hcz14_5, hcz14_6, hcz14_7, hcz14_8, hfz14_0, hfz14_1, hfz14_2, hfz14_3, hfz14_4, hfz14_5, hfz14_6, hfz14_7, -⟩ := c9 BKz0.out; have hfz14_8 := blk_frozen BKz0.out 8) | ((with_reducible refine gate_callee (f := 83) rfl ?_); refine goesL_ (some 7) rfl rfl Try.func83 (by kernel_rfl) rfl #[.agg #[.int .i64 a0_0, .int .i64 a0_1, .int .i64 a0_2, .slice A0_3 l0_3.length c0_3]] rfl (by (try simp only [List.map_toArray, List.map_cons, List.map_nil]); rfl) ?_; (with_reducible refine (impl_isImage.calls a0_0 a0_1 a0_2 _ _ l0_3 true _ ?side1 ?side2 A3.out).mono ?_); (case side1 => repeat (exact (Kd.C_below HR0_3.out HB.out))); (case side2 => exact HC0_3.out); rintro e w15 ⟨rfl, hb⟩; refine ⟨_, rfl, ?_⟩; have n0_ := mk (blk_below BKz0.out hb); have n1_ := mk (below_step HB.out hb); clear BKz0; clear HB; have BKz0 := n0_; have HB := n1_; clear n0_ n1_; (try clear hb); obtain ⟨hcz16_0, hcz16_1, hcz16_2, hcz16_3, hcz16_4, hcz16_5, hcz16_6, hcz16_7, hcz16_8, hfz16_0, hfz16_1, hfz16_2, hfz16_3, hfz16_4, hfz16_5, hfz16_6, hfz16_7, -⟩ := c9 BKz0.out; have hfz16_8 := blk_frozen BKz0.out 8) | (go_at_call 141; (with_reducible refine (impl_isMode.calls a0_6 true _ A10.out).mono ?_); rintro e w' ⟨rfl, ⟨nd, rfl⟩⟩))
         go_ret
         exact ⟨by rfl, by repeat (with_reducible first | exact HB.out | apply pw_below_drewN)⟩
        rw [if_neg c12] at H
        have c12b0 : decide (0 ≤ a0_7) = false := decide_eq_false c12
        clear c12
        obtain rfl := Option.some.inj H
        go_enter Try.func103, Try.ntmps103
        go_wp2_with (first | ((with_reducible refine gate_dst (N := 2) rfl ?_); refine box_event (by rfl) (N := 2) (by rfl) (cs := #[.int .i64 a0_0, .int .i64 a0_1, .int .i64 a0_2, .slice A0_3 l0_3.length c0_3, .int .i64 a0_4, .int .i64 a0_5, .int .i64 a0_6, .int .i64 a0_7, .bool a0_8]) (t := 55) (by go_simp; done) ?_; intro gbz0 hg w17 hbox hb; have n0_ := mk (below_step HB.out hb); have n1_ := mk (hbox); have n2_ := mk ((by rw [hg]; exact (below_size HB.out) : w.heap.size ≤ gbz0)); have n3_ := mk ((by rw [hg]; exact (below_size HB.out) : w.heap.size ≤ gbz0)); clear HB; have HB := n0_; have BKz0 := n1_; have GWz0 := n2_; have GEz0 := n3_; clear n0_ n1_ n2_ n3_; clear hb hbox hg; obtain ⟨hcz18_0, hcz18_1, hcz18_2, hcz18_3, hcz18_4, hcz18_5, hcz18_6, hcz18_7, hcz18_8, hfz18_0, hfz18_1, hfz18_2, hfz18_3, hfz18_4, hfz18_5, hfz18_6, hfz18_7, -⟩ := c9 BKz0.out; have hfz18_8 := blk_frozen BKz0.out 8) | ((with_reducible refine gate_callee (f := 83) rfl ?_); refine goesL_ (some 7) rfl rfl Try.func83 (by kernel_rfl) rfl #[.agg #[.int .i64 a0_0, .int .i64 a0_1, .int .i64 a0_2, .slice A0_3 l0_3.length c0_3]] rfl (by (try simp only [List.map_toArray, List.map_cons, List.map_nil]); rfl) ?_; (with_reducible refine (impl_isImage.calls a0_0 a0_1 a0_2 _ _ l0_3 true _ ?side1 ?side2 A3.out).mono ?_); (case side1 => repeat (exact (Kd.C_below HR0_3.out HB.out))); (case side2 => exact HC0_3.out); rintro e w19 ⟨rfl, hb⟩; refine ⟨_, rfl, ?_⟩; have n0_ := mk (blk_below BKz0.out hb); have n1_ := mk (below_step HB.out hb); clear BKz0; clear HB; have BKz0 := n0_; have HB := n1_; clear n0_ n1_; (try clear hb); obtain ⟨hcz20_0, hcz20_1, hcz20_2, hcz20_3, hcz20_4, hcz20_5, hcz20_6, hcz20_7, hcz20_8, hfz20_0, hfz20_1, hfz20_2, hfz20_3, hfz20_4, hfz20_5, hfz20_6, hfz20_7, -⟩ := c9 BKz0.out; have hfz20_8 := blk_frozen BKz0.out 8) | (go_at_call 141; (with_reducible refine (impl_isMode.calls a0_6 true _ A10.out).mono ?_); rintro e w' ⟨rfl, ⟨nd, rfl⟩⟩))
        go_ret
        exact ⟨by rfl, by repeat (with_reducible first | exact HB.out | apply pw_below_drewN)⟩
       replace c11 := Bool.eq_false_iff.mpr c11
       subst c11
       have H1 : (some false) = some r := by rw [if_neg (show ¬ (false = true) by decide)] at H; exact H
       clear H
       have H := H1
       clear H1
       obtain rfl := Option.some.inj H
       go_enter Try.func103, Try.ntmps103
       go_wp2_with (first | ((with_reducible refine gate_dst (N := 2) rfl ?_); refine box_event (by rfl) (N := 2) (by rfl) (cs := #[.int .i64 a0_0, .int .i64 a0_1, .int .i64 a0_2, .slice A0_3 l0_3.length c0_3, .int .i64 a0_4, .int .i64 a0_5, .int .i64 a0_6, .int .i64 a0_7, .bool a0_8]) (t := 55) (by go_simp; done) ?_; intro gbz0 hg w21 hbox hb; have n0_ := mk (below_step HB.out hb); have n1_ := mk (hbox); have n2_ := mk ((by rw [hg]; exact (below_size HB.out) : w.heap.size ≤ gbz0)); have n3_ := mk ((by rw [hg]; exact (below_size HB.out) : w.heap.size ≤ gbz0)); clear HB; have HB := n0_; have BKz0 := n1_; have GWz0 := n2_; have GEz0 := n3_; clear n0_ n1_ n2_ n3_; clear hb hbox hg; obtain ⟨hcz22_0, hcz22_1, hcz22_2, hcz22_3, hcz22_4, hcz22_5, hcz22_6, hcz22_7, hcz22_8, hfz22_0, hfz22_1, hfz22_2, hfz22_3, hfz22_4, hfz22_5, hfz22_6, hfz22_7, -⟩ := c9 BKz0.out; have hfz22_8 := blk_frozen BKz0.out 8) | ((with_reducible refine gate_callee (f := 83) rfl ?_); refine goesL_ (some 7) rfl rfl Try.func83 (by kernel_rfl) rfl #[.agg #[.int .i64 a0_0, .int .i64 a0_1, .int .i64 a0_2, .slice A0_3 l0_3.length c0_3]] rfl (by (try simp only [List.map_toArray, List.map_cons, List.map_nil]); rfl) ?_; (with_reducible refine (impl_isImage.calls a0_0 a0_1 a0_2 _ _ l0_3 true _ ?side1 ?side2 A3.out).mono ?_); (case side1 => repeat (exact (Kd.C_below HR0_3.out HB.out))); (case side2 => exact HC0_3.out); rintro e w23 ⟨rfl, hb⟩; refine ⟨_, rfl, ?_⟩; have n0_ := mk (blk_below BKz0.out hb); have n1_ := mk (below_step HB.out hb); clear BKz0; clear HB; have BKz0 := n0_; have HB := n1_; clear n0_ n1_; (try clear hb); obtain ⟨hcz24_0, hcz24_1, hcz24_2, hcz24_3, hcz24_4, hcz24_5, hcz24_6, hcz24_7, hcz24_8, hfz24_0, hfz24_1, hfz24_2, hfz24_3, hfz24_4, hfz24_5, hfz24_6, hfz24_7, -⟩ := c9 BKz0.out; have hfz24_8 := blk_frozen BKz0.out 8) | (go_at_call 141; (with_reducible refine (impl_isMode.calls a0_6 false _ A10.out).mono ?_); rintro e w' ⟨rfl, ⟨nd, rfl⟩⟩))
       go_ret
       exact ⟨by rfl, by repeat (with_reducible first | exact HB.out | apply pw_below_drewN)⟩
      rw [if_neg c9] at H
      have c9b0 : decide (a0_5 ≤ 16) = false := decide_eq_false c9
      clear c9
      obtain rfl := Option.some.inj H
      go_enter Try.func103, Try.ntmps103
      go_wp2_with (first | ((with_reducible refine gate_dst (N := 2) rfl ?_); refine box_event (by rfl) (N := 2) (by rfl) (cs := #[.int .i64 a0_0, .int .i64 a0_1, .int .i64 a0_2, .slice A0_3 l0_3.length c0_3, .int .i64 a0_4, .int .i64 a0_5, .int .i64 a0_6, .int .i64 a0_7, .bool a0_8]) (t := 55) (by go_simp; done) ?_; intro gbz0 hg w25 hbox hb; have n0_ := mk (below_step HB.out hb); have n1_ := mk (hbox); have n2_ := mk ((by rw [hg]; exact (below_size HB.out) : w.heap.size ≤ gbz0)); have n3_ := mk ((by rw [hg]; exact (below_size HB.out) : w.heap.size ≤ gbz0)); clear HB; have HB := n0_; have BKz0 := n1_; have GWz0 := n2_; have GEz0 := n3_; clear n0_ n1_ n2_ n3_; clear hb hbox hg; obtain ⟨hcz26_0, hcz26_1, hcz26_2, hcz26_3, hcz26_4, hcz26_5, hcz26_6, hcz26_7, hcz26_8, hfz26_0, hfz26_1, hfz26_2, hfz26_3, hfz26_4, hfz26_5, hfz26_6, hfz26_7, -⟩ := c9 BKz0.out; have hfz26_8 := blk_frozen BKz0.out 8) | ((with_reducible refine gate_callee (f := 83) rfl ?_); refine goesL_ (some 7) rfl rfl Try.func83 (by kernel_rfl) rfl #[.agg #[.int .i64 a0_0, .int .i64 a0_1, .int .i64 a0_2, .slice A0_3 l0_3.length c0_3]] rfl (by (try simp only [List.map_toArray, List.map_cons, List.map_nil]); rfl) ?_; (with_reducible refine (impl_isImage.calls a0_0 a0_1 a0_2 _ _ l0_3 true _ ?side1 ?side2 A3.out).mono ?_); (case side1 => repeat (exact (Kd.C_below HR0_3.out HB.out))); (case side2 => exact HC0_3.out); rintro e w27 ⟨rfl, hb⟩; refine ⟨_, rfl, ?_⟩; have n0_ := mk (blk_below BKz0.out hb); have n1_ := mk (below_step HB.out hb); clear BKz0; clear HB; have BKz0 := n0_; have HB := n1_; clear n0_ n1_; (try clear hb); obtain ⟨hcz28_0, hcz28_1, hcz28_2, hcz28_3, hcz28_4, hcz28_5, hcz28_6, hcz28_7, hcz28_8, hfz28_0, hfz28_1, hfz28_2, hfz28_3, hfz28_4, hfz28_5, hfz28_6, hfz28_7, hfz28_8⟩ := c9 BKz0.out))
      go_ret
      exact ⟨by rfl, by exact HB.out⟩
     rw [if_neg c8] at H
     have c8b0 : decide ((-16) ≤ a0_5) = false := decide_eq_false c8
     clear c8
     obtain rfl := Option.some.inj H
     go_enter Try.func103, Try.ntmps103
     go_wp2_with (first | ((with_reducible refine gate_dst (N := 2) rfl ?_); refine box_event (by rfl) (N := 2) (by rfl) (cs := #[.int .i64 a0_0, .int .i64 a0_1, .int .i64 a0_2, .slice A0_3 l0_3.length c0_3, .int .i64 a0_4, .int .i64 a0_5, .int .i64 a0_6, .int .i64 a0_7, .bool a0_8]) (t := 55) (by go_simp; done) ?_; intro gbz0 hg w29 hbox hb; have n0_ := mk (below_step HB.out hb); have n1_ := mk (hbox); have n2_ := mk ((by rw [hg]; exact (below_size HB.out) : w.heap.size ≤ gbz0)); have n3_ := mk ((by rw [hg]; exact (below_size HB.out) : w.heap.size ≤ gbz0)); clear HB; have HB := n0_; have BKz0 := n1_; have GWz0 := n2_; have GEz0 := n3_; clear n0_ n1_ n2_ n3_; clear hb hbox hg; obtain ⟨hcz30_0, hcz30_1, hcz30_2, hcz30_3, hcz30_4, hcz30_5, hcz30_6, hcz30_7, hcz30_8, hfz30_0, hfz30_1, hfz30_2, hfz30_3, hfz30_4, hfz30_5, hfz30_6, hfz30_7, -⟩ := c9 BKz0.out; have hfz30_8 := blk_frozen BKz0.out 8) | ((with_reducible refine gate_callee (f := 83) rfl ?_); refine goesL_ (some 7) rfl rfl Try.func83 (by kernel_rfl) rfl #[.agg #[.int .i64 a0_0, .int .i64 a0_1, .int .i64 a0_2, .slice A0_3 l0_3.length c0_3]] rfl (by (try simp only [List.map_toArray, List.map_cons, List.map_nil]); rfl) ?_; (with_reducible refine (impl_isImage.calls a0_0 a0_1 a0_2 _ _ l0_3 true _ ?side1 ?side2 A3.out).mono ?_); (case side1 => repeat (exact (Kd.C_below HR0_3.out HB.out))); (case side2 => exact HC0_3.out); rintro e w31 ⟨rfl, hb⟩; refine ⟨_, rfl, ?_⟩; have n0_ := mk (blk_below BKz0.out hb); have n1_ := mk (below_step HB.out hb); clear BKz0; clear HB; have BKz0 := n0_; have HB := n1_; clear n0_ n1_; (try clear hb); obtain ⟨hcz32_0, hcz32_1, hcz32_2, hcz32_3, hcz32_4, hcz32_5, hcz32_6, hcz32_7, hcz32_8, hfz32_0, hfz32_1, hfz32_2, hfz32_3, hfz32_4, hfz32_5, hfz32_6, hfz32_7, hfz32_8⟩ := c9 BKz0.out))
     go_ret
     exact ⟨by rfl, by exact HB.out⟩
    rw [if_neg c7] at H
    have c7b0 : decide (a0_4 ≤ 16) = false := decide_eq_false c7
    clear c7
    obtain rfl := Option.some.inj H
    go_enter Try.func103, Try.ntmps103
    go_wp2_with (first | ((with_reducible refine gate_dst (N := 2) rfl ?_); refine box_event (by rfl) (N := 2) (by rfl) (cs := #[.int .i64 a0_0, .int .i64 a0_1, .int .i64 a0_2, .slice A0_3 l0_3.length c0_3, .int .i64 a0_4, .int .i64 a0_5, .int .i64 a0_6, .int .i64 a0_7, .bool a0_8]) (t := 55) (by go_simp; done) ?_; intro gbz0 hg w33 hbox hb; have n0_ := mk (below_step HB.out hb); have n1_ := mk (hbox); have n2_ := mk ((by rw [hg]; exact (below_size HB.out) : w.heap.size ≤ gbz0)); have n3_ := mk ((by rw [hg]; exact (below_size HB.out) : w.heap.size ≤ gbz0)); clear HB; have HB := n0_; have BKz0 := n1_; have GWz0 := n2_; have GEz0 := n3_; clear n0_ n1_ n2_ n3_; clear hb hbox hg; obtain ⟨hcz34_0, hcz34_1, hcz34_2, hcz34_3, hcz34_4, hcz34_5, hcz34_6, hcz34_7, hcz34_8, hfz34_0, hfz34_1, hfz34_2, hfz34_3, hfz34_4, hfz34_5, hfz34_6, hfz34_7, -⟩ := c9 BKz0.out; have hfz34_8 := blk_frozen BKz0.out 8) | ((with_reducible refine gate_callee (f := 83) rfl ?_); refine goesL_ (some 7) rfl rfl Try.func83 (by kernel_rfl) rfl #[.agg #[.int .i64 a0_0, .int .i64 a0_1, .int .i64 a0_2, .slice A0_3 l0_3.length c0_3]] rfl (by (try simp only [List.map_toArray, List.map_cons, List.map_nil]); rfl) ?_; (with_reducible refine (impl_isImage.calls a0_0 a0_1 a0_2 _ _ l0_3 true _ ?side1 ?side2 A3.out).mono ?_); (case side1 => repeat (exact (Kd.C_below HR0_3.out HB.out))); (case side2 => exact HC0_3.out); rintro e w35 ⟨rfl, hb⟩; refine ⟨_, rfl, ?_⟩; have n0_ := mk (blk_below BKz0.out hb); have n1_ := mk (below_step HB.out hb); clear BKz0; clear HB; have BKz0 := n0_; have HB := n1_; clear n0_ n1_; (try clear hb); obtain ⟨hcz36_0, hcz36_1, hcz36_2, hcz36_3, hcz36_4, hcz36_5, hcz36_6, hcz36_7, hcz36_8, hfz36_0, hfz36_1, hfz36_2, hfz36_3, hfz36_4, hfz36_5, hfz36_6, hfz36_7, hfz36_8⟩ := c9 BKz0.out))
    go_ret
    exact ⟨by rfl, by exact HB.out⟩
   rw [if_neg c6] at H
   have c6b0 : decide ((-16) ≤ a0_4) = false := decide_eq_false c6
   clear c6
   obtain rfl := Option.some.inj H
   go_enter Try.func103, Try.ntmps103
   go_wp2_with (first | ((with_reducible refine gate_dst (N := 2) rfl ?_); refine box_event (by rfl) (N := 2) (by rfl) (cs := #[.int .i64 a0_0, .int .i64 a0_1, .int .i64 a0_2, .slice A0_3 l0_3.length c0_3, .int .i64 a0_4, .int .i64 a0_5, .int .i64 a0_6, .int .i64 a0_7, .bool a0_8]) (t := 55) (by go_simp; done) ?_; intro gbz0 hg w37 hbox hb; have n0_ := mk (below_step HB.out hb); have n1_ := mk (hbox); have n2_ := mk ((by rw [hg]; exact (below_size HB.out) : w.heap.size ≤ gbz0)); have n3_ := mk ((by rw [hg]; exact (below_size HB.out) : w.heap.size ≤ gbz0)); clear HB; have HB := n0_; have BKz0 := n1_; have GWz0 := n2_; have GEz0 := n3_; clear n0_ n1_ n2_ n3_; clear hb hbox hg; obtain ⟨hcz38_0, hcz38_1, hcz38_2, hcz38_3, hcz38_4, hcz38_5, hcz38_6, hcz38_7, hcz38_8, hfz38_0, hfz38_1, hfz38_2, hfz38_3, hfz38_4, hfz38_5, hfz38_6, hfz38_7, -⟩ := c9 BKz0.out; have hfz38_8 := blk_frozen BKz0.out 8) | ((with_reducible refine gate_callee (f := 83) rfl ?_); refine goesL_ (some 7) rfl rfl Try.func83 (by kernel_rfl) rfl #[.agg #[.int .i64 a0_0, .int .i64 a0_1, .int .i64 a0_2, .slice A0_3 l0_3.length c0_3]] rfl (by (try simp only [List.map_toArray, List.map_cons, List.map_nil]); rfl) ?_; (with_reducible refine (impl_isImage.calls a0_0 a0_1 a0_2 _ _ l0_3 true _ ?side1 ?side2 A3.out).mono ?_); (case side1 => repeat (exact (Kd.C_below HR0_3.out HB.out))); (case side2 => exact HC0_3.out); rintro e w39 ⟨rfl, hb⟩; refine ⟨_, rfl, ?_⟩; have n0_ := mk (blk_below BKz0.out hb); have n1_ := mk (below_step HB.out hb); clear BKz0; clear HB; have BKz0 := n0_; have HB := n1_; clear n0_ n1_; (try clear hb); obtain ⟨hcz40_0, hcz40_1, hcz40_2, hcz40_3, hcz40_4, hcz40_5, hcz40_6, hcz40_7, hcz40_8, hfz40_0, hfz40_1, hfz40_2, hfz40_3, hfz40_4, hfz40_5, hfz40_6, hfz40_7, hfz40_8⟩ := c9 BKz0.out))
   go_ret
   exact ⟨by rfl, by exact HB.out⟩
  rw [if_neg c5] at H
  have c5b0 : (a0_2 == a1) = false := beq_eq_false_iff_ne.mpr c5
  have c5b1 : (a0_2 != a1) = true := bne_iff_ne.mpr c5
  obtain rfl := Option.some.inj H
  go_enter Try.func103, Try.ntmps103
  go_wp2_with (first | ((with_reducible refine gate_dst (N := 2) rfl ?_); refine box_event (by rfl) (N := 2) (by rfl) (cs := #[.int .i64 a0_0, .int .i64 a0_1, .int .i64 a0_2, .slice A0_3 l0_3.length c0_3, .int .i64 a0_4, .int .i64 a0_5, .int .i64 a0_6, .int .i64 a0_7, .bool a0_8]) (t := 55) (by go_simp; done) ?_; intro gbz0 hg w41 hbox hb; have n0_ := mk (below_step HB.out hb); have n1_ := mk (hbox); have n2_ := mk ((by rw [hg]; exact (below_size HB.out) : w.heap.size ≤ gbz0)); have n3_ := mk ((by rw [hg]; exact (below_size HB.out) : w.heap.size ≤ gbz0)); clear HB; have HB := n0_; have BKz0 := n1_; have GWz0 := n2_; have GEz0 := n3_; clear n0_ n1_ n2_ n3_; clear hb hbox hg; obtain ⟨hcz42_0, hcz42_1, hcz42_2, hcz42_3, hcz42_4, hcz42_5, hcz42_6, hcz42_7, hcz42_8, hfz42_0, hfz42_1, hfz42_2, hfz42_3, hfz42_4, hfz42_5, hfz42_6, hfz42_7, -⟩ := c9 BKz0.out; have hfz42_8 := blk_frozen BKz0.out 8) | ((with_reducible refine gate_callee (f := 83) rfl ?_); refine goesL_ (some 7) rfl rfl Try.func83 (by kernel_rfl) rfl #[.agg #[.int .i64 a0_0, .int .i64 a0_1, .int .i64 a0_2, .slice A0_3 l0_3.length c0_3]] rfl (by (try simp only [List.map_toArray, List.map_cons, List.map_nil]); rfl) ?_; (with_reducible refine (impl_isImage.calls a0_0 a0_1 a0_2 _ _ l0_3 true _ ?side1 ?side2 A3.out).mono ?_); (case side1 => repeat (exact (Kd.C_below HR0_3.out HB.out))); (case side2 => exact HC0_3.out); rintro e w43 ⟨rfl, hb⟩; refine ⟨_, rfl, ?_⟩; have n0_ := mk (blk_below BKz0.out hb); have n1_ := mk (below_step HB.out hb); clear BKz0; clear HB; have BKz0 := n0_; have HB := n1_; clear n0_ n1_; (try clear hb); obtain ⟨hcz44_0, hcz44_1, hcz44_2, hcz44_3, hcz44_4, hcz44_5, hcz44_6, hcz44_7, hcz44_8, hfz44_0, hfz44_1, hfz44_2, hfz44_3, hfz44_4, hfz44_5, hfz44_6, hfz44_7, hfz44_8⟩ := c9 BKz0.out))
  go_ret
  exact ⟨by rfl, by exact HB.out⟩
 replace c4 := Bool.eq_false_iff.mpr c4
 subst c4
 have H1 : (some false) = some r := by rw [if_neg (show ¬ (false = true) by decide)] at H; exact H
 clear H
 have H := H1
 clear H1
 obtain rfl := Option.some.inj H
 go_enter Try.func103, Try.ntmps103
 go_wp2_with (first | ((with_reducible refine gate_dst (N := 2) rfl ?_); refine box_event (by rfl) (N := 2) (by rfl) (cs := #[.int .i64 a0_0, .int .i64 a0_1, .int .i64 a0_2, .slice A0_3 l0_3.length c0_3, .int .i64 a0_4, .int .i64 a0_5, .int .i64 a0_6, .int .i64 a0_7, .bool a0_8]) (t := 55) (by go_simp; done) ?_; intro gbz0 hg w45 hbox hb; have n0_ := mk (below_step HB.out hb); have n1_ := mk (hbox); have n2_ := mk ((by rw [hg]; exact (below_size HB.out) : w.heap.size ≤ gbz0)); have n3_ := mk ((by rw [hg]; exact (below_size HB.out) : w.heap.size ≤ gbz0)); clear HB; have HB := n0_; have BKz0 := n1_; have GWz0 := n2_; have GEz0 := n3_; clear n0_ n1_ n2_ n3_; clear hb hbox hg; obtain ⟨hcz46_0, hcz46_1, hcz46_2, hcz46_3, hcz46_4, hcz46_5, hcz46_6, hcz46_7, hcz46_8, hfz46_0, hfz46_1, hfz46_2, hfz46_3, hfz46_4, hfz46_5, hfz46_6, hfz46_7, -⟩ := c9 BKz0.out; have hfz46_8 := blk_frozen BKz0.out 8) | ((with_reducible refine gate_callee (f := 83) rfl ?_); refine goesL_ (some 7) rfl rfl Try.func83 (by kernel_rfl) rfl #[.agg #[.int .i64 a0_0, .int .i64 a0_1, .int .i64 a0_2, .slice A0_3 l0_3.length c0_3]] rfl (by (try simp only [List.map_toArray, List.map_cons, List.map_nil]); rfl) ?_; (with_reducible refine (impl_isImage.calls a0_0 a0_1 a0_2 _ _ l0_3 false _ ?side1 ?side2 A3.out).mono ?_); (case side1 => repeat (exact (Kd.C_below HR0_3.out HB.out))); (case side2 => exact HC0_3.out); rintro e w47 ⟨rfl, hb⟩; refine ⟨_, rfl, ?_⟩; have n0_ := mk (blk_below BKz0.out hb); have n1_ := mk (below_step HB.out hb); clear BKz0; clear HB; have BKz0 := n0_; have HB := n1_; clear n0_ n1_; (try clear hb)))
 go_ret
 exact ⟨by rfl, by exact HB.out⟩

end Go.Proofs.Ytnofkbbcbpjhfaa.Q

/- A part of a row of one's own is overwritten by a copy; loads of images and numbers in a region that draws its order. -/
namespace Go.Proofs.Ytnofkbbcbpjhfaa.Q
open Go.RowKit Go.Proofs.YtnofkbbcbpjhfaaW.PrintWords Go.Proofs.YtnofkbbcbpjhfaaW.PrintLast Go.Proofs.YtnofkbbcbpjhfaaW.PrintMore
attribute [local go_sem] max2_int min2_int max_two min_two max_three min_three max_four min_four
set_option linter.unusedVariables false
set_option linter.unusedSimpArgs false

theorem yields_img {ops : Array Oper} {S : World → Prop} {op : Oper} {a : Act} (hw : Region.wanted op (yielded ops a.tmps) = true) (x : Operand) (ho : op.op = .load 27 x)
    (B : Nat) (hx : a.eval x = .pointer (some ⟨B, 0, none⟩)) (cs : Array Value) (hS : ∀ w, S w → w.heap[B]? = some (.cells cs 27 (0, 0))) (hn : cs.size = 4) : YieldsIf Try.prog ops S op (.agg cs) a :=
  .inl ⟨hw, fun w hw' => by
    unfold execOp
    simp only [ho, hx, Instr.loadAt, Instr.sureAddr, Sem.run_bind, Sem.run_pure, Result.andThen_ok, run_loadVar_row w B 27 27 cs (0, 0) _ (hS w hw') Try.underlying27 rfl (by rw [hn]; kernel_rfl)]⟩
theorem fn_runs {P : Program} {oi : Oper} {a : Act} {w : World} {x : Operand} {ws : Array Operand} {ts : Array TypeId} (q : Nat) (lb : Array Value) (eg : ∀ args W, (callFunc q args).run P W = .ok (.enter q args) W)
    (hop : oi.op = .call { callee := .value x, args := ws, argTypes := ts }) (hx : a.eval x = .func (.func q) #[] lb) (args : Array Value) (hargs : ws.map a.eval ++ lb = args) : (execOp a.eval oi).run P w = .ok (.enter q args) w := by
  unfold execOp
  simp [hop, resolve, hx, Deferred.ofValue, invoke, hargs, eg]
/-- a row of numbers, a part of it overwritten -/
def laidOver (d : List Int) (j : Nat) (ys : List Int) : List Int := d.take j ++ (ys ++ d.drop (j + ys.length))
theorem laidOver_length (d : List Int) (j : Nat) (ys : List Int) (h : j + ys.length ≤ d.length) : (laidOver d j ys).length = d.length := by
  unfold laidOver
  rw [List.length_append, List.length_append, List.length_take, List.length_drop]
  omega
theorem take_three {α : Type} (A B C : List α) (L : Nat) (h : A.length + B.length ≤ L) : (A ++ (B ++ C)).take L = A ++ (B ++ C.take (L - (A.length + B.length))) := by
  rw [List.take_append, List.take_of_length_le (by omega), List.take_append, List.take_of_length_le (by omega), Nat.sub_sub]
theorem copyAt_wp {o : Oper} {a : Act} {W : World} {K : Act → World → Prop} {Q : Exit → Act → World → Prop} (s x : Operand) (t t' : TypeId)
    (ho : o.op = .call { callee := .builtin .copy, args := #[s, x], argTypes := #[t, t'] }) (ht : Try.prog.underlying t = some (.slice 3))
    (g cap off : Nat) (xs ys : List Int) (A : Option Addr) (m c n c1 base : Nat) (ok : Nat → Prop) (hs : a.eval s = .slice (some ⟨g, off, none⟩) m c1) (hx : a.eval x = .slice A m c) (hn : n = xs.length)
    (HO : Kd.R (Kd.int .i64) 3 W base ok (.slice (some ⟨g, 0, none⟩) n cap) xs) (HR : Kd.C (Kd.int .i64) W A m ys) (hfit : off + m ≤ n)
    (h : ∀ w1, Kd.R (Kd.int .i64) 3 w1 base ok (.slice (some ⟨g, 0, none⟩) n cap) (laidOver xs off ys) → base ≤ g → W.grownBy w1 (some g) → K (a.put o.dst (.int .i64 (m : Int))) w1) :
    Oper.wp Try.prog o a W K Q := by
  subst hn
  have hR := Kd.reads_of_C (enc := Value.int .i64) (d := (0 : Int)) HR
  have hm : ys.length = m := hR.1
  have hown := Kd.own_of_R HO
  have hinfo : (Try.prog.info? 3).map (·.size) = some 1 := by kernel_rfl
  have fin : ∀ w1, (Builtin.copy_ #[t, t'] o.type #[.slice (some ⟨g, off, none⟩) m c1, .slice A m c]).run Try.prog W = .ok (goInt (m : Int)) w1 → Kd.R (Kd.int .i64) 3 w1 base ok (.slice (some ⟨g, 0, none⟩) xs.length cap) (laidOver xs off ys) → base ≤ g → W.grownBy w1 (some g) → Oper.wp Try.prog o a W K Q := by
    intro w1 hr hrow hbg hg
    unfold Oper.wp execOp
    simp only [ho, resolve, invoke, builtin, Sem.run_bind, Sem.run_pure, Result.andThen_ok, List.map_toArray, List.map_cons, List.map_nil, hs, hx, hr]
    exact h w1 hrow hbg hg
  rcases hown.2 with ⟨e0, _⟩ | ⟨g', cap', cur, hv, hb, hh, hnc, hcm, hcs, htake⟩
  · cases e0
  · injection hv with hv1 hv2 hv3
    injection hv1 with hv1
    injection hv1 with hv1 _ _
    subst hv1
    subst hv3
    rcases Nat.eq_zero_or_pos m with h0 | hp
    · obtain rfl : ys = [] := List.eq_nil_of_length_eq_zero (by omega)
      refine fin W ?_ (by unfold laidOver; rw [List.length_nil, Nat.add_zero, List.nil_append, List.take_append_drop]; exact HO) hb (World.grownBy.refl W _)
      rw [h0]
      exact run_copy_none W t t' o.type 3 (some ⟨g, off, none⟩) A 0 c1 0 c ht hinfo rfl
    · obtain ⟨ad, hA, hc⟩ := hR.2.2 (by omega)
      have hcs1 : cur.size = cap := by omega
      have hkl : (encs (Value.int .i64) ys).length = m := by rw [encs_length, hm]
      have hsrc : ∀ j u, (encs (Value.int .i64) ys)[j]? = some u → W.cell? (ad.add j) = some u := by
        intro j u hu
        have hj : j < ys.length := by
          rcases Nat.lt_or_ge j ys.length with h | h
          · exact h
          · rw [List.getElem?_eq_none (by rw [encs_length]; exact h)] at hu
            cases hu
        rw [encs_get (d := (0 : Int)) _ j hj] at hu
        rw [hc j (by omega), ← hu]
      have hr := run_copy_cells (P := Try.prog) W t t' o.type 3 g off m c1 ad m c (encs (Value.int .i64) ys) ht hinfo (by rw [hkl]; simp) hsrc
        (fun j hj => by rw [cell_of_row W g _ cur 3 (0, 0) hh]; simp; omega) (fun j _ => blk_frozen hh _) (by intro u hu; simp only [encs, List.mem_map] at hu; obtain ⟨q, _, rfl⟩ := hu; rfl)
      obtain ⟨cur', h3, h4, h5⟩ := setCells_row (encs (Value.int .i64) ys) off W cur hh (by rw [hkl]; omega)
      obtain ⟨s1, s2, s3, s4⟩ := setCells_same g (encs (Value.int .i64) ys) off W
      refine fin _ (by rw [hA, hr, hkl]) (Kd.R_of_own ?_ HO.1) hb ⟨s1, s2, s3, by rw [s4]; exact Nat.le_refl _, fun k _ hk => setCells_far _ _ k (fun he => hk (by rw [he]))⟩
      have hln := laidOver_length xs off ys (by omega)
      rw [hln]
      refine ⟨by rw [encs_length, hln, Nat.mul_one], .inr ⟨g, cap, cur', rfl, hb, h3, hnc, hcm, by rw [h4, hcs], ?_⟩⟩
      have htk : cur.toList.take xs.length = encs (Value.int .i64) xs := by rw [← htake, Nat.mul_one]
      rw [h5, hkl, Nat.mul_one]
      unfold laidOver
      rw [encs_append, encs_append]
      have e1 : encs (Value.int .i64) (xs.take off) = (cur.toList.take off) := by
        have : encs (Value.int .i64) (xs.take off) = (encs (Value.int .i64) xs).take off := by simp [encs, List.map_take]
        rw [this, ← htk, List.take_take, Nat.min_eq_left (by omega)]
      have e2 : encs (Value.int .i64) (xs.drop (off + ys.length)) = (cur.toList.drop (off + m)).take (xs.length - (off + m)) := by
        have : encs (Value.int .i64) (xs.drop (off + ys.length)) = (encs (Value.int .i64) xs).drop (off + ys.length) := by simp [encs, List.map_drop]
        rw [this, ← htk, hm, List.drop_take]
      rw [e1, e2]
      have e3 : (cur.toList.take off).length = off := by rw [List.length_take, Array.length_toList, Nat.min_eq_left (by omega)]
      first | rw [List.append_assoc, take_three _ _ _ _ (by rw [e3, hkl]; omega), e3, hkl] | rw [take_three _ _ _ _ (by rw [e3, hkl]; omega), e3, hkl]
def rowD (px : Nat → Nat → List Int) (a y : Nat) : List Int := (List.range a).flatMap (fun x => px x y)
def imgD (px : Nat → Nat → List Int) (a b : Nat) : List Int := (List.range b).flatMap (fun y => rowD px a y)
theorem rowD_succ (px : Nat → Nat → List Int) (a y : Nat) : rowD px (a + 1) y = rowD px a y ++ px a y := by unfold rowD; rw [List.range_succ, List.flatMap_append]; simp
theorem imgD_succ (px : Nat → Nat → List Int) (a b : Nat) : imgD px a (b + 1) = imgD px a b ++ rowD px a b := by unfold imgD; rw [List.range_succ, List.flatMap_append]; simp
end Go.Proofs.Ytnofkbbcbpjhfaa.Q

/- Plain words: numbers that do not wrap, elements of lists, rounds that are enough. -/
namespace Go.Proofs.Ytnofkbbcbpjhfaa.Pure
open Go.RowKit Go.Proofs.Ytnofkbbcbpjhfaa.Q Go.Proofs.YtnofkbbcbpjhfaaW.PrintWords Go.Proofs.YtnofkbbcbpjhfaaW.PrintLast Go.Proofs.YtnofkbbcbpjhfaaW.PrintMore
set_option linter.unusedVariables false
set_option linter.unusedSimpArgs false

theorem w64 {x : Int} (h1 : -9223372036854775808 ≤ x) (h2 : x ≤ 9223372036854775807) : wrap64 x = x := by unfold wrap64; omega
theorem w64n (n : Nat) (h : n < 9223372036854775807) : wrap64 ((n : Int) + 1) = ((n + 1 : Nat) : Int) := by unfold wrap64; omega
theorem rd_nat (l : List Int) (i : Nat) (h : i < l.length) : rd l (i : Int) = l[i] := by simp [rd, h]
theorem tdiv_nn (a b : Int) (h : 0 ≤ a) : Int.tdiv a b = a / b := Int.tdiv_eq_ediv_of_nonneg h
theorem tmod_nn (a b : Int) (h : 0 ≤ a) : Int.tmod a b = a % b := Int.tmod_eq_emod_of_nonneg h
theorem ev_const {α : Type} {o : Option α} {r : α} (h : o = some r) : Ev (fun _ => o) r := ⟨0, fun _ _ => h⟩
theorem ev_bind {α β : Type} {g : Nat → Option α} {f : Nat → α → Option β} {a : α} {r : β} (h : Ev g a) (k : Ev (fun n => f n a) r) : Ev (fun n => (g n).bind (f n)) r := Ev.bind h k
theorem ev_now {α β : Type} {o : Option α} {f : Nat → α → Option β} {a : α} {r : β} (h : o = some a) (k : Ev (fun n => f n a) r) : Ev (fun n => o.bind (f n)) r := Ev.bind (ev_const h) k
theorem ev_pos {α : Type} {c : Prop} [Decidable c] {f g : Nat → Option α} {r : α} (h : c) (k : Ev f r) : Ev (fun n => if c then f n else g n) r := by
 simpa [h] using k
theorem ev_neg {α : Type} {c : Prop} [Decidable c] {f g : Nat → Option α} {r : α} (h : ¬ c) (k : Ev g r) : Ev (fun n => if c then f n else g n) r := by
 simpa [h] using k
theorem mn_def (a b : Int) : mn a b = min a b := by unfold mn; omega
theorem mx_def (a b : Int) : mx a b = max a b := by unfold mx; omega
theorem ev_up {σ ρ : Type} (n : Nat) (L : Nat → Nat → σ → Option ρ) (Inv : Nat → σ → Prop) (F : Nat → σ → ρ)
  (step : ∀ i s, i < n → Inv i s → Ev (fun k => L k i s) (F i s) ∨ ∃ s', (∀ k, L (k + 1) i s = L k (i + 1) s') ∧ Inv (i + 1) s' ∧ F (i + 1) s' = F i s)
  (last : ∀ s, Inv n s → Ev (fun k => L k n s) (F n s)) :
  ∀ d i s, i + d = n → Inv i s → Ev (fun k => L k i s) (F i s) := by
 intro d
 induction d with
 | zero =>
  intro i s hi hinv
  have : i = n := by omega
  subst this
  exact last s hinv
 | succ d ih =>
  intro i s hi hinv
  rcases step i s (by omega) hinv with h | ⟨s', h, hi', hF⟩
  ·exact h
  ·rw [← hF]
   exact Ev.step h (ih (i + 1) s' (by omega) hi')
theorem ev_up2 {σ ρ : Type} (n : Nat) (L : Nat → Nat → σ → Option ρ) (Inv : Nat → σ → Prop) (F : Nat → σ → ρ)
  (step : ∀ i s, i < n → Inv i s → Ev (fun k => L k i s) (F i s) ∨ ∃ s', (∀ r, Ev (fun k => L k (i + 1) s') r → Ev (fun k => L k i s) r) ∧ Inv (i + 1) s' ∧ F (i + 1) s' = F i s)
  (last : ∀ s, Inv n s → Ev (fun k => L k n s) (F n s)) :
  ∀ d i s, i + d = n → Inv i s → Ev (fun k => L k i s) (F i s) := by
 intro d
 induction d with
 | zero =>
  intro i s hi hinv
  have : i = n := by omega
  subst this
  exact last s hinv
 | succ d ih =>
  intro i s hi hinv
  rcases step i s (by omega) hinv with h | ⟨s', h, hi', hF⟩
  ·exact h
  ·rw [← hF]
   exact h _ (ih (i + 1) s' (by omega) hi')
theorem ev_val {α : Type} {g : Nat → Option α} {r r' : α} (h : Ev g r) (e : r = r') : Ev g r' := e ▸ h
theorem take_set {α : Type} (s : List α) (i : Nat) (c : α) (h : i < s.length) : (s.set i c).take (i + 1) = s.take i ++ [c] := by
 rw [List.take_succ_eq_append_getElem (by simpa using h), List.take_set_of_le (Nat.le_refl i)]
 simp
end Go.Proofs.Ytnofkbbcbpjhfaa.Pure

/- (impl.Image).at: the numbers of a pixel, in the memory of the image. -/
namespace Go.Proofs.Ytnofkbbcbpjhfaa.Q
open Go.RowKit Go.Proofs.YtnofkbbcbpjhfaaW.PrintWords Go.Proofs.YtnofkbbcbpjhfaaW.PrintLast Go.Proofs.YtnofkbbcbpjhfaaW.PrintMore
attribute [local go_sem] max2_int min2_int max_two min_two max_three min_three max_four min_four
set_option linter.unusedVariables false
set_option linter.unusedSimpArgs false
open Go.Proofs.Ytnofkbbcbpjhfaa.Pure

def pixT (d : List Int) (j p : Int) : List Int := (d.take (wrap64 (j + p) : Int).toNat).drop (j : Int).toNat
set_option maxHeartbeats 1600000 in
set_option maxRecDepth 100000 in
theorem at_callsX (a b p : Int) (A : Option Addr) (c n : Nat) (x y j : Int) (hc : n ≤ c) (hj : wrap64 ((wrap64 ((wrap64 (y * a)) + x)) * p) = j) (h0 : 0 ≤ j) (h1 : j ≤ wrap64 (j + p)) (h2 : wrap64 (j + p) ≤ (n : Int)) (A' : Option Addr) (hA : A' = if c = j.toNat then A else A.map (·.add (j.toNat * 1))) (w : World) :
  Calls Try.prog 109 #[.agg #[.int .i64 a, .int .i64 b, .int .i64 p, .slice A n c], .int .i64 x, .int .i64 y] w fun e w' => e = .returned (.slice A' ((wrap64 (j + p)).toNat - j.toNat) (c - j.toNat)) ∧ Below w.heap.size w w' := by
 obtain ⟨i0, hi0, _, hsz, _⟩ := info_parts info3
 have hcut := cut_mid (P := Try.prog) 22 3 .i64 .i64 Try.underlying22 hi0 1 hsz A n c j (wrap64 (j + p)) h0 h1 h2 hc
 rw [← hA] at hcut
 clear hA
 have hu := Try.underlying27
 have hjw : (IntKind.i64.wrap ((wrap64 ((wrap64 (y * a)) + x)) * p)) = j := (i64_w _).trans hj
 have d0 : decide (0 ≤ j) = true := decide_eq_true h0
 have d1 : decide (j ≤ wrap64 (j + p)) = true := decide_eq_true h1
 have d2 : decide (wrap64 (j + p) ≤ (n : Int)) = true := decide_eq_true h2
 have e0 := eq_true h0
 have e1 := eq_true h1
 have e2 := eq_true h2
 clear hi0 hsz hj
 go_enter Try.func109, Try.ntmps109
 go_wp2_with (first | ((with_reducible refine gate_dst (N := 3) rfl ?_); refine box_event ?hg (N := 3) ?hd (cs := #[.int .i64 a, .int .i64 b, .int .i64 p, .slice A n c]) (t := 27) ?hr ?_; (case hd => rfl); (case hg => rfl); (case hr => first | (go_simp; done) | (go_simp; rfl)); intro gb hg w9 hbox hb; have HB := Aside0.mk (below_step (Below.refl w.heap.size w) hb); have BK := Aside0.mk hbox; have hcz0 : w9.cell? ⟨gb, 0, none⟩ = some (.int .i64 a) := (blk_cell BK.out 0).trans rfl; have hcz1 : w9.cell? ⟨gb, 1, none⟩ = some (.int .i64 b) := (blk_cell BK.out 1).trans rfl; have hcz2 : w9.cell? ⟨gb, 2, none⟩ = some (.int .i64 p) := (blk_cell BK.out 2).trans rfl; have hcz3 : w9.cell? ⟨gb, 3, none⟩ = some (.slice A n c) := (blk_cell BK.out 3).trans rfl; clear hbox hb hg))
 go_ret
 exact ⟨rfl, HB.out⟩
theorem pixT_length (d : List Int) (j p : Int) (h2 : wrap64 (j + p) ≤ (d.length : Int)) : (pixT d j p).length = (wrap64 (j + p)).toNat - j.toNat := by
 unfold pixT
 rw [List.length_drop, List.length_take, Nat.min_eq_left (by omega)]
theorem pixT_C {w : World} {A : Option Addr} {c : Nat} {d : List Int} {j p : Int} (h : Kd.C (Kd.int .i64) w A d.length d) (hc : d.length ≤ c) (h1 : j ≤ wrap64 (j + p)) (h2 : wrap64 (j + p) ≤ (d.length : Int)) :
  Kd.C (Kd.int .i64) w (if c = j.toNat then A else A.map (·.add (j.toNat * 1))) (pixT d j p).length (pixT d j p) := Kd.C_mid h (by omega) (by omega) hc
theorem at_calls (a b p : Int) (A : Option Addr) (c : Nat) (d : List Int) (x y j : Int) (hc : d.length ≤ c) (hj : wrap64 ((wrap64 ((wrap64 (y * a)) + x)) * p) = j) (h0 : 0 ≤ j) (h1 : j ≤ wrap64 (j + p)) (h2 : wrap64 (j + p) ≤ (d.length : Int)) :
  ∃ (A' : Option Addr) (c' : Nat), (pixT d j p).length ≤ c' ∧ ∀ w : World, Kd.C (Kd.int .i64) w A d.length d → (Kd.C (Kd.int .i64) w A' (pixT d j p).length (pixT d j p) ∧
   Calls Try.prog 109 #[.agg #[.int .i64 a, .int .i64 b, .int .i64 p, .slice A d.length c], .int .i64 x, .int .i64 y] w fun e w' => e = .returned (.slice A' (pixT d j p).length c') ∧ Below w.heap.size w w') := by
 refine ⟨_, c - j.toNat, by rw [pixT_length d j p h2]; omega, fun w hr => ⟨pixT_C hr hc h1 h2, ?_⟩⟩
 rw [pixT_length d j p h2]
 exact at_callsX a b p A c d.length x y j hc hj h0 h1 h2 _ rfl w
end Go.Proofs.Ytnofkbbcbpjhfaa.Q

namespace Go.Proofs.Ytnofkbbcbpjhfaa.Q
open Go.RowKit Go.Proofs.YtnofkbbcbpjhfaaW.PrintWords Go.Proofs.YtnofkbbcbpjhfaaW.PrintLast Go.Proofs.YtnofkbbcbpjhfaaW.PrintMore
attribute [local go_sem] max2_int min2_int max_two min_two max_three min_three max_four min_four
set_option linter.unusedVariables false
set_option linter.unusedSimpArgs false
def laws_szIntS.f (l0 : List Int) (a1 : Int) : Option (Int) := if (wrap64 (a1 - (l0.length : Int))) < 0 then (some (-1)) else (some (wrap64 (a1 - (l0.length : Int))))
set_option maxHeartbeats 8000000 in
set_option maxRecDepth 100000 in
theorem laws_szIntS.calls (A0 : Option Addr) (c0 : Nat) (l0 : List Int) (a1 : Int) (r : Int) (w : World) (hr0 : Kd.C (Kd.int .i64) w A0 l0.length l0) (hc0 : l0.length ≤ c0) (h : laws_szIntS.f l0 a1 = some r) :
  Calls Try.prog 80 #[.slice A0 l0.length c0, .int .i64 a1] w fun e w' => e = .returned (.int .i64 r) ∧ Drawn0 w w' := by
 have HR0 := Aside0.mk hr0
 have HC0 := Aside0.mk hc0
 clear hr0 hc0
 have H : (if (wrap64 (a1 - (l0.length : Int))) < 0 then (some (-1)) else (some (wrap64 (a1 - (l0.length : Int))))) = some r := h
 clear h
 by_cases c3 : (wrap64 (a1 - (l0.length : Int))) < 0
 ·rw [if_pos c3] at H
  have c3b0 : decide ((wrap64 (a1 - (l0.length : Int))) < 0) = true := decide_eq_true c3
  clear c3
  obtain rfl := Option.some.inj H
  go_enter Try.func80, Try.ntmps80
  go_wp2
  go_ret
  exact ⟨by first | rfl | (simp; done) | (simp [*]; done), by repeat (first | exact Drawn0.refl _ | apply Drawn0.step)⟩
 ·rw [if_neg c3] at H
  have c3b0 : decide ((wrap64 (a1 - (l0.length : Int))) < 0) = false := decide_eq_false c3
  clear c3
  obtain rfl := Option.some.inj H
  go_enter Try.func80, Try.ntmps80
  go_wp2
  go_ret
  exact ⟨by first | rfl | (simp; done) | (simp [*]; done), by repeat (first | exact Drawn0.refl _ | apply Drawn0.step)⟩

end Go.Proofs.Ytnofkbbcbpjhfaa.Q

namespace Go.Proofs.Ytnofkbbcbpjhfaa.Q
open Go.RowKit Go.Proofs.YtnofkbbcbpjhfaaW.PrintWords Go.Proofs.YtnofkbbcbpjhfaaW.PrintLast Go.Proofs.YtnofkbbcbpjhfaaW.PrintMore
open Go.Proofs.YtnofkbbcbpjhfaaW.PrintWords.Aside0 (mk)
attribute [local go_sem] max2_int min2_int max_two min_two max_three min_three max_four min_four
set_option linter.unusedVariables false
set_option linter.unusedSimpArgs false
def laws_szImage.f (a0_0 : Int) (a0_1 : Int) (a0_2 : Int) (l0_3 : List Int) (a1 : Int) : Option (Int) := (laws_szIntS.f l0_3 a1).bind fun t21002 => (if t21002 < 0 then (some (-1)) else (some t21002))
set_option maxHeartbeats 8000000 in
set_option maxRecDepth 100000 in
theorem laws_szImage.calls (a0_0 : Int) (a0_1 : Int) (a0_2 : Int) (A0_3 : Option Addr) (c0_3 : Nat) (l0_3 : List Int) (a1 : Int) (r : Int) (w : World) (hr0_3 : Kd.C (Kd.int .i64) w A0_3 l0_3.length l0_3) (hc0_3 : l0_3.length ≤ c0_3) (h : laws_szImage.f a0_0 a0_1 a0_2 l0_3 a1 = some r) :
  Calls Try.prog 20 #[.agg #[.int .i64 a0_0, .int .i64 a0_1, .int .i64 a0_2, .slice A0_3 l0_3.length c0_3], .int .i64 a1] w fun e w' => e = .returned (.int .i64 r) ∧ Below w.heap.size w w' := by
 have hu24 := Try.underlying24
 have HR0_3 := mk hr0_3
 have HC0_3 := mk hc0_3
 clear hr0_3 hc0_3
 have HB := mk (Below.refl w.heap.size w)
 have H : ((laws_szIntS.f l0_3 a1).bind fun t21002 => (if t21002 < 0 then (some (-1)) else (some t21002))) = some r := h
 clear h
 replace H := Option.bind_eq_some_iff.mp H
 obtain ⟨t21002, A30, H⟩ := H
 replace H : (if t21002 < 0 then (some (-1)) else (some t21002)) = some r := H
 have A3 := mk A30
 clear A30
 by_cases c4 : t21002 < 0
 ·rw [if_pos c4] at H
  have c4b0 : decide (t21002 < 0) = true := decide_eq_true c4
  clear c4
  obtain rfl := Option.some.inj H
  go_enter Try.func20, Try.ntmps20
  go_wp2_with (first | ((with_reducible refine gate_dst (N := 2) rfl ?_); refine box_event ?hg (N := 2) ?hd (cs := #[.int .i64 a0_0, .int .i64 a0_1, .int .i64 a0_2, .slice A0_3 l0_3.length c0_3]) (t := 24) ?hr ?_; (case hd => rfl); (case hg => rfl); (case hr => first | (go_simp; done) | (go_simp; rfl)); intro gb21001 hg w5 hbox hb; have n0_ := mk (below_step (by repeat (first | (with_reducible first | exact HB.out | apply below_alloc | apply pw_below_drewN | apply below_drew1) | exact HB.out)) hb); have n1_ := mk (hbox); have n2_ := mk ((by rw [hg]; exact (below_size (by repeat (first | (with_reducible first | exact HB.out | apply below_alloc | apply pw_below_drewN | apply below_drew1) | exact HB.out))) : w.heap.size ≤ gb21001)); have n3_ := mk ((by rw [hg]; exact (below_size (by repeat (first | (with_reducible first | exact HB.out | apply below_alloc | apply pw_below_drewN | apply below_drew1) | exact HB.out))) : w.heap.size ≤ gb21001)); clear HB; have HB := n0_; have BK21001 := n1_; have GW21001 := n2_; have GE21001 := n3_; clear n0_ n1_ n2_ n3_; clear hb hbox hg; have hcz6_0 : w5.cell? ⟨gb21001, 0, none⟩ = some (.int .i64 a0_0) := (blk_cell BK21001.out 0).trans rfl; have hcz6_1 : w5.cell? ⟨gb21001, 1, none⟩ = some (.int .i64 a0_1) := (blk_cell BK21001.out 1).trans rfl; have hcz6_2 : w5.cell? ⟨gb21001, 2, none⟩ = some (.int .i64 a0_2) := (blk_cell BK21001.out 2).trans rfl; have hcz6_3 : w5.cell? ⟨gb21001, 3, none⟩ = some (.slice A0_3 l0_3.length c0_3) := (blk_cell BK21001.out 3).trans rfl; have hfz6_0 := blk_frozen BK21001.out 0; have hfz6_1 := blk_frozen BK21001.out 1; have hfz6_2 := blk_frozen BK21001.out 2; have hfz6_3 := blk_frozen BK21001.out 3) | ((with_reducible refine gate_callee (f := 80) rfl ?_); refine goesL_ (some 8) rfl rfl Try.func80 (by kernel_rfl) rfl #[.slice A0_3 l0_3.length c0_3, .int .i64 a1] rfl (by (try simp only [List.map_toArray, List.map_cons, List.map_nil]); first | done | rfl | (simp only [List.length_drop, List.length_take]; rfl)) ?_; (with_reducible refine (laws_szIntS.calls _ _ l0_3 a1 t21002 _ ?side1 ?side2 A3.out).mono ?_); (case side1 => repeat (first | exact (Kd.C_below HR0_3.out HB.out) | (with_reducible refine Kd.C_alloc ?_ _) | (with_reducible refine Kd.C_drewN ?_ _) | (with_reducible refine Kd.C_drew ?_))); (case side2 => exact HC0_3.out); rintro e w' ⟨rfl, ⟨nd, rfl⟩⟩; refine ⟨_, rfl, ?_⟩))
  go_ret
  exact ⟨by first | rfl | (simp [errW_none, errW_some] <;> rfl) | (simp [*, errW_none, errW_some] <;> rfl), by repeat (first | (with_reducible first | exact HB.out | apply below_alloc | apply pw_below_drewN | apply below_drew1 | refine below_set ?_ GE21001.out) | exact HB.out)⟩
 ·rw [if_neg c4] at H
  have c4b0 : decide (t21002 < 0) = false := decide_eq_false c4
  clear c4
  obtain rfl := Option.some.inj H
  go_enter Try.func20, Try.ntmps20
  go_wp2_with (first | ((with_reducible refine gate_dst (N := 2) rfl ?_); refine box_event ?hg (N := 2) ?hd (cs := #[.int .i64 a0_0, .int .i64 a0_1, .int .i64 a0_2, .slice A0_3 l0_3.length c0_3]) (t := 24) ?hr ?_; (case hd => rfl); (case hg => rfl); (case hr => first | (go_simp; done) | (go_simp; rfl)); intro gb21001 hg w7 hbox hb; have n0_ := mk (below_step (by repeat (first | (with_reducible first | exact HB.out | apply below_alloc | apply pw_below_drewN | apply below_drew1) | exact HB.out)) hb); have n1_ := mk (hbox); have n2_ := mk ((by rw [hg]; exact (below_size (by repeat (first | (with_reducible first | exact HB.out | apply below_alloc | apply pw_below_drewN | apply below_drew1) | exact HB.out))) : w.heap.size ≤ gb21001)); have n3_ := mk ((by rw [hg]; exact (below_size (by repeat (first | (with_reducible first | exact HB.out | apply below_alloc | apply pw_below_drewN | apply below_drew1) | exact HB.out))) : w.heap.size ≤ gb21001)); clear HB; have HB := n0_; have BK21001 := n1_; have GW21001 := n2_; have GE21001 := n3_; clear n0_ n1_ n2_ n3_; clear hb hbox hg; have hcz8_0 : w7.cell? ⟨gb21001, 0, none⟩ = some (.int .i64 a0_0) := (blk_cell BK21001.out 0).trans rfl; have hcz8_1 : w7.cell? ⟨gb21001, 1, none⟩ = some (.int .i64 a0_1) := (blk_cell BK21001.out 1).trans rfl; have hcz8_2 : w7.cell? ⟨gb21001, 2, none⟩ = some (.int .i64 a0_2) := (blk_cell BK21001.out 2).trans rfl; have hcz8_3 : w7.cell? ⟨gb21001, 3, none⟩ = some (.slice A0_3 l0_3.length c0_3) := (blk_cell BK21001.out 3).trans rfl; have hfz8_0 := blk_frozen BK21001.out 0; have hfz8_1 := blk_frozen BK21001.out 1; have hfz8_2 := blk_frozen BK21001.out 2; have hfz8_3 := blk_frozen BK21001.out 3) | ((with_reducible refine gate_callee (f := 80) rfl ?_); refine goesL_ (some 8) rfl rfl Try.func80 (by kernel_rfl) rfl #[.slice A0_3 l0_3.length c0_3, .int .i64 a1] rfl (by (try simp only [List.map_toArray, List.map_cons, List.map_nil]); first | done | rfl | (simp only [List.length_drop, List.length_take]; rfl)) ?_; (with_reducible refine (laws_szIntS.calls _ _ l0_3 a1 t21002 _ ?side1 ?side2 A3.out).mono ?_); (case side1 => repeat (first | exact (Kd.C_below HR0_3.out HB.out) | (with_reducible refine Kd.C_alloc ?_ _) | (with_reducible refine Kd.C_drewN ?_ _) | (with_reducible refine Kd.C_drew ?_))); (case side2 => exact HC0_3.out); rintro e w' ⟨rfl, ⟨nd, rfl⟩⟩; refine ⟨_, rfl, ?_⟩))
  go_ret
  exact ⟨by first | rfl | (simp [errW_none, errW_some] <;> rfl) | (simp [*, errW_none, errW_some] <;> rfl), by repeat (first | (with_reducible first | exact HB.out | apply below_alloc | apply pw_below_drewN | apply below_drew1 | refine below_set ?_ GE21001.out) | exact HB.out)⟩


def laws_toIntS.l0 : Nat → List Int → List Int → Int → Option (List Int)
 | 0, _, _, _ => none
 | k + 1, x0, x3, x4 => if x4 < (x0.length : Int) then (if 0 ≤ x4 then (if x4 < (x3.length : Int) then (laws_toIntS.l0 k x0 (x3.set (x4 : Int).toNat (rd x0 x4)) (wrap64 (x4 + 1))) else none) else none) else (some x3)
def laws_toIntS.f (k : Nat) (l0 : List Int) : Option (List Int) := if 0 ≤ (l0.length : Int) then (if ((l0.length : Int) : Int).toNat ≤ 35184372088832 then (laws_toIntS.l0 k l0 (List.replicate ((l0.length : Int) : Int).toNat 0) 0) else none) else (none)
theorem laws_toIntS.mono_l : ∀ k, (∀ y0 y1 y2, LeO (laws_toIntS.l0 k y0 y1 y2) (laws_toIntS.l0 (k + 1) y0 y1 y2))
 | 0 => fun _ _ _ r h => by simp [laws_toIntS.l0] at h
 | k + 1 => by
  have ih0 := laws_toIntS.mono_l k
  ·intro y0 y1 y2
   unfold laws_toIntS.l0
   repeat' first | (with_reducible exact ih0 _ _ _) | (with_reducible exact LeO.refl _) | (with_reducible refine LeO.ite ?_ ?_)
theorem laws_toIntS.mono : ∀ a0 k, LeO (laws_toIntS.f k a0) (laws_toIntS.f (k + 1) a0) := by
 intro a0 k
 have ih0 := laws_toIntS.mono_l k
 unfold laws_toIntS.f
 repeat' first | (with_reducible exact ih0 _ _ _) | (with_reducible exact LeO.refl _) | (with_reducible refine LeO.ite ?_ ?_)
set_option maxHeartbeats 8000000 in
set_option maxRecDepth 100000 in
theorem laws_toIntS.calls (k : Nat) (A0 : Option Addr) (c0 : Nat) (l0 : List Int) (r : List Int) (w : World) (hr0 : Kd.C (Kd.int .i64) w A0 l0.length l0) (hc0 : l0.length ≤ c0) (h : laws_toIntS.f k l0 = some r) :
  Calls Try.prog 77 #[.slice A0 l0.length c0] w fun e w' => ∃ v0_ : Value, e = .returned v0_ ∧ Kd.R (Kd.int .i64) 3 w' w.heap.size (fun _ => True) v0_ r ∧ Below w.heap.size w w' := by
 have HR0 := mk hr0
 have HC0 := mk hc0
 clear hr0 hc0
 have HB := mk (Below.refl w.heap.size w)
 have H : (if 0 ≤ (l0.length : Int) then (if ((l0.length : Int) : Int).toNat ≤ 35184372088832 then (laws_toIntS.l0 k l0 (List.replicate ((l0.length : Int) : Int).toNat 0) 0) else none) else none) = some r := h
 clear h
 by_cases c2 : 0 ≤ (l0.length : Int)
 ·rw [if_pos c2] at H
  have c2b0 := eq_true c2
  have c2b1 : decide (0 ≤ (l0.length : Int)) = true := decide_eq_true c2
  clear c2
  by_cases c3 : ((l0.length : Int) : Int).toNat ≤ 35184372088832
  ·rw [if_pos c3] at H
   have c3b0 := eq_true c3
   have c3b1 : decide (((l0.length : Int) : Int).toNat ≤ 35184372088832) = true := decide_eq_true c3
   clear c3
   obtain ⟨yz1, hyz0⟩ : ∃ y_ : List Int, y_ = (List.replicate ((l0.length : Int) : Int).toNat 0) := ⟨_, rfl⟩
   replace H : (laws_toIntS.l0 k l0 yz1 0) = some r := by (rw [hyz0]; with_reducible exact H)
   have Nyz0 := mk hyz0
   clear hyz0
   have H' := mk H
   clear H
   go_enter Try.func77, Try.ntmps77
   go_wp2_with (first | ((with_reducible refine gate_dst (N := 7) rfl ?_); refine Kd.R_make (Kd.int .i64) _ 3 rfl (N := 7) rfl 22 _ _ rfl (l0.length : Int) rfl rfl Try.underlying22 (.int .i64 0) 8 info3 rfl (by decide) (by omega) 0 (ok := fun _ => True) (okp := fun _ => True) rfl (fun _ hk => hk) trivial (of_decide_eq_true (by (with_reducible assumption))) (Nat.le_trans (Nat.mul_le_mul_right _ (of_decide_eq_true (by (with_reducible assumption)) : (l0.length : Int).toNat ≤ 35184372088832)) (by omega)) (Below.refl _ _) (Nat.le_refl _) ?_; intro vz0 w4 ho5 hb hg_ hnew_; clear hg_ hnew_; (rw [← Nyz0.out] at ho5); have HOz0 := mk (Kd.R_lower ho5 (below_size HB.out)); replace HB := mk (below_step HB.out hb); clear hb ho5))
   go_loopg [4] k (fun kq v4 w' => ∃ (x3_1 : List Int) (x4_1 : Int), v4 = .int .i64 x4_1 ∧ Aside0 (laws_toIntS.l0 kq l0 x3_1 x4_1 = some r) ∧ Aside0 (kq ≤ k) ∧ Aside0 (Kd.R (Kd.int .i64) 3 w' w.heap.size (fun _ => True) vz0 x3_1) ∧ Aside0 (Below w.heap.size w w'))
   case atStart => exact ⟨(yz1), (0), (by rfl), H', ⟨Nat.le_refl _⟩, HOz0, HB⟩
   case round =>
    clear H'
    obtain ⟨x3_1, x4_1, rfl, HA, HK1, HO_3, HB⟩ := hrel
    cases gk with
    | zero => exact absurd HA.out (by simp [laws_toIntS.l0])
    | succ k1 =>
     have H := HA.out
     clear HA
     simp only [laws_toIntS.l0] at H
     by_cases c6 : x4_1 < (l0.length : Int)
     ·rw [if_pos c6] at H
      have c6b0 : decide (x4_1 < (l0.length : Int)) = true := decide_eq_true c6
      clear c6
      by_cases c7 : 0 ≤ x4_1
      ·rw [if_pos c7] at H
       have c7b0 : decide (0 ≤ x4_1) = true := decide_eq_true c7
       clear c7
       by_cases c8 : x4_1 < (x3_1.length : Int)
       ·rw [if_pos c8] at H
        have c8b0 : decide (x4_1 < (x3_1.length : Int)) = true := decide_eq_true c8
        clear c8
        obtain ⟨yz0, hyz1⟩ : ∃ y_ : List Int, y_ = (x3_1.set (x4_1 : Int).toNat (rd l0 x4_1)) := ⟨_, rfl⟩
        replace H : (laws_toIntS.l0 k1 l0 yz0 (wrap64 (x4_1 + 1))) = some r := by (rw [hyz1]; with_reducible exact H)
        have Nyz1 := mk hyz1
        clear hyz1
        have H' := mk H
        clear H
        have p78004 : 0 ≤ (x4_1 : Int) := of_decide_eq_true (by (with_reducible assumption))
        have q78004 : x4_1 < (l0.length : Int) := of_decide_eq_true (by (with_reducible assumption))
        obtain ⟨ad78004, e78004, hx78004_0⟩ := Kd.at_int HR0.out x4_1 p78004 q78004
        cases e78004
        replace hx78004_0 := bc HB.out hx78004_0
        replace p78004 := eq_true p78004
        replace q78004 := eq_true q78004
        have p9 : 0 ≤ (x4_1 : Int) := of_decide_eq_true (by (with_reducible assumption))
        have q9 : (x4_1 : Int) < ((x3_1.length : Int) : Int) := of_decide_eq_true (by (with_reducible assumption))
        obtain ⟨go9, co9, eo9, gb9, gl9, cl9, HG9⟩ := Kd.R_form HO_3.out (by omega)
        (cases eo9)
        have GB9 := mk gb9
        have GG9 := mk HG9
        clear gb9 gl9 HG9
        obtain ⟨hx9_0, hf9_0⟩ := Kd.R_celln 0 HO_3.out (x4_1 : Int) p9 q9
        replace p9 := eq_true p9
        replace q9 := eq_true q9
        have HP10 := Kd.R_putg HO_3.out (x4_1 : Int) (rd l0 x4_1)
        go_wp2_with (first | ((with_reducible refine gate_store (t := 3) (p := 20) rfl ?_); refine store_event (t := 3) (p := 20) (v := ?vo_w11) (w1 := (wr.setCell ⟨go9, (x4_1 : Int).toNat, none⟩ (.int .i64 (rd l0 x4_1)))) ?hg ?ho ?hn ?hr ?_; (case ho => rfl); (case hg => rfl); (case hn => rfl); (case hr => (go_simp; done)); intro w11 hw; have hg : wr.grownBy w11 (some go9) := (by rw [hw]; exact HP10.2); have hp_ : Kd.R (Kd.int .i64) 3 w11 w.heap.size (fun _ => True) (.slice (some ⟨go9, 0, none⟩) x3_1.length co9) yz0 := (by rw [hw, Nyz1.out]; exact HP10.1); clear HP10; replace HO_3 := mk (hp_); replace HB := mk ((by rw [hw]; exact below_set HB.out GB9.out : Below w.heap.size w w11)); clear hg hw hp_))
        go_roundg k1
        case measure => have := HK1.out; omega
        case rel => exact ⟨(yz0), (wrap64 (x4_1 + 1)), (by rfl), H', ⟨by have := HK1.out; omega⟩, HO_3, HB⟩
       rw [if_neg c8] at H
       exact absurd H (by simp)
      rw [if_neg c7] at H
      exact absurd H (by simp)
     rw [if_neg c6] at H
     have c6b0 : decide (x4_1 < (l0.length : Int)) = false := decide_eq_false c6
     clear c6
     obtain rfl := Option.some.inj H
     go_wp2
     go_ret
     exact ⟨_, by rfl, by exact HO_3.out, by exact HB.out⟩
  rw [if_neg c3] at H
  exact absurd H (by simp)
 rw [if_neg c2] at H
 exact absurd H (by simp)

end Go.Proofs.Ytnofkbbcbpjhfaa.Q
