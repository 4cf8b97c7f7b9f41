/- A part of the proof that the statement FnDoStepFillSaid holds, under no condition of its own: Filled boxes have one color: the law FnDoStepFill over lists of numbers alone. -/
import Derived.Test.YtgccpcnakkioiaaCFnDoStepFill1
import Derived.Test.YtgccpcnakkioiaaCFnDoStepFill3
import Derived.Test.YtgccpcnakkioiaaCFnDoStepFill2
namespace Go.Proofs.Ytgccpcnakkioiaa.Q
open Go.RowKit Go.Proofs.YtgccpcnakkioiaaW.PrintWords Go.Proofs.YtgccpcnakkioiaaW.PrintLast Go.Proofs.YtgccpcnakkioiaaW.PrintMore
open Go.Proofs.YtgccpcnakkioiaaW.PrintWords.Aside0 (mk)
attribute [local go_sem] max2_int min2_int max_two min_two max_three min_three max_four min_four
set_option linter.unusedVariables false
set_option linter.unusedSimpArgs false
mutual
def spec_paste.l0 : Nat → Int → Int → Int → Int → Int → Int → List Int → Int → Int → Int → List Int → Option (List Int)
 | 0, _, _, _, _, _, _, _, _, _, _, _ => none
 | k + 1, x1, x2, x8, xz2, xz3, xz4, xz5, xz6, xz7, xz8, xz9 => if x8 < xz7 then (spec_paste.l1 k x1 x2 x8 0 xz2 xz3 xz4 xz5 xz6 xz7 xz8 xz9) else (some xz5)
def spec_paste.l1 : Nat → Int → Int → Int → Int → Int → Int → Int → List Int → Int → Int → Int → List Int → Option (List Int)
 | 0, _, _, _, _, _, _, _, _, _, _, _, _ => none
 | k + 1, x1, x2, x8, x9, xz2, xz3, xz4, xz5, xz6, xz7, xz8, xz9 => if x9 < xz6 then ((spec_onImage.f xz2 xz3 xz4 xz5 (wrap64 (x1 + x9)) (wrap64 (x2 + x8))).bind fun tz2 => (if tz2 = true then ((spec_pixelAt.f xz6 xz7 xz8 xz9 x9 x8).bind fun tz1 => ((spec_setPixel.f k xz2 xz3 xz4 xz5 (wrap64 (x1 + x9)) (wrap64 (x2 + x8)) tz1).bind fun tz0 => (spec_paste.l1 k x1 x2 x8 (wrap64 (x9 + 1)) xz2 xz3 xz4 tz0 xz6 xz7 xz8 xz9))) else (spec_paste.l1 k x1 x2 x8 (wrap64 (x9 + 1)) xz2 xz3 xz4 xz5 xz6 xz7 xz8 xz9))) else (spec_paste.l0 k x1 x2 (wrap64 (x8 + 1)) xz2 xz3 xz4 xz5 xz6 xz7 xz8 xz9)
end
def spec_paste.f (k : Nat) (a0_0 : Int) (a0_1 : Int) (a0_2 : Int) (l0_3 : List Int) (a1 : Int) (a2 : Int) (a3_0 : Int) (a3_1 : Int) (a3_2 : Int) (l3_3 : List Int) : Option (List Int) := spec_paste.l0 k a1 a2 0 a0_0 a0_1 a0_2 l0_3 a3_0 a3_1 a3_2 l3_3
theorem spec_paste.mono_l : ∀ k, (∀ y0 y1 y2 y3 y4 y5 y6 y7 y8 y9 y10, LeO (spec_paste.l0 k y0 y1 y2 y3 y4 y5 y6 y7 y8 y9 y10) (spec_paste.l0 (k + 1) y0 y1 y2 y3 y4 y5 y6 y7 y8 y9 y10)) ∧ (∀ y0 y1 y2 y3 y4 y5 y6 y7 y8 y9 y10 y11, LeO (spec_paste.l1 k y0 y1 y2 y3 y4 y5 y6 y7 y8 y9 y10 y11) (spec_paste.l1 (k + 1) y0 y1 y2 y3 y4 y5 y6 y7 y8 y9 y10 y11))
 | 0 => ⟨fun _ _ _ _ _ _ _ _ _ _ _ r h => by simp [spec_paste.l0] at h, fun _ _ _ _ _ _ _ _ _ _ _ _ r h => by simp [spec_paste.l1] at h⟩
 | k + 1 => by
  obtain ⟨ih0, ih1⟩ := spec_paste.mono_l k
  refine ⟨?_, ?_⟩
  ·intro y0 y1 y2 y3 y4 y5 y6 y7 y8 y9 y10
   unfold spec_paste.l0
   repeat' first | (with_reducible exact ih1 _ _ _ _ _ _ _ _ _ _ _ _) | (with_reducible exact LeO.refl _) | (with_reducible refine LeO.ite ?_ ?_)
  intro y0 y1 y2 y3 y4 y5 y6 y7 y8 y9 y10 y11
  unfold spec_paste.l1
  repeat' first | (with_reducible exact ih0 _ _ _ _ _ _ _ _ _ _ _) | (with_reducible exact ih1 _ _ _ _ _ _ _ _ _ _ _ _) | (with_reducible exact spec_setPixel.mono _ _ _ _ _ _ _ _) | (with_reducible exact LeO.refl _) | (with_reducible refine LeO.ite ?_ ?_) | (with_reducible refine LeO.bind ?_ (fun _ => ?_))
theorem spec_paste.mono : ∀ a0 a1 a2 a3 a4 a5 a6 a7 a8 a9 k, LeO (spec_paste.f k a0 a1 a2 a3 a4 a5 a6 a7 a8 a9) (spec_paste.f (k + 1) a0 a1 a2 a3 a4 a5 a6 a7 a8 a9) := by
 intro a0 a1 a2 a3 a4 a5 a6 a7 a8 a9 k
 obtain ⟨ih0, ih1⟩ := spec_paste.mono_l k
 unfold spec_paste.f
 repeat' (with_reducible exact ih0 _ _ _ _ _ _ _ _ _ _ _)
def spec_paste.T8 : Bool × List (List Nat × List Nat) := (true, [([], []), ([], []), ([], []), ([1, 2], [1, 2]), ([], []), ([], []), ([4, 5], [4, 5]), ([], []), ([], []), ([], []), ([7, 8, 9], [7, 8, 9]), ([0, 3, 6, 10, 10], [0, 3, 6, 10])])
def spec_paste.B8 : List Nat := [0, 0, 0, 6, 0, 0, 48, 0, 0, 0, 896, 2047]
theorem spec_paste.tab8 : rtab .any (opsOf Try.f77 8) = spec_paste.T8 := by kernel_rfl
theorem spec_paste.bits8 : waitsOk spec_paste.T8.2 spec_paste.B8 = true := by kernel_rfl
set_option maxHeartbeats 8000000 in
set_option maxRecDepth 100000 in
theorem spec_paste.calls (k : Nat) (a0_0 : Int) (a0_1 : Int) (a0_2 : Int) (P0_3_ : Nat → Prop) (u9000_ : Value) (l0_3 : List Int) (a1 : Int) (a2 : Int) (a3_0 : Int) (a3_1 : Int) (a3_2 : Int) (A3_3 : Option Addr) (c3_3 : Nat) (l3_3 : List Int) (r : List Int) (w0 w : World) (hB : Below w0.heap.size w0 w) (ho0_3 : Kd.R (Kd.int .i64) 3 w w0.heap.size P0_3_ u9000_ l0_3) (hr3_3 : ∀ W_, Kept w W_ (fun k_ => P0_3_ k_) → Kd.C (Kd.int .i64) W_ A3_3 l3_3.length l3_3) (hc3_3 : l3_3.length ≤ c3_3) (h : spec_paste.f k a0_0 a0_1 a0_2 l0_3 a1 a2 a3_0 a3_1 a3_2 l3_3 = some r) :
  Calls Try.prog 77 #[.agg #[.int .i64 a0_0, .int .i64 a0_1, .int .i64 a0_2, u9000_], .int .i64 a1, .int .i64 a2, .agg #[.int .i64 a3_0, .int .i64 a3_1, .int .i64 a3_2, .slice A3_3 l3_3.length c3_3]] w fun e w' => e = .returned (.tuple #[]) ∧ Kd.R (Kd.int .i64) 3 w' w0.heap.size (fun k_ => (P0_3_ k_ ∨ w.heap.size ≤ k_)) u9000_ r ∧ Below w0.heap.size w0 w' ∧ Kept w w' (fun k_ => P0_3_ k_) := by
 have HO0_3 := mk (show Kd.R (Kd.int .i64) 3 w w0.heap.size (fun k_ => (P0_3_ k_ ∨ w.heap.size ≤ k_)) u9000_ l0_3 from Kd.R_mono ho0_3 (fun k_ hk => (.inl hk)))
 have HR3_3 := mk hr3_3
 have HC3_3 := mk hc3_3
 clear hr3_3 hc3_3
 have HK := mk (Kept.refl w (fun k_ => P0_3_ k_))
 have HB := mk hB
 clear hB
 have H : (spec_paste.l0 k a1 a2 0 a0_0 a0_1 a0_2 l0_3 a3_0 a3_1 a3_2 l3_3) = some r := h
 clear h
 have H' := mk H
 clear H
 obtain ⟨Ao5, co5, eo5⟩ := Kd.R_slice HO0_3.out
 subst eo5
 go_enter Try.func77, Try.ntmps77
 go_wp2_with (first | ((with_reducible refine gate_dst (N := 4) rfl ?_); refine box_event (by rfl) (N := 4) (by rfl) (cs := #[.int .i64 a0_0, .int .i64 a0_1, .int .i64 a0_2, .slice Ao5 l0_3.length co5]) (t := 28) (by go_simp; done) ?_; intro gbz0 hg w6 hbox hb; replace HO0_3 := mk (Kd.R_below HO0_3.out hb); replace HK := mk (Kept.below (S := (fun k_ => P0_3_ k_)) HK.out hb); replace HB := mk (below_step HB.out hb); have BKz0 := mk (hbox); clear hb hbox hg) | ((with_reducible refine gate_dst (N := 7) rfl ?_); refine box_event (by rfl) (N := 7) (by rfl) (cs := #[.int .i64 a3_0, .int .i64 a3_1, .int .i64 a3_2, .slice A3_3 l3_3.length c3_3]) (t := 28) (by go_simp; done) ?_; intro gbz1 hg w7 hbox hb; replace HO0_3 := mk (Kd.R_below HO0_3.out hb); replace BKz0 := mk (blk_below BKz0.out hb); replace HK := mk (Kept.below (S := (fun k_ => P0_3_ k_)) HK.out hb); replace HB := mk (below_step HB.out hb); have BKz1 := mk (hbox); clear hb hbox hg))
 go_loopg [8] k (fun kq v8 w' => ∃ (x8_1 : Int) (xz1 : List Int), v8 = .int .i64 x8_1 ∧ Aside0 (spec_paste.l0 kq a1 a2 x8_1 a0_0 a0_1 a0_2 xz1 a3_0 a3_1 a3_2 l3_3 = some r) ∧ Aside0 (kq ≤ k) ∧ Aside0 (Kd.R (Kd.int .i64) 3 w' w0.heap.size (fun k_ => (P0_3_ k_ ∨ w.heap.size ≤ k_)) (.slice Ao5 l0_3.length co5) xz1) ∧ Aside0 (w'.heap[gbz0]? = some (.cells #[.int .i64 a0_0, .int .i64 a0_1, .int .i64 a0_2, (.slice Ao5 l0_3.length co5)] 28 (0, 0))) ∧ Aside0 (w'.heap[gbz1]? = some (.cells #[.int .i64 a3_0, .int .i64 a3_1, .int .i64 a3_2, (.slice A3_3 l3_3.length c3_3)] 28 (0, 0))) ∧ Aside0 (Kept w w' (fun k_ => P0_3_ k_)) ∧ Aside0 (Below w0.heap.size w0 w'))
 case atStart => exact ⟨(0), (l0_3), (by rfl), H', ⟨Nat.le_refl _⟩, ⟨by (with_reducible repeat (first | apply Kd.R_alloc | apply Kd.R_drewN | apply Kd.R_drew)); exact HO0_3.out⟩, ⟨by (with_reducible repeat (first | refine blk_drewN ?_ _ | refine blk_drew ?_ | refine blk_alloc ?_ _)); exact BKz0.out⟩, ⟨by (with_reducible repeat (first | refine blk_drewN ?_ _ | refine blk_drew ?_ | refine blk_alloc ?_ _)); exact BKz1.out⟩, ⟨by exact HK.out⟩, ⟨by exact HB.out⟩⟩
 case round =>
  clear H'
  try clear p2
  try clear c3
  try clear c7
  obtain ⟨x8_1, xz1, rfl, HA, HK1, HOz0, BKz0, BKz1, HK, HB⟩ := hrel
  have hl78002003_1 := (Kd.R_reads' HOz0.out).1
  rw [hl78002003_1] at HOz0
  (try simp only [hl78002003_1])
  (try simp only [hl78002003_1] at BKz0)
  cases gk with
  | zero => exact absurd HA.out (by simp [spec_paste.l0])
  | succ k1 =>
   have H := HA.out
   clear HA
   simp only [spec_paste.l0] at H
   by_cases c8 : x8_1 < a3_1
   ·rw [if_pos c8] at H
    have c8b0 : decide (x8_1 < a3_1) = true := decide_eq_true c8
    clear c8
    have H' := mk H
    clear H
    have hcz10_0 : wr.cell? ⟨gbz1, 0, none⟩ = some (.int .i64 a3_0) := (blk_cell BKz1.out 0).trans rfl
    have hcz10_1 : wr.cell? ⟨gbz1, 1, none⟩ = some (.int .i64 a3_1) := (blk_cell BKz1.out 1).trans rfl
    have hcz10_2 : wr.cell? ⟨gbz1, 2, none⟩ = some (.int .i64 a3_2) := (blk_cell BKz1.out 2).trans rfl
    have hcz10_3 : wr.cell? ⟨gbz1, 3, none⟩ = some (.slice A3_3 l3_3.length c3_3) := (blk_cell BKz1.out 3).trans rfl
    have hfz10_0 := blk_frozen BKz1.out 0
    have hfz10_1 := blk_frozen BKz1.out 1
    have hfz10_2 := blk_frozen BKz1.out 2
    have hfz10_3 := blk_frozen BKz1.out 3
    go_wp2
    go_loopg [9] k1 (fun kq v9 w' => ∃ (x9_2 : Int) (xz0 : List Int), v9 = .int .i64 x9_2 ∧ Aside0 (spec_paste.l1 kq a1 a2 x8_1 x9_2 a0_0 a0_1 a0_2 xz0 a3_0 a3_1 a3_2 l3_3 = some r) ∧ Aside0 (kq ≤ k1) ∧ Aside0 (Kd.R (Kd.int .i64) 3 w' w0.heap.size (fun k_ => (P0_3_ k_ ∨ w.heap.size ≤ k_)) (.slice Ao5 xz1.length co5) xz0) ∧ Aside0 (w'.heap[gbz0]? = some (.cells #[.int .i64 a0_0, .int .i64 a0_1, .int .i64 a0_2, (.slice Ao5 xz1.length co5)] 28 (0, 0))) ∧ Aside0 (w'.heap[gbz1]? = some (.cells #[.int .i64 a3_0, .int .i64 a3_1, .int .i64 a3_2, (.slice A3_3 l3_3.length c3_3)] 28 (0, 0))) ∧ Aside0 (Kept w w' (fun k_ => P0_3_ k_)) ∧ Aside0 (Below w0.heap.size w0 w'))
    case atStart => exact ⟨(0), (xz1), (by rfl), H', ⟨Nat.le_refl _⟩, ⟨by (with_reducible repeat (first | apply Kd.R_alloc | apply Kd.R_drewN | apply Kd.R_drew)); exact HOz0.out⟩, ⟨by (with_reducible repeat (first | refine blk_drewN ?_ _ | refine blk_drew ?_ | refine blk_alloc ?_ _)); exact BKz0.out⟩, ⟨by (with_reducible repeat (first | refine blk_drewN ?_ _ | refine blk_drew ?_ | refine blk_alloc ?_ _)); exact BKz1.out⟩, ⟨by exact HK.out⟩, ⟨by exact HB.out⟩⟩
    case round =>
     clear H'
     try clear p2
     try clear c3
     try clear c7
     try clear c8
     try clear c8b0
     try clear c9
     try clear hcz10_0
     try clear hcz10_1
     try clear hcz10_2
     try clear hcz10_3
     try clear hfz10_0
     try clear hfz10_1
     try clear hfz10_2
     try clear hfz10_3
     try clear p2
     obtain ⟨x9_2, xz0, rfl, HA, HK2, HOz0, BKz0, BKz1, HK, HB⟩ := hrel
     have hl78002003_2 := (Kd.R_reads' HOz0.out).1
     rw [hl78002003_2] at HOz0
     (try simp only [hl78002003_2])
     (try simp only [hl78002003_2] at BKz0)
     cases gk with
     | zero => exact absurd HA.out (by simp [spec_paste.l1])
     | succ k2 =>
      have H := HA.out
      clear HA
      simp only [spec_paste.l1] at H
      by_cases c11 : x9_2 < a3_0
      ·rw [if_pos c11] at H
       have c11b0 : decide (x9_2 < a3_0) = true := decide_eq_true c11
       clear c11
       replace H := Option.bind_eq_some_iff.mp H
       obtain ⟨tz2, A120, H⟩ := H
       replace H : (if tz2 = true then ((spec_pixelAt.f a3_0 a3_1 a3_2 l3_3 x9_2 x8_1).bind fun tz1 => ((spec_setPixel.f k2 a0_0 a0_1 a0_2 xz0 (wrap64 (a1 + x9_2)) (wrap64 (a2 + x8_1)) tz1).bind fun tz0 => (spec_paste.l1 k2 a1 a2 x8_1 (wrap64 (x9_2 + 1)) a0_0 a0_1 a0_2 tz0 a3_0 a3_1 a3_2 l3_3))) else (spec_paste.l1 k2 a1 a2 x8_1 (wrap64 (x9_2 + 1)) a0_0 a0_1 a0_2 xz0 a3_0 a3_1 a3_2 l3_3)) = some r := H
       have A12 := mk A120
       clear A120
       by_cases c13 : tz2 = true
       ·subst c13
        have H1 : ((spec_pixelAt.f a3_0 a3_1 a3_2 l3_3 x9_2 x8_1).bind fun tz1 => ((spec_setPixel.f k2 a0_0 a0_1 a0_2 xz0 (wrap64 (a1 + x9_2)) (wrap64 (a2 + x8_1)) tz1).bind fun tz0 => (spec_paste.l1 k2 a1 a2 x8_1 (wrap64 (x9_2 + 1)) a0_0 a0_1 a0_2 tz0 a3_0 a3_1 a3_2 l3_3))) = some r := by rw [if_pos rfl] at H; exact H
        clear H
        have H := H1
        clear H1
        replace H := Option.bind_eq_some_iff.mp H
        obtain ⟨tz1, A140, H⟩ := H
        replace H : ((spec_setPixel.f k2 a0_0 a0_1 a0_2 xz0 (wrap64 (a1 + x9_2)) (wrap64 (a2 + x8_1)) tz1).bind fun tz0 => (spec_paste.l1 k2 a1 a2 x8_1 (wrap64 (x9_2 + 1)) a0_0 a0_1 a0_2 tz0 a3_0 a3_1 a3_2 l3_3)) = some r := H
        have A14 := mk A140
        clear A140
        replace H := Option.bind_eq_some_iff.mp H
        obtain ⟨tz0, A150, H⟩ := H
        replace H : (spec_paste.l1 k2 a1 a2 x8_1 (wrap64 (x9_2 + 1)) a0_0 a0_1 a0_2 tz0 a3_0 a3_1 a3_2 l3_3) = some r := H
        have A15 := mk A150
        clear A150
        have H' := mk H
        clear H
        have hcz17_0 : wr.cell? ⟨gbz1, 0, none⟩ = some (.int .i64 a3_0) := (blk_cell BKz1.out 0).trans rfl
        have hcz18_0 : wr.cell? ⟨gbz0, 0, none⟩ = some (.int .i64 a0_0) := (blk_cell BKz0.out 0).trans rfl
        have hcz18_1 : wr.cell? ⟨gbz0, 1, none⟩ = some (.int .i64 a0_1) := (blk_cell BKz0.out 1).trans rfl
        have hcz18_2 : wr.cell? ⟨gbz0, 2, none⟩ = some (.int .i64 a0_2) := (blk_cell BKz0.out 2).trans rfl
        have hcz18_3 : wr.cell? ⟨gbz0, 3, none⟩ = some (.slice Ao5 xz0.length co5) := (blk_cell BKz0.out 3).trans rfl
        try go_wp2_with (first | ((with_reducible refine gate_callee (f := 98) rfl ?_); refine goesL_ (some 29) rfl rfl Try.func98 (by kernel_rfl) rfl #[.agg #[.int .i64 a0_0, .int .i64 a0_1, .int .i64 a0_2, .slice Ao5 xz0.length co5], .int .i64 (wrap64 (a1 + x9_2)), .int .i64 (wrap64 (a2 + x8_1))] rfl (by (try simp only [List.map_toArray, List.map_cons, List.map_nil]); rfl) ?_; (with_reducible refine (spec_onImage.calls a0_0 a0_1 a0_2 _ _ xz0 (wrap64 (a1 + x9_2)) (wrap64 (a2 + x8_1)) true _ ?side1 ?side2 A12.out).mono ?_); (case side1 => repeat (exact (Kd.R_reads' HOz0.out).2.2)); (case side2 => exact (Kd.R_reads' HOz0.out).2.1); rintro e w19 ⟨rfl, hb⟩; refine ⟨_, rfl, ?_⟩; replace HOz0 := mk (Kd.R_below HOz0.out hb); replace BKz0 := mk (blk_below BKz0.out hb); replace BKz1 := mk (blk_below BKz1.out hb); replace HK := mk (Kept.below (S := (fun k_ => P0_3_ k_)) HK.out hb); replace HB := mk (below_step HB.out hb); (try clear hb)))
        have n0_ := mk (Kd.R_drew HOz0.out)
        have n1_ := mk (blk_drew BKz0.out)
        have n2_ := mk (blk_drew BKz1.out)
        have n3_ := mk (Kept.drew HK.out)
        have n4_ := mk (below_drew1 HB.out)
        clear HOz0 BKz0 BKz1 HK HB
        revert n0_ n1_ n2_ n3_ n4_; intro HOz0 BKz0 BKz1 HK HB
        refine start_ (n := 12) (S := fun w' => w'.cell? ⟨gbz0, 0, none⟩ = some (.int .i64 a0_0) ∧ w'.cell? ⟨gbz0, 1, none⟩ = some (.int .i64 a0_1) ∧ w'.cell? ⟨gbz0, 2, none⟩ = some (.int .i64 a0_2) ∧ w'.cell? ⟨gbz0, 3, none⟩ = some (.slice Ao5 xz0.length co5) ∧ w'.cell? ⟨gbz1, 0, none⟩ = some (.int .i64 a3_0) ∧ w'.cell? ⟨gbz1, 1, none⟩ = some (.int .i64 a3_1) ∧ w'.cell? ⟨gbz1, 2, none⟩ = some (.int .i64 a3_2) ∧ w'.cell? ⟨gbz1, 3, none⟩ = some (.slice A3_3 l3_3.length c3_3)) (ds := []) #[false, false, false, false, false, false, false, false, false, false, false, false] (by kernel_rfl) rfl rfl ⟨(blk_cell BKz0.out 0).trans rfl, (blk_cell BKz0.out 1).trans rfl, (blk_cell BKz0.out 2).trans rfl, (blk_cell BKz0.out 3).trans rfl, (blk_cell BKz1.out 0).trans rfl, (blk_cell BKz1.out 1).trans rfl, (blk_cell BKz1.out 2).trans rfl, (blk_cell BKz1.out 3).trans rfl⟩ (fun hHeld => ?_); refine with_tabW spec_paste.tab8 spec_paste.bits8 (fun HT_ HW_ => ?_)
        generalize w19.drew = w20 at HOz0 BKz0 BKz1 HK HB hHeld ⊢
        refine pure_ (i := 1) (N := some 31) (v := ?_) (a' := ?_) #[false, true, false, false, false, false, false, false, false, false, false, false] rfl rfl (any_of HT_.out (by kernel_rfl)) (fun _ _ _ h => h) (Or.inl ⟨by rfl, ?_⟩) ?_ ?_
        rotate_left
        ·intro w'
         go_simp
         with_reducible rfl
        rotate_left
        ·simp only [Act.put, List.setIfInBounds_toArray, List.set_cons_zero, List.set_cons_succ, i64_w, i32_w]
         rfl
        refine pure_ (i := 2) (N := some 32) (v := ?_) (a' := ?_) #[false, true, true, false, false, false, false, false, false, false, false, false] rfl rfl (any_of HT_.out (by kernel_rfl)) (fun _ _ _ h => h) (Or.inl ⟨by rfl, ?_⟩) ?_ ?_
        rotate_left
        ·intro w'
         go_simp
         with_reducible rfl
        rotate_left
        ·simp only [Act.put, List.setIfInBounds_toArray, List.set_cons_zero, List.set_cons_succ, i64_w, i32_w]
         rfl
        refine pure_ (i := 3) (N := some 33) (v := ?_) (a' := ?_) #[false, true, true, true, false, false, false, false, false, false, false, false] rfl rfl (any_of HT_.out (by kernel_rfl)) (fun _ _ _ h => h) (Or.inl ⟨by rfl, ?_⟩) ?_ ?_
        rotate_left
        ·intro w'
         go_simp
         with_reducible rfl
        rotate_left
        ·simp only [Act.put, List.setIfInBounds_toArray, List.set_cons_zero, List.set_cons_succ, i64_w, i32_w]
         rfl
        refine pure_ (i := 4) (N := some 34) (v := ?_) (a' := ?_) #[false, true, true, true, true, false, false, false, false, false, false, false] rfl rfl (any_of HT_.out (by kernel_rfl)) (fun _ _ _ h => h) (Or.inl ⟨by rfl, ?_⟩) ?_ ?_
        rotate_left
        ·intro w'
         go_simp
         with_reducible rfl
        rotate_left
        ·simp only [Act.put, List.setIfInBounds_toArray, List.set_cons_zero, List.set_cons_succ, i64_w, i32_w]
         rfl
        refine pure_ (i := 5) (N := some 35) (v := ?_) (a' := ?_) #[false, true, true, true, true, true, false, false, false, false, false, false] rfl rfl (any_of HT_.out (by kernel_rfl)) (fun _ _ _ h => h) (Or.inl ⟨by rfl, ?_⟩) ?_ ?_
        rotate_left
        ·intro w'
         go_simp
         with_reducible rfl
        rotate_left
        ·simp only [Act.put, List.setIfInBounds_toArray, List.set_cons_zero, List.set_cons_succ, i64_w, i32_w]
         rfl
        refine pure_ (i := 6) (N := some 36) (v := ?_) (a' := ?_) #[false, true, true, true, true, true, true, false, false, false, false, false] rfl rfl (any_of HT_.out (by kernel_rfl)) (fun _ _ _ h => h) (Or.inl ⟨by rfl, ?_⟩) ?_ ?_
        rotate_left
        ·intro w'
         go_simp
         with_reducible rfl
        rotate_left
        ·simp only [Act.put, List.setIfInBounds_toArray, List.set_cons_zero, List.set_cons_succ, i64_w, i32_w]
         rfl
        refine pure_ (i := 8) (N := some 38) (v := ?_) (a' := ?_) #[false, true, true, true, true, true, true, false, true, false, false, false] rfl rfl (any_of HT_.out (by kernel_rfl)) (fun _ _ _ h => h) (Or.inl ⟨by rfl, ?_⟩) ?_ ?_
        rotate_left
        ·intro w'
         go_simp
         with_reducible rfl
        rotate_left
        ·simp only [Act.put, List.setIfInBounds_toArray, List.set_cons_zero, List.set_cons_succ, i64_w, i32_w]
         rfl
        refine pure_ (i := 9) (N := some 39) (v := ?_) (a' := ?_) #[false, true, true, true, true, true, true, false, true, true, false, false] rfl rfl (any_of HT_.out (by kernel_rfl)) (fun _ _ _ h => h) (Or.inl ⟨by rfl, ?_⟩) ?_ ?_
        rotate_left
        ·intro w'
         go_simp
         with_reducible rfl
        rotate_left
        ·simp only [Act.put, List.setIfInBounds_toArray, List.set_cons_zero, List.set_cons_succ, i64_w, i32_w]
         rfl
        refine take_ (i := 0) (N := some 30) (v := ?_) (a' := ?_) #[true, true, true, true, true, true, true, false, true, true, false, false] rfl rfl (take_ofW HT_.out HW_.out (by kernel_rfl)) (fun _ _ _ h => h) (Or.inl ⟨by rfl, ?_⟩) hHeld ?_ ?_
        rotate_left
        ·rintro w' ⟨s0, s1, s2, s3, s4, s5, s6, s7⟩
         go_simp
         with_reducible rfl
        rotate_left
        ·simp only [Act.put, List.setIfInBounds_toArray, List.set_cons_zero, List.set_cons_succ, i64_w, i32_w]
         rfl
        refine take_ (i := 7) (N := some 37) (v := ?_) (a' := ?_) #[true, true, true, true, true, true, true, true, true, true, false, false] rfl rfl (take_ofW HT_.out HW_.out (by kernel_rfl)) (fun _ _ _ h => h) (Or.inl ⟨by rfl, ?_⟩) hHeld ?_ ?_
        rotate_left
        ·rintro w' ⟨s0, s1, s2, s3, s4, s5, s6, s7⟩
         go_simp
         with_reducible rfl
        rotate_left
        ·simp only [Act.put, List.setIfInBounds_toArray, List.set_cons_zero, List.set_cons_succ, i64_w, i32_w]
         rfl
        refine one_ (i := 10) (N := some 40) #[true, true, true, true, true, true, true, true, true, true, true, false] rfl rfl (one_of HT_.out (by kernel_rfl)) (by decide) (fun K hK => ?_)
        refine goes_ Try.func95 (by kernel_rfl) rfl #[.agg #[.int .i64 a3_0, .int .i64 a3_1, .int .i64 a3_2, .slice A3_3 l3_3.length c3_3], .int .i64 x9_2, .int .i64 x8_1] (by rfl) rfl rfl (by (try simp only [List.map_toArray, List.map_cons, List.map_nil]); rfl) ?_
        with_reducible refine (spec_pixelAt.calls a3_0 a3_1 a3_2 _ _ l3_3 x9_2 x8_1 tz1 _ ?side1 ?side2 A14.out).mono ?_
        (case side1 => exact Kd.C_kept_now HR3_3.out HK.out)
        (case side2 => exact HC3_3.out)
        rintro e w21 ⟨vz0, rfl, ho0, hb⟩
        refine ⟨_, rfl, ?_⟩
        have n0_ := mk (Kd.R_elder' HOz0.out (Kd.R_base ho0) hb)
        have n1_ := mk (Kd.R_lower (Kd.R_new' (Kd.R_newM (M := fun k_ => (P0_3_ k_ ∨ w.heap.size ≤ k_)) ho0 HK.out.1 (fun k_ h_ => .inr h_)) (Kd.R_lt HOz0.out)) (below_size HB.out))
        have n2_ := mk (blk_below BKz0.out hb)
        have n3_ := mk (blk_below BKz1.out hb)
        have n4_ := mk (Kept.below (S := (fun k_ => P0_3_ k_)) HK.out hb)
        have n5_ := mk (below_step HB.out hb)
        clear HOz0 BKz0 BKz1 HK HB
        revert n0_ n1_ n2_ n3_ n4_ n5_; intro HOz0 HOz1 BKz0 BKz1 HK HB
        (try clear hb)
        (try clear ho0)
        obtain ⟨Ao22, co22, eo22⟩ := Kd.R_slice HOz1.out
        (subst eo22)
        refine hK.out _ _ ⟨(blk_cell BKz0.out 0).trans rfl, (blk_cell BKz0.out 1).trans rfl, (blk_cell BKz0.out 2).trans rfl, (blk_cell BKz0.out 3).trans rfl, (blk_cell BKz1.out 0).trans rfl, (blk_cell BKz1.out 1).trans rfl, (blk_cell BKz1.out 2).trans rfl, (blk_cell BKz1.out 3).trans rfl⟩ (fun hHeld => ?_)
        clear hK K
        refine norm_ (a' := ?_) ?_ ?_
        rotate_left
        ·show Act.put _ (some 40) _ = _
         simp only [Act.put, List.setIfInBounds_toArray, List.set_cons_zero, List.set_cons_succ, i64_w, i32_w]
         rfl
        refine one_ (i := 11) (N := some 41) #[true, true, true, true, true, true, true, true, true, true, true, true] rfl rfl (one_of HT_.out (by kernel_rfl)) (by decide) (fun K hK => ?_)
        refine goes_ Try.func94 (by kernel_rfl) rfl #[.agg #[.int .i64 a0_0, .int .i64 a0_1, .int .i64 a0_2, .slice Ao5 xz0.length co5], .int .i64 (wrap64 (a1 + x9_2)), .int .i64 (wrap64 (a2 + x8_1)), .slice Ao22 tz1.length co22] (by rfl) rfl rfl (by (try simp only [List.map_toArray, List.map_cons, List.map_nil]); rfl) ?_
        with_reducible refine (spec_setPixel.calls k2 a0_0 a0_1 a0_2 (fun k_ => some k_ = (.slice Ao5 xz0.length co5 : Value).ownBlock) (.slice Ao5 xz0.length co5) xz0 (wrap64 (a1 + x9_2)) (wrap64 (a2 + x8_1)) _ _ tz1 tz0 w0 _ ?side1 ?side2 ?side3 ?side4 A15.out).mono ?_
        (case side1 => repeat (with_reducible exact HB.out))
        (case side2 => exact Kd.R_tight rfl HOz0.out)
        (case side3 => exact Kd.C_kept_own HOz1.out (fun k_ hk_ hs_ => hk_.2 hs_))
        (case side4 => exact (Kd.R_reads' HOz1.out).2.1)
        rintro e w23 ⟨rfl, hy0, hb, hkp⟩
        refine ⟨_, rfl, ?_⟩
        have n0_ := mk (Kd.R_reok rfl hy0 (fun k_ e_ => HOz0.out.1 k_ e_))
        have n1_ := mk (blk_kept BKz0.out hkp (fun hs_ => (fun e_ => (Kd.R_ne HOz0.out BKz0.out (by decide)) e_) hs_))
        have n2_ := mk (blk_kept BKz1.out hkp (fun hs_ => (fun e_ => (Kd.R_ne HOz0.out BKz1.out (by decide)) e_) hs_))
        have n3_ := mk (Kd.R_mono (ok' := fun k_ => (P0_3_ k_ ∨ w.heap.size ≤ k_) ∧ some k_ ≠ (.slice Ao5 xz0.length co5 : Value).ownBlock) (Kd.R_keptB HOz1.out hkp (fun k_ hk_ hs_ => hk_.2 hs_)) (fun k_ hk_ => ⟨hk_.1.1.1, hk_.1.2⟩))
        have n4_ := mk (Kept.then_ (S := (fun k_ => P0_3_ k_)) HK.out hkp (fun k_ hs_ => (fun e_ => (HOz0.out.1 k_ e_.symm).1) hs_))
        have n5_ := mk (hb)
        clear HOz0 BKz0 BKz1 HOz1 HK HB
        revert n0_ n1_ n2_ n3_ n4_ n5_; intro HOz0 BKz0 BKz1 HOz1 HK HB
        (try clear hb)
        (try clear hkp)
        (try clear hy0)
        refine hK.out _ _ ⟨(blk_cell BKz0.out 0).trans rfl, (blk_cell BKz0.out 1).trans rfl, (blk_cell BKz0.out 2).trans rfl, (blk_cell BKz0.out 3).trans rfl, (blk_cell BKz1.out 0).trans rfl, (blk_cell BKz1.out 1).trans rfl, (blk_cell BKz1.out 2).trans rfl, (blk_cell BKz1.out 3).trans rfl⟩ (fun hHeld => ?_)
        clear hK K
        refine norm_ (a' := ?_) ?_ ?_
        rotate_left
        ·show Act.put _ (some 41) _ = _
         simp only [Act.put, List.setIfInBounds_toArray, List.set_cons_zero, List.set_cons_succ, i64_w, i32_w]
         rfl
        refine done_ (done_of HT_.out (by kernel_rfl)) ?_
        try go_wp2
        (try simp only [← hl78002003_2])
        go_roundg k2
        case measure => have := HK1.out; have := HK2.out; omega
        case rel => exact ⟨(wrap64 (x9_2 + 1)), (tz0), (by rfl), H', ⟨by have := HK1.out; have := HK2.out; omega⟩, ⟨by (try simp only [hl78002003_2]); (with_reducible repeat (first | apply Kd.R_alloc | apply Kd.R_drewN | apply Kd.R_drew)); exact Kd.R_mono HOz0.out (fun _ hk => hk.1)⟩, ⟨by (try simp only [hl78002003_2]); (with_reducible repeat (first | refine blk_drewN ?_ _ | refine blk_drew ?_ | refine blk_alloc ?_ _)); exact BKz0.out⟩, ⟨by (with_reducible repeat (first | refine blk_drewN ?_ _ | refine blk_drew ?_ | refine blk_alloc ?_ _)); exact BKz1.out⟩, ⟨by exact HK.out⟩, ⟨by exact HB.out⟩⟩
       replace c13 := Bool.eq_false_iff.mpr c13
       subst c13
       have H1 : (spec_paste.l1 k2 a1 a2 x8_1 (wrap64 (x9_2 + 1)) a0_0 a0_1 a0_2 xz0 a3_0 a3_1 a3_2 l3_3) = some r := by rw [if_neg (show ¬ (false = true) by decide)] at H; exact H
       clear H
       have H := H1
       clear H1
       have H' := mk H
       clear H
       have hcz25_0 : wr.cell? ⟨gbz1, 0, none⟩ = some (.int .i64 a3_0) := (blk_cell BKz1.out 0).trans rfl
       have hcz26_0 : wr.cell? ⟨gbz0, 0, none⟩ = some (.int .i64 a0_0) := (blk_cell BKz0.out 0).trans rfl
       have hcz26_1 : wr.cell? ⟨gbz0, 1, none⟩ = some (.int .i64 a0_1) := (blk_cell BKz0.out 1).trans rfl
       have hcz26_2 : wr.cell? ⟨gbz0, 2, none⟩ = some (.int .i64 a0_2) := (blk_cell BKz0.out 2).trans rfl
       have hcz26_3 : wr.cell? ⟨gbz0, 3, none⟩ = some (.slice Ao5 xz0.length co5) := (blk_cell BKz0.out 3).trans rfl
       go_wp2_with (first | ((with_reducible refine gate_callee (f := 98) rfl ?_); refine goesL_ (some 29) rfl rfl Try.func98 (by kernel_rfl) rfl #[.agg #[.int .i64 a0_0, .int .i64 a0_1, .int .i64 a0_2, .slice Ao5 xz0.length co5], .int .i64 (wrap64 (a1 + x9_2)), .int .i64 (wrap64 (a2 + x8_1))] rfl (by (try simp only [List.map_toArray, List.map_cons, List.map_nil]); rfl) ?_; (with_reducible refine (spec_onImage.calls a0_0 a0_1 a0_2 _ _ xz0 (wrap64 (a1 + x9_2)) (wrap64 (a2 + x8_1)) false _ ?side1 ?side2 A12.out).mono ?_); (case side1 => repeat (exact (Kd.R_reads' HOz0.out).2.2)); (case side2 => exact (Kd.R_reads' HOz0.out).2.1); rintro e w27 ⟨rfl, hb⟩; refine ⟨_, rfl, ?_⟩; replace HOz0 := mk (Kd.R_below HOz0.out hb); replace BKz0 := mk (blk_below BKz0.out hb); replace BKz1 := mk (blk_below BKz1.out hb); replace HK := mk (Kept.below (S := (fun k_ => P0_3_ k_)) HK.out hb); replace HB := mk (below_step HB.out hb); (try clear hb)))
       (try simp only [← hl78002003_2])
       go_roundg k2
       case measure => have := HK1.out; have := HK2.out; omega
       case rel => exact ⟨(wrap64 (x9_2 + 1)), (xz0), (by rfl), H', ⟨by have := HK1.out; have := HK2.out; omega⟩, ⟨by (try simp only [hl78002003_2]); (with_reducible repeat (first | apply Kd.R_alloc | apply Kd.R_drewN | apply Kd.R_drew)); exact HOz0.out⟩, ⟨by (try simp only [hl78002003_2]); (with_reducible repeat (first | refine blk_drewN ?_ _ | refine blk_drew ?_ | refine blk_alloc ?_ _)); exact BKz0.out⟩, ⟨by (with_reducible repeat (first | refine blk_drewN ?_ _ | refine blk_drew ?_ | refine blk_alloc ?_ _)); exact BKz1.out⟩, ⟨by exact HK.out⟩, ⟨by exact HB.out⟩⟩
      rw [if_neg c11] at H
      have c11b0 : decide (x9_2 < a3_0) = false := decide_eq_false c11
      clear c11
      have H' := mk H
      clear H
      have hcz29_0 : wr.cell? ⟨gbz1, 0, none⟩ = some (.int .i64 a3_0) := (blk_cell BKz1.out 0).trans rfl
      go_wp2
      (try simp only [← hl78002003_1, ← hl78002003_2])
      go_roundg k2
      case measure => have := HK1.out; have := HK2.out; omega
      case rel => exact ⟨(wrap64 (x8_1 + 1)), (xz0), (by rfl), H', ⟨by have := HK1.out; have := HK2.out; omega⟩, ⟨by (try simp only [hl78002003_1]); (try simp only [hl78002003_2]); (with_reducible repeat (first | apply Kd.R_alloc | apply Kd.R_drewN | apply Kd.R_drew)); exact HOz0.out⟩, ⟨by (try simp only [hl78002003_1]); (try simp only [hl78002003_2]); (with_reducible repeat (first | refine blk_drewN ?_ _ | refine blk_drew ?_ | refine blk_alloc ?_ _)); exact BKz0.out⟩, ⟨by (with_reducible repeat (first | refine blk_drewN ?_ _ | refine blk_drew ?_ | refine blk_alloc ?_ _)); exact BKz1.out⟩, ⟨by exact HK.out⟩, ⟨by exact HB.out⟩⟩
   rw [if_neg c8] at H
   have c8b0 : decide (x8_1 < a3_1) = false := decide_eq_false c8
   clear c8
   obtain rfl := Option.some.inj H
   have hcz31_1 : wr.cell? ⟨gbz1, 1, none⟩ = some (.int .i64 a3_1) := (blk_cell BKz1.out 1).trans rfl
   go_wp2
   go_end0
   exact ⟨by rfl, HOz0.out, by exact HB.out, by exact HK.out⟩


mutual
def spec_FillImage.j0 : Nat → Int → Int → List Int → Bool → Option (Int × Int × Int × List Int)
 | 0, _, _, _, _ => none
 | k + 1, x0, x1, x2, x19 => if x19 = true then (some (0, 0, 0, ([] : List Int))) else ((spec_newImage.f x0 x1 (x2.length : Int)).bind fun btz0 => (spec_FillImage.l0 k x2 0 btz0.1 btz0.2.1 btz0.2.2.1 btz0.2.2.2))
def spec_FillImage.l0 : Nat → List Int → Int → Int → Int → Int → List Int → Option (Int × Int × Int × List Int)
 | 0, _, _, _, _, _, _ => none
 | k + 1, x2, x8, xz2, xz3, xz4, xz1 => if x8 < (xz1.length : Int) then (if (x2.length : Int) = 0 then none else (if 0 ≤ (Int.tmod x8 (x2.length : Int)) then (if (Int.tmod x8 (x2.length : Int)) < (x2.length : Int) then (if 0 ≤ x8 then (spec_FillImage.l0 k x2 (wrap64 (x8 + 1)) xz2 xz3 xz4 (xz1.set (x8 : Int).toNat (rd x2 (Int.tmod x8 (x2.length : Int))))) else none) else none) else none)) else (some (xz2, xz3, xz4, xz1))
end
def spec_FillImage.f (k : Nat) (a0 : Int) (a1 : Int) (l2 : List Int) : Option (Int × Int × Int × List Int) := (spec_validShape.f a0 a1 (l2.length : Int)).bind fun tz4 => (if tz4 = true then ((spec_allIn.f k l2 0 255).bind fun tz3 => (spec_FillImage.j0 k a0 a1 l2 (!tz3))) else (spec_FillImage.j0 k a0 a1 l2 true))
theorem spec_FillImage.mono_l : ∀ k, (∀ y0 y1 y2 y3, LeO (spec_FillImage.j0 k y0 y1 y2 y3) (spec_FillImage.j0 (k + 1) y0 y1 y2 y3)) ∧ (∀ y0 y1 y2 y3 y4 y5, LeO (spec_FillImage.l0 k y0 y1 y2 y3 y4 y5) (spec_FillImage.l0 (k + 1) y0 y1 y2 y3 y4 y5))
 | 0 => ⟨fun _ _ _ _ r h => by simp [spec_FillImage.j0] at h, fun _ _ _ _ _ _ r h => by simp [spec_FillImage.l0] at h⟩
 | k + 1 => by
  obtain ⟨ih0, ih1⟩ := spec_FillImage.mono_l k
  refine ⟨?_, ?_⟩
  ·intro y0 y1 y2 y3
   unfold spec_FillImage.j0
   repeat' first | (with_reducible exact ih1 _ _ _ _ _ _) | (with_reducible exact LeO.refl _) | (with_reducible refine LeO.ite ?_ ?_) | (with_reducible refine LeO.bind ?_ (fun _ => ?_))
  intro y0 y1 y2 y3 y4 y5
  unfold spec_FillImage.l0
  repeat' first | (with_reducible exact ih1 _ _ _ _ _ _) | (with_reducible exact LeO.refl _) | (with_reducible refine LeO.ite ?_ ?_)
theorem spec_FillImage.mono : ∀ a0 a1 a2 k, LeO (spec_FillImage.f k a0 a1 a2) (spec_FillImage.f (k + 1) a0 a1 a2) := by
 intro a0 a1 a2 k
 obtain ⟨ih0, ih1⟩ := spec_FillImage.mono_l k
 unfold spec_FillImage.f
 repeat' first | (with_reducible exact ih0 _ _ _ _) | (with_reducible exact spec_allIn.mono _ _ _ _) | (with_reducible exact LeO.refl _) | (with_reducible refine LeO.ite ?_ ?_) | (with_reducible refine LeO.bind ?_ (fun _ => ?_))
def spec_FillImage.T7 : Bool × List (List Nat × List Nat) := (true, [([], []), ([0], [0]), ([], []), ([], []), ([], []), ([], []), ([5], [5]), ([4, 6], [4, 6]), ([3, 7], [3, 7]), ([8], [8]), ([1, 2, 0, 1, 2, 3, 4, 5, 6, 7, 8, 9], [1, 2]), ([10, 9, 0, 1, 2, 3, 4, 5, 6, 7, 8, 9], [9, 10])])
def spec_FillImage.B7 : List Nat := [0, 1, 0, 0, 0, 0, 32, 112, 248, 504, 1023, 2047]
theorem spec_FillImage.tab7 : rtab .any (opsOf Try.f78 7) = spec_FillImage.T7 := by kernel_rfl
theorem spec_FillImage.bits7 : waitsOk spec_FillImage.T7.2 spec_FillImage.B7 = true := by kernel_rfl
set_option maxHeartbeats 8000000 in
set_option maxRecDepth 100000 in
theorem spec_FillImage.calls (k : Nat) (a0 : Int) (a1 : Int) (A2 : Option Addr) (c2 : Nat) (l2 : List Int) (r1 : Int) (r2 : Int) (r3 : Int) (r4 : List Int) (w : World) (hr2 : Kd.C (Kd.int .i64) w A2 l2.length l2) (hc2 : l2.length ≤ c2) (h : spec_FillImage.f k a0 a1 l2 = some (r1, r2, r3, r4)) :
  Calls Try.prog 78 #[.int .i64 a0, .int .i64 a1, .slice A2 l2.length c2] w fun e w' => ∃ v3_ : Value, e = .returned (.agg #[.int .i64 r1, .int .i64 r2, .int .i64 r3, v3_]) ∧ Kd.R (Kd.int .i64) 3 w' w.heap.size (fun _ => True) v3_ r4 ∧ Below w.heap.size w w' := by
 have HR2 := mk hr2
 have HC2 := mk hc2
 clear hr2 hc2
 have HB := mk (Below.refl w.heap.size w)
 have H : ((spec_validShape.f a0 a1 (l2.length : Int)).bind fun tz4 => (if tz4 = true then ((spec_allIn.f k l2 0 255).bind fun tz3 => (spec_FillImage.j0 k a0 a1 l2 (!tz3))) else (spec_FillImage.j0 k a0 a1 l2 true))) = some (r1, r2, r3, r4) := h
 clear h
 have HC4 := mk H
 clear H
 go_enter Try.func78, Try.ntmps78
 go_upto_region 1 with (first | ((with_reducible refine gate_dst (N := 6) rfl ?_); refine box_event (by rfl) (N := 6) (by rfl) (cs := #[.int .i64 0, .int .i64 0, .int .i64 0, .slice none 0 0]) (t := 28) (by go_simp; done) ?_; intro gbz1 hg w5 hbox hb; have BKz0 := mk (hbox); have GEz0 := mk ((by rw [hg]; exact (below_size HB.out) : w.heap.size ≤ gbz1)); replace HB := mk (below_step HB.out hb); clear hb hbox hg))
 (try simp only [Act.put, List.setIfInBounds_toArray, List.set_cons_zero, List.set_cons_succ])
 go_cut [19] (fun v19 wc => ∃ (kq : Nat) (x19_3 : Bool), v19 = .bool x19_3 ∧ Aside0 (spec_FillImage.j0 kq a0 a1 l2 x19_3 = some (r1, r2, r3, r4)) ∧ Aside0 (kq ≤ k) ∧ Aside0 (wc.heap[gbz1]? = some (.cells #[.int .i64 0, .int .i64 0, .int .i64 0, (.slice none 0 0)] 28 (0, 0))) ∧ Aside0 (Below w.heap.size w wc))
 case first =>
  have H := HC4.out
  clear HC4
  replace H := Option.bind_eq_some_iff.mp H
  obtain ⟨tz4, A60, H⟩ := H
  replace H : (if tz4 = true then ((spec_allIn.f k l2 0 255).bind fun tz3 => (spec_FillImage.j0 k a0 a1 l2 (!tz3))) else (spec_FillImage.j0 k a0 a1 l2 true)) = some (r1, r2, r3, r4) := H
  have A6 := mk A60
  clear A60
  by_cases c7 : tz4 = true
  ·subst c7
   have H1 : ((spec_allIn.f k l2 0 255).bind fun tz3 => (spec_FillImage.j0 k a0 a1 l2 (!tz3))) = some (r1, r2, r3, r4) := by rw [if_pos rfl] at H; exact H
   clear H
   have H := H1
   clear H1
   replace H := Option.bind_eq_some_iff.mp H
   obtain ⟨tz3, A80, H⟩ := H
   replace H : (spec_FillImage.j0 k a0 a1 l2 (!tz3)) = some (r1, r2, r3, r4) := H
   have A8 := mk A80
   clear A80
   have H' := mk H
   clear H
   go_wp2_with (first | ((with_reducible refine gate_callee (f := 69) rfl ?_); refine goesL_ (some 13) rfl rfl Try.func69 (by kernel_rfl) rfl #[.int .i64 a0, .int .i64 a1, .int .i64 (l2.length : Int)] rfl (by (try simp only [List.map_toArray, List.map_cons, List.map_nil]); rfl) ?_; (with_reducible refine (spec_validShape.calls a0 a1 (l2.length : Int) true _ A6.out).mono ?_); rintro e w' ⟨rfl, ⟨nd, rfl⟩⟩; refine ⟨_, rfl, ?_⟩) | (go_at_call 70; (with_reducible refine (spec_allIn.calls k _ _ l2 0 255 tz3 _ ?side1 ?side2 A8.out).mono ?_); (case side1 => repeat (exact (Kd.C_below HR2.out (by repeat (with_reducible first | exact HB.out | apply pw_below_drewN))))); (case side2 => exact HC2.out); rintro e w' ⟨rfl, ⟨nd, rfl⟩⟩))
   go_meet
   case rel => exact ⟨_, (!tz3), (by rfl), H', ⟨by omega⟩, ⟨by (with_reducible repeat (refine blk_drewN ?_ _)); exact BKz0.out⟩, ⟨by repeat (with_reducible first | exact HB.out | apply pw_below_drewN)⟩⟩
  replace c7 := Bool.eq_false_iff.mpr c7
  subst c7
  have H1 : (spec_FillImage.j0 k a0 a1 l2 true) = some (r1, r2, r3, r4) := by rw [if_neg (show ¬ (false = true) by decide)] at H; exact H
  clear H
  have H := H1
  clear H1
  have H' := mk H
  clear H
  go_wp2_with (first | ((with_reducible refine gate_callee (f := 69) rfl ?_); refine goesL_ (some 13) rfl rfl Try.func69 (by kernel_rfl) rfl #[.int .i64 a0, .int .i64 a1, .int .i64 (l2.length : Int)] rfl (by (try simp only [List.map_toArray, List.map_cons, List.map_nil]); rfl) ?_; (with_reducible refine (spec_validShape.calls a0 a1 (l2.length : Int) false _ A6.out).mono ?_); rintro e w' ⟨rfl, ⟨nd, rfl⟩⟩; refine ⟨_, rfl, ?_⟩))
  go_meet
  case rel => exact ⟨_, (true), (by rfl), H', ⟨by omega⟩, ⟨by (with_reducible repeat (refine blk_drewN ?_ _)); exact BKz0.out⟩, ⟨by repeat (with_reducible first | exact HB.out | apply pw_below_drewN)⟩⟩
 case rest =>
  clear HC4
  try clear c2
  try clear p2
  try clear c6
  try clear c7
  obtain ⟨kq, x19_3, rfl, HA, HJ3, BKz0, HB⟩ := hcut
  cases kq with
  | zero => exact absurd HA.out (by simp [spec_FillImage.j0])
  | succ kj3 =>
   have H := HA.out
   clear HA
   simp only [spec_FillImage.j0] at H
   by_cases c9 : x19_3 = true
   ·subst c9
    have H1 : (some (0, 0, 0, ([] : List Int))) = some (r1, r2, r3, r4) := by rw [if_pos rfl] at H; exact H
    clear H
    have H := H1
    clear H1
    simp only [Option.some.injEq, Prod.mk.injEq] at H
    obtain ⟨rfl, rfl, rfl, rfl⟩ := H
    have hcz10_0 : wc.cell? ⟨gbz1, 0, none⟩ = some (.int .i64 0) := (blk_cell BKz0.out 0).trans rfl
    have hcz10_1 : wc.cell? ⟨gbz1, 1, none⟩ = some (.int .i64 0) := (blk_cell BKz0.out 1).trans rfl
    have hcz10_2 : wc.cell? ⟨gbz1, 2, none⟩ = some (.int .i64 0) := (blk_cell BKz0.out 2).trans rfl
    have hcz10_3 : wc.cell? ⟨gbz1, 3, none⟩ = some (.slice none 0 0) := (blk_cell BKz0.out 3).trans rfl
    have hfz10_0 := blk_frozen BKz0.out 0
    have hfz10_1 := blk_frozen BKz0.out 1
    have hfz10_2 := blk_frozen BKz0.out 2
    have hfz10_3 := blk_frozen BKz0.out 3
    go_wp2
    refine bodyPost_ret (results_cell_row rfl _ _ gbz1 28 #[.int .i64 0, .int .i64 0, .int .i64 0, .slice none 0 0] (0, 0) _ rfl (by refine blk_put (cs := #[.int .i64 0, .int .i64 0, .int .i64 0, .slice none 0 0]) ?_ 3 _ rfl; refine blk_put (cs := #[.int .i64 0, .int .i64 0, .int .i64 0, .slice none 0 0]) ?_ 2 _ rfl; refine blk_put (cs := #[.int .i64 0, .int .i64 0, .int .i64 0, .slice none 0 0]) ?_ 1 _ rfl; refine blk_put (cs := #[.int .i64 0, .int .i64 0, .int .i64 0, .slice none 0 0]) ?_ 0 _ rfl; (with_reducible repeat (first | refine blk_drewN ?_ _ | refine blk_drew ?_ | refine blk_alloc ?_ _)); exact BKz0.out) Try.underlying28 rfl (by kernel_rfl)) rfl ?_
    exact ⟨_, by rfl, by exact Kd.R_nil _ _ _ _ _, by repeat (with_reducible first | exact HB.out | refine below_set ?_ GEz0.out)⟩
   replace c9 := Bool.eq_false_iff.mpr c9
   subst c9
   have H1 : ((spec_newImage.f a0 a1 (l2.length : Int)).bind fun btz0 => (spec_FillImage.l0 kj3 l2 0 btz0.1 btz0.2.1 btz0.2.2.1 btz0.2.2.2)) = some (r1, r2, r3, r4) := by rw [if_neg (show ¬ (false = true) by decide)] at H; exact H
   clear H
   have H := H1
   clear H1
   replace H := Option.bind_eq_some_iff.mp H
   obtain ⟨⟨tz0, tz1, tz2, tz5⟩, A110, H⟩ := H
   replace H : (spec_FillImage.l0 kj3 l2 0 tz0 tz1 tz2 tz5) = some (r1, r2, r3, r4) := H
   have A11 := mk A110
   clear A110
   have H' := mk H
   clear H
   go_wp2_with (first | ((with_reducible refine gate_callee (f := 96) rfl ?_); refine goesL_ (some 25) rfl rfl Try.func96 (by kernel_rfl) rfl #[.int .i64 a0, .int .i64 a1, .int .i64 (l2.length : Int)] rfl (by (try simp only [List.map_toArray, List.map_cons, List.map_nil]); rfl) ?_; (with_reducible refine (spec_newImage.calls a0 a1 (l2.length : Int) tz0 tz1 tz2 tz5 _ A11.out).mono ?_); rintro e w12 ⟨vz0, rfl, ho0, hb⟩; refine ⟨_, rfl, ?_⟩; have HOz1 := mk (Kd.R_lower ho0 (below_size HB.out)); replace BKz0 := mk (blk_below BKz0.out hb); replace HB := mk (below_step HB.out hb); (try clear hb); (try clear ho0)) | ((with_reducible refine gate_dst (N := 7) rfl ?_); refine box_event (by rfl) (N := 7) (by rfl) (cs := #[.int .i64 0, .int .i64 0, .int .i64 0, .slice none 0 0]) (t := 28) (by go_simp; done) ?_; intro gbz0 hg w13 hbox hb; replace HOz1 := mk (Kd.R_below HOz1.out hb); have BKz1 := mk (hbox); have GEz1 := mk ((by rw [hg]; exact (below_size HB.out) : w.heap.size ≤ gbz0)); replace HB := mk (below_step HB.out hb); have NBz0 := mk ((by rw [hg]; exact Nat.ne_of_lt (blk_lt BKz0.out) : gbz1 ≠ gbz0)); replace BKz0 := mk (blk_below BKz0.out hb); clear hb hbox hg; have hcz15_0 : w13.cell? ⟨gbz0, 0, none⟩ = some (.int .i64 0) := (blk_cell BKz1.out 0).trans rfl; have hcz15_1 : w13.cell? ⟨gbz0, 1, none⟩ = some (.int .i64 0) := (blk_cell BKz1.out 1).trans rfl; have hcz15_2 : w13.cell? ⟨gbz0, 2, none⟩ = some (.int .i64 0) := (blk_cell BKz1.out 2).trans rfl; have hcz15_3 : w13.cell? ⟨gbz0, 3, none⟩ = some (.slice none 0 0) := (blk_cell BKz1.out 3).trans rfl; have hfz15_0 := blk_frozen BKz1.out 0; have hfz15_1 := blk_frozen BKz1.out 1; have hfz15_2 := blk_frozen BKz1.out 2; have hfz15_3 := blk_frozen BKz1.out 3; obtain ⟨Ao16, co16, eo16⟩ := Kd.R_slice HOz1.out; subst eo16))
   go_loopg [8] kj3 (fun kq v8 w' => ∃ (x8_2 : Int) (xz0 : List Int) (u79011003 : Value), v8 = .int .i64 x8_2 ∧ Aside0 (spec_FillImage.l0 kq l2 x8_2 tz0 tz1 tz2 xz0 = some (r1, r2, r3, r4)) ∧ Aside0 (kq ≤ kj3) ∧ Aside0 (Kd.R (Kd.int .i64) 3 w' w.heap.size (fun _ => True) u79011003 xz0) ∧ Aside0 (w'.heap[gbz1]? = some (.cells #[.int .i64 0, .int .i64 0, .int .i64 0, (.slice none 0 0)] 28 (0, 0))) ∧ Aside0 (w'.heap[gbz0]? = some (.cells #[.int .i64 tz0, .int .i64 tz1, .int .i64 tz2, u79011003] 28 (0, 0))) ∧ Aside0 (Below w.heap.size w w'))
   case atStart => exact ⟨(0), (tz5), (.slice Ao16 tz5.length co16), (by rfl), H', ⟨Nat.le_refl _⟩, ⟨by (with_reducible repeat (first | apply Kd.R_alloc | apply Kd.R_drewN | apply Kd.R_drew)); exact Kd.R_mono (Kd.R_far (p := ⟨gbz0, 3, none⟩) (Kd.R_far (p := ⟨gbz0, 2, none⟩) (Kd.R_far (p := ⟨gbz0, 1, none⟩) (Kd.R_far (p := ⟨gbz0, 0, none⟩) (Kd.R_types HOz1.out BKz1.out (by decide)) (fun _ hk => hk.2) (.int .i64 tz0)) (fun _ hk => hk.2) (.int .i64 tz1)) (fun _ hk => hk.2) (.int .i64 tz2)) (fun _ hk => hk.2) (.slice Ao16 tz5.length co16)) (fun _ hk => trivial)⟩, ⟨by refine blk_far ?_ NBz0.out _; refine blk_far ?_ NBz0.out _; refine blk_far ?_ NBz0.out _; refine blk_far ?_ NBz0.out _; (with_reducible repeat (first | refine blk_drewN ?_ _ | refine blk_drew ?_ | refine blk_alloc ?_ _)); exact BKz0.out⟩, ⟨by refine blk_put (cs := #[.int .i64 tz0, .int .i64 tz1, .int .i64 tz2, .slice none 0 0]) ?_ 3 _ rfl; refine blk_put (cs := #[.int .i64 tz0, .int .i64 tz1, .int .i64 0, .slice none 0 0]) ?_ 2 _ rfl; refine blk_put (cs := #[.int .i64 tz0, .int .i64 0, .int .i64 0, .slice none 0 0]) ?_ 1 _ rfl; refine blk_put (cs := #[.int .i64 0, .int .i64 0, .int .i64 0, .slice none 0 0]) ?_ 0 _ rfl; (with_reducible repeat (first | refine blk_drewN ?_ _ | refine blk_drew ?_ | refine blk_alloc ?_ _)); exact BKz1.out⟩, ⟨by repeat (with_reducible first | exact HB.out | refine below_set ?_ GEz1.out)⟩⟩
   case round =>
    clear H'
    try clear c1
    try clear c2
    try clear p2
    try clear c6
    try clear c7
    try clear c9
    try clear c14
    try clear hcz10_0
    try clear hcz10_1
    try clear hcz10_2
    try clear hcz10_3
    try clear hcz15_0
    try clear hcz15_1
    try clear hcz15_2
    try clear hcz15_3
    try clear hfz10_0
    try clear hfz10_1
    try clear hfz10_2
    try clear hfz10_3
    try clear hfz15_0
    try clear hfz15_1
    try clear hfz15_2
    try clear hfz15_3
    try clear p2
    obtain ⟨x8_2, xz0, u79011003, rfl, HA, HK2, HOz0, BKz0, BKz1, HB⟩ := hrel
    cases gk with
    | zero => exact absurd HA.out (by simp [spec_FillImage.l0])
    | succ k2 =>
     have H := HA.out
     clear HA
     simp only [spec_FillImage.l0] at H
     by_cases c17 : x8_2 < (xz0.length : Int)
     ·rw [if_pos c17] at H
      have c17b0 : decide (x8_2 < (xz0.length : Int)) = true := decide_eq_true c17
      clear c17
      by_cases c18 : (l2.length : Int) = 0
      ·rw [if_pos c18] at H
       exact absurd H (by simp)
      rw [if_neg c18] at H
      have c18b2 : ¬ (l2 = []) := fun h_ => c18 (by rw [h_]; rfl)
      obtain ⟨ji19, hji19⟩ : ∃ j_ : Int, (Int.tmod x8_2 (l2.length : Int)) = j_ := ⟨_, rfl⟩
      replace H : (if 0 ≤ ji19 then (if ji19 < (l2.length : Int) then (if 0 ≤ x8_2 then (spec_FillImage.l0 k2 l2 (wrap64 (x8_2 + 1)) tz0 tz1 tz2 (xz0.set (x8_2 : Int).toNat (rd l2 ji19))) else none) else none) else none) = some (r1, r2, r3, r4) := by (rw [hji19] at H; exact H)
      by_cases c20 : 0 ≤ (ji19)
      ·rw [if_pos c20] at H
       have c20b0 : decide (0 ≤ ji19) = true := decide_eq_true c20
       clear c20
       by_cases c21 : ji19 < (l2.length : Int)
       ·rw [if_pos c21] at H
        have c21b0 : decide (ji19 < (l2.length : Int)) = true := decide_eq_true c21
        clear c21
        by_cases c22 : 0 ≤ x8_2
        ·rw [if_pos c22] at H
         have c22b0 : decide (0 ≤ x8_2) = true := decide_eq_true c22
         clear c22
         obtain ⟨yz0, hyz0⟩ : ∃ y_ : List Int, y_ = (xz0.set (x8_2 : Int).toNat (rd l2 ji19)) := ⟨_, rfl⟩
         replace H : (spec_FillImage.l0 k2 l2 (wrap64 (x8_2 + 1)) tz0 tz1 tz2 yz0) = some (r1, r2, r3, r4) := by (rw [hyz0]; with_reducible exact H)
         have Nyz0 := mk hyz0
         clear hyz0
         have H' := mk H
         clear H
         have hcz25_3 : wr.cell? ⟨gbz0, 3, none⟩ = some u79011003 := (blk_cell BKz1.out 3).trans rfl
         obtain ⟨Ao26, co26, eo26⟩ := Kd.R_slice HOz0.out
         subst eo26
         try go_wp2
         have n0_ := mk (Kd.R_drew HOz0.out)
         have n1_ := mk (blk_drew BKz0.out)
         have n2_ := mk (blk_drew BKz1.out)
         have n3_ := mk (below_drew1 HB.out)
         clear HOz0 BKz0 BKz1 HB
         revert n0_ n1_ n2_ n3_; intro HOz0 BKz0 BKz1 HB
         have p79011 : 0 ≤ (ji19 : Int) := of_decide_eq_true (by (with_reducible assumption))
         have q79011 : ji19 < (l2.length : Int) := of_decide_eq_true (by (with_reducible assumption))
         obtain ⟨ad79011, e79011, hx79011_0⟩ := Kd.at_int HR2.out ji19 p79011 q79011
         have hw79011_0 := hx79011_0
         cases e79011
         replace hx79011_0 := (HB.out.cell (World.block_lt_of_cell? w _ hx79011_0)).trans hx79011_0
         replace p79011 := eq_true p79011
         replace q79011 := eq_true q79011
         have p23 : 0 ≤ (x8_2 : Int) := of_decide_eq_true (by (with_reducible assumption))
         have q23 : (x8_2 : Int) < ((xz0.length : Int) : Int) := of_decide_eq_true (by (with_reducible assumption))
         obtain ⟨go23, co23, eo23, gb23, gl23, cl23, HG23⟩ := Kd.R_form HOz0.out (by omega)
         (cases eo23)
         have GB23 := mk gb23
         have GG23 := mk HG23
         clear gb23 gl23 HG23
         obtain ⟨hx23_0, hf23_0⟩ := Kd.R_celln 0 HOz0.out (x8_2 : Int) p23 q23
         replace p23 := eq_true p23
         replace q23 := eq_true q23
         have HP28 := Kd.R_putn HOz0.out (x8_2 : Int) (rd l2 ji19)
         rw [← Nyz0.out] at HP28
         have HQ28 := mk HP28
         clear HP28
         refine start_ (n := 12) (S := fun w' => w'.cell? ⟨gbz0, 0, none⟩ = some (.int .i64 tz0) ∧ w'.cell? ⟨gbz0, 1, none⟩ = some (.int .i64 tz1) ∧ w'.cell? ⟨gbz0, 2, none⟩ = some (.int .i64 tz2) ∧ w'.cell? ⟨gbz0, 3, none⟩ = some (.slice (some ⟨go23, 0, none⟩) xz0.length co26) ∧ w'.cell? (ad79011.add (ji19).toNat) = some (.int .i64 (rd l2 ji19))) (ds := [11]) #[false, false, false, false, false, false, false, false, false, false, false, false] (by kernel_rfl) rfl rfl ⟨(blk_cell BKz1.out 0).trans rfl, (blk_cell BKz1.out 1).trans rfl, (blk_cell BKz1.out 2).trans rfl, (blk_cell BKz1.out 3).trans rfl, ((HB.out.cell (World.block_lt_of_cell? w _ hw79011_0)).trans hw79011_0)⟩ (fun hHeld => ?_); refine with_tabW spec_FillImage.tab7 spec_FillImage.bits7 (fun HT_ HW_ => ?_)
         generalize wr.drew = w27 at HOz0 BKz0 BKz1 HB GG23 HQ28 hf23_0 hx23_0 hx79011_0 hHeld ⊢
         refine pure_ (i := 0) (N := some 33) (v := ?_) (a' := ?_) #[true, false, false, false, false, false, false, false, false, false, false, false] rfl rfl (any_of HT_.out (by kernel_rfl)) (fun _ _ _ h => h) (Or.inl ⟨by rfl, ?_⟩) ?_ ?_
         rotate_left
         ·intro w'
          go_simp
          with_reducible rfl
         rotate_left
         ·simp only [Act.put, List.setIfInBounds_toArray, List.set_cons_zero, List.set_cons_succ, i64_w, i32_w]
          rfl
         refine pure_ (i := 2) (N := some 35) (v := ?_) (a' := ?_) #[true, false, true, false, false, false, false, false, false, false, false, false] rfl rfl (any_of HT_.out (by kernel_rfl)) (fun _ _ _ h => h) (Or.inl ⟨by rfl, ?_⟩) ?_ ?_
         rotate_left
         ·intro w'
          go_simp
          with_reducible rfl
         rotate_left
         ·simp only [Act.put, List.setIfInBounds_toArray, List.set_cons_zero, List.set_cons_succ, i64_w, i32_w]
          rfl
         refine pure_ (i := 3) (N := some 36) (v := ?_) (a' := ?_) #[true, false, true, true, false, false, false, false, false, false, false, false] rfl rfl (any_of HT_.out (by kernel_rfl)) (fun _ _ _ h => h) (Or.inl ⟨by rfl, ?_⟩) ?_ ?_
         rotate_left
         ·intro w'
          go_simp
          with_reducible rfl
         rotate_left
         ·simp only [Act.put, List.setIfInBounds_toArray, List.set_cons_zero, List.set_cons_succ, i64_w, i32_w]
          rfl
         refine pure_ (i := 4) (N := some 37) (v := ?_) (a' := ?_) #[true, false, true, true, true, false, false, false, false, false, false, false] rfl rfl (any_of HT_.out (by kernel_rfl)) (fun _ _ _ h => h) (Or.inl ⟨by rfl, ?_⟩) ?_ ?_
         rotate_left
         ·intro w'
          go_simp
          with_reducible rfl
         rotate_left
         ·simp only [Act.put, List.setIfInBounds_toArray, List.set_cons_zero, List.set_cons_succ, i64_w, i32_w]
          rfl
         refine pure_ (i := 5) (N := some 38) (v := ?_) (a' := ?_) #[true, false, true, true, true, true, false, false, false, false, false, false] rfl rfl (any_of HT_.out (by kernel_rfl)) (fun _ _ _ h => h) (Or.inl ⟨by rfl, ?_⟩) ?_ ?_
         rotate_left
         ·intro w'
          go_simp
          with_reducible rfl
         rotate_left
         ·simp only [Act.put, List.setIfInBounds_toArray, List.set_cons_zero, List.set_cons_succ, i64_w, i32_w]
          rfl
         refine pure_ (i := 6) (N := some 39) (v := ?_) (a' := ?_) #[true, false, true, true, true, true, true, false, false, false, false, false] rfl rfl (any_of HT_.out (by kernel_rfl)) (fun _ _ _ h => h) (Or.inl ⟨by rfl, ?_⟩) ?_ ?_
         rotate_left
         ·intro w'
          go_simp
          with_reducible rfl
         rotate_left
         ·simp only [Act.put, List.setIfInBounds_toArray, List.set_cons_zero, List.set_cons_succ, i64_w, i32_w]
          rfl
         refine pure_ (i := 7) (N := some 40) (v := ?_) (a' := ?_) #[true, false, true, true, true, true, true, true, false, false, false, false] rfl rfl (any_of HT_.out (by kernel_rfl)) (fun _ _ _ h => h) (Or.inl ⟨by rfl, ?_⟩) ?_ ?_
         rotate_left
         ·intro w'
          go_simp
          with_reducible rfl
         rotate_left
         ·simp only [Act.put, List.setIfInBounds_toArray, List.set_cons_zero, List.set_cons_succ, i64_w, i32_w]
          rfl
         refine pure_ (i := 8) (N := some 41) (v := ?_) (a' := ?_) #[true, false, true, true, true, true, true, true, true, false, false, false] rfl rfl (any_of HT_.out (by kernel_rfl)) (fun _ _ _ h => h) (Or.inl ⟨by rfl, ?_⟩) ?_ ?_
         rotate_left
         ·intro w'
          go_simp
          with_reducible rfl
         rotate_left
         ·simp only [Act.put, List.setIfInBounds_toArray, List.set_cons_zero, List.set_cons_succ, i64_w, i32_w]
          rfl
         refine take_ (i := 1) (N := some 34) (v := ?_) (a' := ?_) #[true, true, true, true, true, true, true, true, true, false, false, false] rfl rfl (take_ofW HT_.out HW_.out (by kernel_rfl)) (fun _ _ _ h => h) (Or.inl ⟨by rfl, ?_⟩) hHeld ?_ ?_
         rotate_left
         ·rintro w' ⟨s0, s1, s2, s3, s4⟩
          go_simp
          with_reducible rfl
         rotate_left
         ·simp only [Act.put, List.setIfInBounds_toArray, List.set_cons_zero, List.set_cons_succ, i64_w, i32_w]
          rfl
         refine take_ (i := 9) (N := some 42) (v := ?_) (a' := ?_) #[true, true, true, true, true, true, true, true, true, true, false, false] rfl rfl (take_ofW HT_.out HW_.out (by kernel_rfl)) (fun _ _ _ h => h) (Or.inl ⟨by rfl, ?_⟩) hHeld ?_ ?_
         rotate_left
         ·rintro w' ⟨s0, s1, s2, s3, s4⟩
          go_simp
          with_reducible rfl
         rotate_left
         ·simp only [Act.put, List.setIfInBounds_toArray, List.set_cons_zero, List.set_cons_succ, i64_w, i32_w]
          rfl
         refine pure_ (i := 10) (N := some 43) (v := ?_) (a' := ?_) #[true, true, true, true, true, true, true, true, true, true, true, false] rfl rfl (any_of HT_.out (by kernel_rfl)) (fun _ _ _ h => h) (Or.inl ⟨by rfl, ?_⟩) ?_ ?_
         rotate_left
         ·intro w'
          go_simp
          with_reducible rfl
         rotate_left
         ·simp only [Act.put, List.setIfInBounds_toArray, List.set_cons_zero, List.set_cons_succ, i64_w, i32_w]
          rfl
         refine last_ (i := 11) (N := none) #[true, true, true, true, true, true, true, true, true, true, true, true] rfl rfl (one_of HT_.out (by kernel_rfl)) (by decide) (fun K hK => ?_)
         refine skip_ (w1 := ?_) (by rfl) rfl ?_ ?_
         rotate_left
         ·go_simp
          rfl
         refine hK.out _ _ ?_
         clear hK K
         refine done_ (done_of HT_.out (by kernel_rfl)) ?_
         try go_wp2
         go_roundg k2
         case measure => have := HJ3.out; have := HK2.out; omega
         case rel => exact ⟨(wrap64 (x8_2 + 1)), (yz0), (.slice (some ⟨go23, 0, none⟩) xz0.length co26), (by rfl), H', ⟨by have := HJ3.out; have := HK2.out; omega⟩, ⟨by (with_reducible repeat (first | apply Kd.R_alloc | apply Kd.R_drewN | apply Kd.R_drew)); exact HQ28.out⟩, ⟨by refine blk_far ?_ (by have h_ := Kd.R_ne HOz0.out BKz0.out (by decide); intro e_; exact h_ (by rw [e_]; rfl)) _; (with_reducible repeat (first | refine blk_drewN ?_ _ | refine blk_drew ?_ | refine blk_alloc ?_ _)); exact BKz0.out⟩, ⟨by refine blk_far ?_ (by have h_ := Kd.R_ne HOz0.out BKz1.out (by decide); intro e_; exact h_ (by rw [e_]; rfl)) _; (with_reducible repeat (first | refine blk_drewN ?_ _ | refine blk_drew ?_ | refine blk_alloc ?_ _)); exact BKz1.out⟩, ⟨by repeat (with_reducible first | exact HB.out | refine below_set ?_ GB23.out)⟩⟩
        rw [if_neg c22] at H
        exact absurd H (by simp)
       rw [if_neg c21] at H
       exact absurd H (by simp)
      rw [if_neg c20] at H
      exact absurd H (by simp)
     rw [if_neg c17] at H
     have c17b0 : decide (x8_2 < (xz0.length : Int)) = false := decide_eq_false c17
     clear c17
     simp only [Option.some.injEq, Prod.mk.injEq] at H
     obtain ⟨rfl, rfl, rfl, rfl⟩ := H
     have hcz30_0 : wr.cell? ⟨gbz0, 0, none⟩ = some (.int .i64 tz0) := (blk_cell BKz1.out 0).trans rfl
     have hcz30_1 : wr.cell? ⟨gbz0, 1, none⟩ = some (.int .i64 tz1) := (blk_cell BKz1.out 1).trans rfl
     have hcz30_2 : wr.cell? ⟨gbz0, 2, none⟩ = some (.int .i64 tz2) := (blk_cell BKz1.out 2).trans rfl
     have hcz30_3 : wr.cell? ⟨gbz0, 3, none⟩ = some u79011003 := (blk_cell BKz1.out 3).trans rfl
     obtain ⟨Ao31, co31, eo31⟩ := Kd.R_slice HOz0.out
     subst eo31
     have hcz32_0 : wr.cell? ⟨gbz1, 0, none⟩ = some (.int .i64 0) := (blk_cell BKz0.out 0).trans rfl
     have hcz32_1 : wr.cell? ⟨gbz1, 1, none⟩ = some (.int .i64 0) := (blk_cell BKz0.out 1).trans rfl
     have hcz32_2 : wr.cell? ⟨gbz1, 2, none⟩ = some (.int .i64 0) := (blk_cell BKz0.out 2).trans rfl
     have hcz32_3 : wr.cell? ⟨gbz1, 3, none⟩ = some (.slice none 0 0) := (blk_cell BKz0.out 3).trans rfl
     have hfz32_0 := blk_frozen BKz0.out 0
     have hfz32_1 := blk_frozen BKz0.out 1
     have hfz32_2 := blk_frozen BKz0.out 2
     have hfz32_3 := blk_frozen BKz0.out 3
     go_wp2
     refine bodyPost_ret (results_cell_row rfl _ _ gbz1 28 #[.int .i64 tz0, .int .i64 tz1, .int .i64 tz2, .slice Ao31 xz0.length co31] (0, 0) _ rfl (by refine blk_put (cs := #[.int .i64 tz0, .int .i64 tz1, .int .i64 tz2, .slice none 0 0]) ?_ 3 _ rfl; refine blk_put (cs := #[.int .i64 tz0, .int .i64 tz1, .int .i64 0, .slice none 0 0]) ?_ 2 _ rfl; refine blk_put (cs := #[.int .i64 tz0, .int .i64 0, .int .i64 0, .slice none 0 0]) ?_ 1 _ rfl; refine blk_put (cs := #[.int .i64 0, .int .i64 0, .int .i64 0, .slice none 0 0]) ?_ 0 _ rfl; (with_reducible repeat (first | refine blk_drewN ?_ _ | refine blk_drew ?_ | refine blk_alloc ?_ _)); exact BKz0.out) Try.underlying28 rfl (by kernel_rfl)) rfl ?_
     exact ⟨_, by rfl, by (with_reducible repeat (first | apply Kd.R_alloc | apply Kd.R_drewN | apply Kd.R_drew)); exact Kd.R_mono (Kd.R_far (p := ⟨gbz1, 3, none⟩) (Kd.R_far (p := ⟨gbz1, 2, none⟩) (Kd.R_far (p := ⟨gbz1, 1, none⟩) (Kd.R_far (p := ⟨gbz1, 0, none⟩) (Kd.R_types HOz0.out BKz0.out (by decide)) (fun _ hk => hk.2) (.int .i64 tz0)) (fun _ hk => hk.2) (.int .i64 tz1)) (fun _ hk => hk.2) (.int .i64 tz2)) (fun _ hk => hk.2) (.slice Ao31 xz0.length co31)) (fun _ hk => trivial), by repeat (with_reducible first | exact HB.out | refine below_set ?_ GEz0.out)⟩


def spec_doStep.j0 : Nat → Bool → Int → Int → Int → List Int → Int → Int → Int → Int → Int → List Int → Option (Int × Int × Int × List Int × Bool)
 | 0, _, _, _, _, _, _, _, _, _, _, _ => none
 | k + 1, x49, xz0, xz1, xz2, xz3, xz9, xz4, xz5, xz6, xz7, xz8 => if x49 = true then (some (0, 0, 0, ([] : List Int), false)) else ((spec_copyImage.f xz0 xz1 xz2 xz3).bind fun btz0 => ((spec_FillImage.f k xz6 xz7 xz8).bind fun btz1 => ((spec_paste.f k btz0.1 btz0.2.1 btz0.2.2.1 btz0.2.2.2 xz4 xz5 btz1.1 btz1.2.1 btz1.2.2.1 btz1.2.2.2).bind fun tz5 => (some (btz0.1, btz0.2.1, btz0.2.2.1, tz5, true)))))
def spec_doStep.f (k : Nat) (a0_0 : Int) (a0_1 : Int) (a0_2 : Int) (l0_3 : List Int) (a1_0 : Int) (a1_1 : Int) (a1_2 : Int) (a1_3 : Int) (a1_4 : Int) (l1_5 : List Int) : Option (Int × Int × Int × List Int × Bool) := if a1_0 = 0 then ((spec_mirror.f k a0_0 a0_1 a0_2 l0_3).bind fun btz3 => (some (btz3.1, btz3.2.1, btz3.2.2.1, btz3.2.2.2, true))) else (if a1_0 = 1 then ((spec_turn.f k a0_0 a0_1 a0_2 l0_3).bind fun btz4 => (some (btz4.1, btz4.2.1, btz4.2.2.1, btz4.2.2.2, true))) else (if a1_0 = 2 then ((spec_InvertImage.f k a0_0 a0_1 a0_2 l0_3).bind fun btz5 => (some (btz5.1, btz5.2.1, btz5.2.2.1, btz5.2.2.2, true))) else (if a1_0 = 3 then ((spec_CropImage.f k a0_0 a0_1 a0_2 l0_3 a1_1 a1_2 a1_3 a1_4).bind fun btz2 => (some (btz2.1, btz2.2.1, btz2.2.2.1, btz2.2.2.2.1, btz2.2.2.2.2))) else (if a1_0 = 4 then ((spec_validBox.f a0_0 a0_1 a0_2 l0_3 a1_1 a1_2 a1_3 a1_4).bind fun tz10 => (if tz10 = true then (if (l1_5.length : Int) = a0_2 then ((spec_allIn.f k l1_5 0 255).bind fun tz4 => (spec_doStep.j0 k (!tz4) a0_0 a0_1 a0_2 l0_3 a1_0 a1_1 a1_2 a1_3 a1_4 l1_5)) else (spec_doStep.j0 k true a0_0 a0_1 a0_2 l0_3 a1_0 a1_1 a1_2 a1_3 a1_4 l1_5)) else (spec_doStep.j0 k true a0_0 a0_1 a0_2 l0_3 a1_0 a1_1 a1_2 a1_3 a1_4 l1_5))) else (some (0, 0, 0, ([] : List Int), false))))))
theorem spec_doStep.mono_l : ∀ k, (∀ y0 y1 y2 y3 y4 y5 y6 y7 y8 y9 y10, LeO (spec_doStep.j0 k y0 y1 y2 y3 y4 y5 y6 y7 y8 y9 y10) (spec_doStep.j0 (k + 1) y0 y1 y2 y3 y4 y5 y6 y7 y8 y9 y10))
 | 0 => fun _ _ _ _ _ _ _ _ _ _ _ r h => by simp [spec_doStep.j0] at h
 | k + 1 => by
  ·intro y0 y1 y2 y3 y4 y5 y6 y7 y8 y9 y10
   unfold spec_doStep.j0
   repeat' first | (with_reducible exact spec_FillImage.mono _ _ _ _) | (with_reducible exact spec_paste.mono _ _ _ _ _ _ _ _ _ _ _) | (with_reducible exact LeO.refl _) | (with_reducible refine LeO.ite ?_ ?_) | (with_reducible refine LeO.bind ?_ (fun _ => ?_))
theorem spec_doStep.mono : ∀ a0 a1 a2 a3 a4 a5 a6 a7 a8 a9 k, LeO (spec_doStep.f k a0 a1 a2 a3 a4 a5 a6 a7 a8 a9) (spec_doStep.f (k + 1) a0 a1 a2 a3 a4 a5 a6 a7 a8 a9) := by
 intro a0 a1 a2 a3 a4 a5 a6 a7 a8 a9 k
 have ih0 := spec_doStep.mono_l k
 unfold spec_doStep.f
 repeat' first | (with_reducible exact ih0 _ _ _ _ _ _ _ _ _ _ _) | (with_reducible exact spec_CropImage.mono _ _ _ _ _ _ _ _ _) | (with_reducible exact spec_InvertImage.mono _ _ _ _ _) | (with_reducible exact spec_allIn.mono _ _ _ _) | (with_reducible exact spec_mirror.mono _ _ _ _ _) | (with_reducible exact spec_turn.mono _ _ _ _ _) | (with_reducible exact LeO.refl _) | (with_reducible refine LeO.ite ?_ ?_) | (with_reducible refine LeO.bind ?_ (fun _ => ?_))
def spec_doStep.T14 : Bool × List (List Nat × List Nat) := (true, [([], []), ([], []), ([1], [1]), ([2], [2]), ([], []), ([4], [4]), ([5], [5]), ([], []), ([7], [7]), ([8], [8]), ([], []), ([10], [10]), ([11], [11]), ([], []), ([13], [13]), ([9, 12, 14], [9, 12, 14]), ([0, 3, 6, 15, 15], [0, 3, 6, 15])])
def spec_doStep.B14 : List Nat := [0, 0, 2, 6, 0, 16, 48, 0, 128, 384, 0, 1024, 3072, 0, 8192, 32640, 65535]
theorem spec_doStep.tab14 : rtab .any (opsOf Try.f41 14) = spec_doStep.T14 := by kernel_rfl
theorem spec_doStep.bits14 : waitsOk spec_doStep.T14.2 spec_doStep.B14 = true := by kernel_rfl
set_option maxHeartbeats 8000000 in
set_option maxRecDepth 100000 in
theorem spec_doStep.calls (k : Nat) (a0_0 : Int) (a0_1 : Int) (a0_2 : Int) (A0_3 : Option Addr) (c0_3 : Nat) (l0_3 : List Int) (a1_0 : Int) (a1_1 : Int) (a1_2 : Int) (a1_3 : Int) (a1_4 : Int) (A1_5 : Option Addr) (c1_5 : Nat) (l1_5 : List Int) (r1 : Int) (r2 : Int) (r3 : Int) (r4 : List Int) (r5 : Bool) (w : World) (hr0_3 : Kd.C (Kd.int .i64) w A0_3 l0_3.length l0_3) (hc0_3 : l0_3.length ≤ c0_3) (hr1_5 : Kd.C (Kd.int .i64) w A1_5 l1_5.length l1_5) (hc1_5 : l1_5.length ≤ c1_5) (h : spec_doStep.f k a0_0 a0_1 a0_2 l0_3 a1_0 a1_1 a1_2 a1_3 a1_4 l1_5 = some (r1, r2, r3, r4, r5)) :
  Calls Try.prog 41 #[.agg #[.int .i64 a0_0, .int .i64 a0_1, .int .i64 a0_2, .slice A0_3 l0_3.length c0_3], .agg #[.int .i64 a1_0, .int .i64 a1_1, .int .i64 a1_2, .int .i64 a1_3, .int .i64 a1_4, .slice A1_5 l1_5.length c1_5]] w fun e w' => ∃ v3_ : Value, e = .returned (.tuple #[.agg #[.int .i64 r1, .int .i64 r2, .int .i64 r3, v3_], .bool r5]) ∧ Kd.R (Kd.int .i64) 3 w' w.heap.size (fun _ => True) v3_ r4 ∧ Below w.heap.size w w' := by
 have HR0_3 := mk hr0_3
 have HC0_3 := mk hc0_3
 clear hr0_3 hc0_3
 have HR1_5 := mk hr1_5
 have HC1_5 := mk hc1_5
 clear hr1_5 hc1_5
 have HB := mk (Below.refl w.heap.size w)
 have H : (if a1_0 = 0 then ((spec_mirror.f k a0_0 a0_1 a0_2 l0_3).bind fun btz3 => (some (btz3.1, btz3.2.1, btz3.2.2.1, btz3.2.2.2, true))) else (if a1_0 = 1 then ((spec_turn.f k a0_0 a0_1 a0_2 l0_3).bind fun btz4 => (some (btz4.1, btz4.2.1, btz4.2.2.1, btz4.2.2.2, true))) else (if a1_0 = 2 then ((spec_InvertImage.f k a0_0 a0_1 a0_2 l0_3).bind fun btz5 => (some (btz5.1, btz5.2.1, btz5.2.2.1, btz5.2.2.2, true))) else (if a1_0 = 3 then ((spec_CropImage.f k a0_0 a0_1 a0_2 l0_3 a1_1 a1_2 a1_3 a1_4).bind fun btz2 => (some (btz2.1, btz2.2.1, btz2.2.2.1, btz2.2.2.2.1, btz2.2.2.2.2))) else (if a1_0 = 4 then ((spec_validBox.f a0_0 a0_1 a0_2 l0_3 a1_1 a1_2 a1_3 a1_4).bind fun tz10 => (if tz10 = true then (if (l1_5.length : Int) = a0_2 then ((spec_allIn.f k l1_5 0 255).bind fun tz4 => (spec_doStep.j0 k (!tz4) a0_0 a0_1 a0_2 l0_3 a1_0 a1_1 a1_2 a1_3 a1_4 l1_5)) else (spec_doStep.j0 k true a0_0 a0_1 a0_2 l0_3 a1_0 a1_1 a1_2 a1_3 a1_4 l1_5)) else (spec_doStep.j0 k true a0_0 a0_1 a0_2 l0_3 a1_0 a1_1 a1_2 a1_3 a1_4 l1_5))) else (some (0, 0, 0, ([] : List Int), false))))))) = some (r1, r2, r3, r4, r5) := h
 clear h
 by_cases c3 : a1_0 = 0
 ·rw [if_pos c3] at H
  have c3b0 : (a1_0 == 0) = true := beq_iff_eq.mpr c3
  clear c3
  replace H := Option.bind_eq_some_iff.mp H
  obtain ⟨⟨tz6, tz11, tz15, tz19⟩, A40, H⟩ := H
  replace H : (some (tz6, tz11, tz15, tz19, true)) = some (r1, r2, r3, r4, r5) := H
  have A4 := mk A40
  clear A40
  simp only [Option.some.injEq, Prod.mk.injEq] at H
  obtain ⟨rfl, rfl, rfl, rfl, rfl⟩ := H
  go_enter Try.func41, Try.ntmps41
  go_wp2_with (first | ((with_reducible refine gate_dst (N := 2) rfl ?_); (try (refine gate_guard (by rfl) ?_; dsimp only)); refine box_event (by rfl) (N := 2) (by rfl) (cs := #[.int .i64 a0_0, .int .i64 a0_1, .int .i64 a0_2, .slice A0_3 l0_3.length c0_3]) (t := 28) (by go_simp; done) ?_; intro gbz2 hg w5 hbox hb; replace HB := mk (below_step HB.out hb); have BKz1 := mk (hbox); clear hb hbox hg) | ((with_reducible refine gate_dst (N := 3) rfl ?_); (try (refine gate_guard (by rfl) ?_; dsimp only)); refine box_event (by rfl) (N := 3) (by rfl) (cs := #[.int .i64 a1_0, .int .i64 a1_1, .int .i64 a1_2, .int .i64 a1_3, .int .i64 a1_4, .slice A1_5 l1_5.length c1_5]) (t := 43) (by go_simp; done) ?_; intro gbz3 hg w6 hbox hb; replace BKz1 := mk (blk_below BKz1.out hb); replace HB := mk (below_step HB.out hb); have BKz2 := mk (hbox); clear hb hbox hg) | ((with_reducible refine gate_dst (N := 4) rfl ?_); (try (refine gate_guard (by rfl) ?_; dsimp only)); refine box_event (by rfl) (N := 4) (by rfl) (cs := #[.int .i64 0, .int .i64 0, .int .i64 0, .slice none 0 0]) (t := 28) (by go_simp; done) ?_; intro gbz0 hg w7 hbox hb; replace BKz1 := mk (blk_below BKz1.out hb); replace BKz2 := mk (blk_below BKz2.out hb); have BKz0 := mk (hbox); have GEz0 := mk ((by rw [hg]; exact (below_size HB.out) : w.heap.size ≤ gbz0)); replace HB := mk (below_step HB.out hb); clear hb hbox hg; have hcz10_0 : w7.cell? ⟨gbz3, 0, none⟩ = some (.int .i64 a1_0) := (blk_cell BKz2.out 0).trans rfl; have hcz12_0 : w7.cell? ⟨gbz2, 0, none⟩ = some (.int .i64 a0_0) := (blk_cell BKz1.out 0).trans rfl; have hcz12_1 : w7.cell? ⟨gbz2, 1, none⟩ = some (.int .i64 a0_1) := (blk_cell BKz1.out 1).trans rfl; have hcz12_2 : w7.cell? ⟨gbz2, 2, none⟩ = some (.int .i64 a0_2) := (blk_cell BKz1.out 2).trans rfl; have hcz12_3 : w7.cell? ⟨gbz2, 3, none⟩ = some (.slice A0_3 l0_3.length c0_3) := (blk_cell BKz1.out 3).trans rfl) | ((with_reducible refine gate_callee (f := 72) rfl ?_); refine goesL_ (some 12) rfl rfl Try.func72 (by kernel_rfl) rfl #[.agg #[.int .i64 a0_0, .int .i64 a0_1, .int .i64 a0_2, .slice A0_3 l0_3.length c0_3]] rfl (by (try simp only [List.map_toArray, List.map_cons, List.map_nil]); rfl) ?_; (with_reducible refine (spec_mirror.calls k a0_0 a0_1 a0_2 _ _ l0_3 tz6 tz11 tz15 tz19 _ ?side1 ?side2 A4.out).mono ?_); (case side1 => repeat (exact (Kd.C_below HR0_3.out HB.out))); (case side2 => exact HC0_3.out); rintro e w13 ⟨vz0, rfl, ho0, hb⟩; refine ⟨_, rfl, ?_⟩; have n0_ := mk (Kd.R_lower ho0 (below_size HB.out)); have n3_ := mk (blk_below BKz0.out hb); have n4_ := mk (below_step HB.out hb); clear BKz1; clear BKz2; clear BKz0; clear HB; have HOz2 := n0_; have BKz0 := n3_; have HB := n4_; (try clear hb); (try clear ho0); have hcz14_0 : w13.cell? ⟨gbz0, 0, none⟩ = some (.int .i64 0) := (blk_cell BKz0.out 0).trans rfl; have hcz14_1 : w13.cell? ⟨gbz0, 1, none⟩ = some (.int .i64 0) := (blk_cell BKz0.out 1).trans rfl; have hcz14_2 : w13.cell? ⟨gbz0, 2, none⟩ = some (.int .i64 0) := (blk_cell BKz0.out 2).trans rfl; have hcz14_3 : w13.cell? ⟨gbz0, 3, none⟩ = some (.slice none 0 0) := (blk_cell BKz0.out 3).trans rfl; have hfz14_0 := blk_frozen BKz0.out 0; have hfz14_1 := blk_frozen BKz0.out 1; have hfz14_2 := blk_frozen BKz0.out 2; have hfz14_3 := blk_frozen BKz0.out 3; obtain ⟨Ao15, co15, eo15⟩ := Kd.R_slice HOz2.out; subst eo15))
  refine bodyPost_ret (results_ct rfl _ _ gbz0 28 #[.int .i64 tz6, .int .i64 tz11, .int .i64 tz15, .slice Ao15 tz19.length co15] (0, 0) _ rfl (by refine blk_put (cs := #[.int .i64 tz6, .int .i64 tz11, .int .i64 tz15, .slice none 0 0]) ?_ 3 _ rfl; refine blk_put (cs := #[.int .i64 tz6, .int .i64 tz11, .int .i64 0, .slice none 0 0]) ?_ 2 _ rfl; refine blk_put (cs := #[.int .i64 tz6, .int .i64 0, .int .i64 0, .slice none 0 0]) ?_ 1 _ rfl; refine blk_put (cs := #[.int .i64 0, .int .i64 0, .int .i64 0, .slice none 0 0]) ?_ 0 _ rfl; (with_reducible repeat (first | refine blk_drewN ?_ _ | refine blk_drew ?_ | refine blk_alloc ?_ _)); exact BKz0.out) Try.underlying28 rfl (by kernel_rfl)) rfl ?_
  exact ⟨_, by rfl, by (with_reducible repeat (first | apply Kd.R_alloc | apply Kd.R_drewN | apply Kd.R_drew)); exact Kd.R_mono (Kd.R_far (p := ⟨gbz0, 3, none⟩) (Kd.R_far (p := ⟨gbz0, 2, none⟩) (Kd.R_far (p := ⟨gbz0, 1, none⟩) (Kd.R_far (p := ⟨gbz0, 0, none⟩) (Kd.R_types HOz2.out BKz0.out (by decide)) (fun _ hk => hk.2) (.int .i64 tz6)) (fun _ hk => hk.2) (.int .i64 tz11)) (fun _ hk => hk.2) (.int .i64 tz15)) (fun _ hk => hk.2) (.slice Ao15 tz19.length co15)) (fun _ hk => trivial), by repeat (with_reducible first | exact HB.out | refine below_set ?_ GEz0.out)⟩
 rw [if_neg c3] at H
 have c3b0 : (a1_0 == 0) = false := beq_eq_false_iff_ne.mpr c3
 have c3b1 : (a1_0 != 0) = true := bne_iff_ne.mpr c3
 by_cases c16 : a1_0 = 1
 ·rw [if_pos c16] at H
  have c16b0 : (a1_0 == 1) = true := beq_iff_eq.mpr c16
  clear c16
  replace H := Option.bind_eq_some_iff.mp H
  obtain ⟨⟨tz7, tz12, tz16, tz20⟩, A170, H⟩ := H
  replace H : (some (tz7, tz12, tz16, tz20, true)) = some (r1, r2, r3, r4, r5) := H
  have A17 := mk A170
  clear A170
  simp only [Option.some.injEq, Prod.mk.injEq] at H
  obtain ⟨rfl, rfl, rfl, rfl, rfl⟩ := H
  go_enter Try.func41, Try.ntmps41
  go_wp2_with (first | ((with_reducible refine gate_dst (N := 2) rfl ?_); (try (refine gate_guard (by rfl) ?_; dsimp only)); refine box_event (by rfl) (N := 2) (by rfl) (cs := #[.int .i64 a0_0, .int .i64 a0_1, .int .i64 a0_2, .slice A0_3 l0_3.length c0_3]) (t := 28) (by go_simp; done) ?_; intro gbz2 hg w18 hbox hb; replace HB := mk (below_step HB.out hb); have BKz1 := mk (hbox); clear hb hbox hg) | ((with_reducible refine gate_dst (N := 3) rfl ?_); (try (refine gate_guard (by rfl) ?_; dsimp only)); refine box_event (by rfl) (N := 3) (by rfl) (cs := #[.int .i64 a1_0, .int .i64 a1_1, .int .i64 a1_2, .int .i64 a1_3, .int .i64 a1_4, .slice A1_5 l1_5.length c1_5]) (t := 43) (by go_simp; done) ?_; intro gbz3 hg w19 hbox hb; replace BKz1 := mk (blk_below BKz1.out hb); replace HB := mk (below_step HB.out hb); have BKz2 := mk (hbox); clear hb hbox hg) | ((with_reducible refine gate_dst (N := 4) rfl ?_); (try (refine gate_guard (by rfl) ?_; dsimp only)); refine box_event (by rfl) (N := 4) (by rfl) (cs := #[.int .i64 0, .int .i64 0, .int .i64 0, .slice none 0 0]) (t := 28) (by go_simp; done) ?_; intro gbz0 hg w20 hbox hb; replace BKz1 := mk (blk_below BKz1.out hb); replace BKz2 := mk (blk_below BKz2.out hb); have BKz0 := mk (hbox); have GEz0 := mk ((by rw [hg]; exact (below_size HB.out) : w.heap.size ≤ gbz0)); replace HB := mk (below_step HB.out hb); clear hb hbox hg; have hcz23_0 : w20.cell? ⟨gbz3, 0, none⟩ = some (.int .i64 a1_0) := (blk_cell BKz2.out 0).trans rfl; have hcz25_0 : w20.cell? ⟨gbz2, 0, none⟩ = some (.int .i64 a0_0) := (blk_cell BKz1.out 0).trans rfl; have hcz25_1 : w20.cell? ⟨gbz2, 1, none⟩ = some (.int .i64 a0_1) := (blk_cell BKz1.out 1).trans rfl; have hcz25_2 : w20.cell? ⟨gbz2, 2, none⟩ = some (.int .i64 a0_2) := (blk_cell BKz1.out 2).trans rfl; have hcz25_3 : w20.cell? ⟨gbz2, 3, none⟩ = some (.slice A0_3 l0_3.length c0_3) := (blk_cell BKz1.out 3).trans rfl) | ((with_reducible refine gate_callee (f := 73) rfl ?_); refine goesL_ (some 16) rfl rfl Try.func73 (by kernel_rfl) rfl #[.agg #[.int .i64 a0_0, .int .i64 a0_1, .int .i64 a0_2, .slice A0_3 l0_3.length c0_3]] rfl (by (try simp only [List.map_toArray, List.map_cons, List.map_nil]); rfl) ?_; (with_reducible refine (spec_turn.calls k a0_0 a0_1 a0_2 _ _ l0_3 tz7 tz12 tz16 tz20 _ ?side1 ?side2 A17.out).mono ?_); (case side1 => repeat (exact (Kd.C_below HR0_3.out HB.out))); (case side2 => exact HC0_3.out); rintro e w26 ⟨vz1, rfl, ho0, hb⟩; refine ⟨_, rfl, ?_⟩; have n0_ := mk (Kd.R_lower ho0 (below_size HB.out)); have n3_ := mk (blk_below BKz0.out hb); have n4_ := mk (below_step HB.out hb); clear BKz1; clear BKz2; clear BKz0; clear HB; have HOz3 := n0_; have BKz0 := n3_; have HB := n4_; (try clear hb); (try clear ho0); have hcz27_0 : w26.cell? ⟨gbz0, 0, none⟩ = some (.int .i64 0) := (blk_cell BKz0.out 0).trans rfl; have hcz27_1 : w26.cell? ⟨gbz0, 1, none⟩ = some (.int .i64 0) := (blk_cell BKz0.out 1).trans rfl; have hcz27_2 : w26.cell? ⟨gbz0, 2, none⟩ = some (.int .i64 0) := (blk_cell BKz0.out 2).trans rfl; have hcz27_3 : w26.cell? ⟨gbz0, 3, none⟩ = some (.slice none 0 0) := (blk_cell BKz0.out 3).trans rfl; have hfz27_0 := blk_frozen BKz0.out 0; have hfz27_1 := blk_frozen BKz0.out 1; have hfz27_2 := blk_frozen BKz0.out 2; have hfz27_3 := blk_frozen BKz0.out 3; obtain ⟨Ao28, co28, eo28⟩ := Kd.R_slice HOz3.out; subst eo28))
  refine bodyPost_ret (results_ct rfl _ _ gbz0 28 #[.int .i64 tz7, .int .i64 tz12, .int .i64 tz16, .slice Ao28 tz20.length co28] (0, 0) _ rfl (by refine blk_put (cs := #[.int .i64 tz7, .int .i64 tz12, .int .i64 tz16, .slice none 0 0]) ?_ 3 _ rfl; refine blk_put (cs := #[.int .i64 tz7, .int .i64 tz12, .int .i64 0, .slice none 0 0]) ?_ 2 _ rfl; refine blk_put (cs := #[.int .i64 tz7, .int .i64 0, .int .i64 0, .slice none 0 0]) ?_ 1 _ rfl; refine blk_put (cs := #[.int .i64 0, .int .i64 0, .int .i64 0, .slice none 0 0]) ?_ 0 _ rfl; (with_reducible repeat (first | refine blk_drewN ?_ _ | refine blk_drew ?_ | refine blk_alloc ?_ _)); exact BKz0.out) Try.underlying28 rfl (by kernel_rfl)) rfl ?_
  exact ⟨_, by rfl, by (with_reducible repeat (first | apply Kd.R_alloc | apply Kd.R_drewN | apply Kd.R_drew)); exact Kd.R_mono (Kd.R_far (p := ⟨gbz0, 3, none⟩) (Kd.R_far (p := ⟨gbz0, 2, none⟩) (Kd.R_far (p := ⟨gbz0, 1, none⟩) (Kd.R_far (p := ⟨gbz0, 0, none⟩) (Kd.R_types HOz3.out BKz0.out (by decide)) (fun _ hk => hk.2) (.int .i64 tz7)) (fun _ hk => hk.2) (.int .i64 tz12)) (fun _ hk => hk.2) (.int .i64 tz16)) (fun _ hk => hk.2) (.slice Ao28 tz20.length co28)) (fun _ hk => trivial), by repeat (with_reducible first | exact HB.out | refine below_set ?_ GEz0.out)⟩
 rw [if_neg c16] at H
 have c16b0 : (a1_0 == 1) = false := beq_eq_false_iff_ne.mpr c16
 have c16b1 : (a1_0 != 1) = true := bne_iff_ne.mpr c16
 by_cases c29 : a1_0 = 2
 ·rw [if_pos c29] at H
  have c29b0 : (a1_0 == 2) = true := beq_iff_eq.mpr c29
  clear c29
  replace H := Option.bind_eq_some_iff.mp H
  obtain ⟨⟨tz8, tz13, tz17, tz21⟩, A300, H⟩ := H
  replace H : (some (tz8, tz13, tz17, tz21, true)) = some (r1, r2, r3, r4, r5) := H
  have A30 := mk A300
  clear A300
  simp only [Option.some.injEq, Prod.mk.injEq] at H
  obtain ⟨rfl, rfl, rfl, rfl, rfl⟩ := H
  go_enter Try.func41, Try.ntmps41
  go_wp2_with (first | ((with_reducible refine gate_dst (N := 2) rfl ?_); (try (refine gate_guard (by rfl) ?_; dsimp only)); refine box_event (by rfl) (N := 2) (by rfl) (cs := #[.int .i64 a0_0, .int .i64 a0_1, .int .i64 a0_2, .slice A0_3 l0_3.length c0_3]) (t := 28) (by go_simp; done) ?_; intro gbz2 hg w31 hbox hb; replace HB := mk (below_step HB.out hb); have BKz1 := mk (hbox); clear hb hbox hg) | ((with_reducible refine gate_dst (N := 3) rfl ?_); (try (refine gate_guard (by rfl) ?_; dsimp only)); refine box_event (by rfl) (N := 3) (by rfl) (cs := #[.int .i64 a1_0, .int .i64 a1_1, .int .i64 a1_2, .int .i64 a1_3, .int .i64 a1_4, .slice A1_5 l1_5.length c1_5]) (t := 43) (by go_simp; done) ?_; intro gbz3 hg w32 hbox hb; replace BKz1 := mk (blk_below BKz1.out hb); replace HB := mk (below_step HB.out hb); have BKz2 := mk (hbox); clear hb hbox hg) | ((with_reducible refine gate_dst (N := 4) rfl ?_); (try (refine gate_guard (by rfl) ?_; dsimp only)); refine box_event (by rfl) (N := 4) (by rfl) (cs := #[.int .i64 0, .int .i64 0, .int .i64 0, .slice none 0 0]) (t := 28) (by go_simp; done) ?_; intro gbz0 hg w33 hbox hb; replace BKz1 := mk (blk_below BKz1.out hb); replace BKz2 := mk (blk_below BKz2.out hb); have BKz0 := mk (hbox); have GEz0 := mk ((by rw [hg]; exact (below_size HB.out) : w.heap.size ≤ gbz0)); replace HB := mk (below_step HB.out hb); clear hb hbox hg; have hcz36_0 : w33.cell? ⟨gbz3, 0, none⟩ = some (.int .i64 a1_0) := (blk_cell BKz2.out 0).trans rfl; have hcz38_0 : w33.cell? ⟨gbz2, 0, none⟩ = some (.int .i64 a0_0) := (blk_cell BKz1.out 0).trans rfl; have hcz38_1 : w33.cell? ⟨gbz2, 1, none⟩ = some (.int .i64 a0_1) := (blk_cell BKz1.out 1).trans rfl; have hcz38_2 : w33.cell? ⟨gbz2, 2, none⟩ = some (.int .i64 a0_2) := (blk_cell BKz1.out 2).trans rfl; have hcz38_3 : w33.cell? ⟨gbz2, 3, none⟩ = some (.slice A0_3 l0_3.length c0_3) := (blk_cell BKz1.out 3).trans rfl) | ((with_reducible refine gate_callee (f := 74) rfl ?_); refine goesL_ (some 20) rfl rfl Try.func74 (by kernel_rfl) rfl #[.agg #[.int .i64 a0_0, .int .i64 a0_1, .int .i64 a0_2, .slice A0_3 l0_3.length c0_3]] rfl (by (try simp only [List.map_toArray, List.map_cons, List.map_nil]); rfl) ?_; (with_reducible refine (spec_InvertImage.calls k a0_0 a0_1 a0_2 _ _ l0_3 tz8 tz13 tz17 tz21 _ ?side1 ?side2 A30.out).mono ?_); (case side1 => repeat (exact (Kd.C_below HR0_3.out HB.out))); (case side2 => exact HC0_3.out); rintro e w39 ⟨vz2, rfl, ho0, hb⟩; refine ⟨_, rfl, ?_⟩; have n0_ := mk (Kd.R_lower ho0 (below_size HB.out)); have n3_ := mk (blk_below BKz0.out hb); have n4_ := mk (below_step HB.out hb); clear BKz1; clear BKz2; clear BKz0; clear HB; have HOz4 := n0_; have BKz0 := n3_; have HB := n4_; (try clear hb); (try clear ho0); have hcz40_0 : w39.cell? ⟨gbz0, 0, none⟩ = some (.int .i64 0) := (blk_cell BKz0.out 0).trans rfl; have hcz40_1 : w39.cell? ⟨gbz0, 1, none⟩ = some (.int .i64 0) := (blk_cell BKz0.out 1).trans rfl; have hcz40_2 : w39.cell? ⟨gbz0, 2, none⟩ = some (.int .i64 0) := (blk_cell BKz0.out 2).trans rfl; have hcz40_3 : w39.cell? ⟨gbz0, 3, none⟩ = some (.slice none 0 0) := (blk_cell BKz0.out 3).trans rfl; have hfz40_0 := blk_frozen BKz0.out 0; have hfz40_1 := blk_frozen BKz0.out 1; have hfz40_2 := blk_frozen BKz0.out 2; have hfz40_3 := blk_frozen BKz0.out 3; obtain ⟨Ao41, co41, eo41⟩ := Kd.R_slice HOz4.out; subst eo41))
  refine bodyPost_ret (results_ct rfl _ _ gbz0 28 #[.int .i64 tz8, .int .i64 tz13, .int .i64 tz17, .slice Ao41 tz21.length co41] (0, 0) _ rfl (by refine blk_put (cs := #[.int .i64 tz8, .int .i64 tz13, .int .i64 tz17, .slice none 0 0]) ?_ 3 _ rfl; refine blk_put (cs := #[.int .i64 tz8, .int .i64 tz13, .int .i64 0, .slice none 0 0]) ?_ 2 _ rfl; refine blk_put (cs := #[.int .i64 tz8, .int .i64 0, .int .i64 0, .slice none 0 0]) ?_ 1 _ rfl; refine blk_put (cs := #[.int .i64 0, .int .i64 0, .int .i64 0, .slice none 0 0]) ?_ 0 _ rfl; (with_reducible repeat (first | refine blk_drewN ?_ _ | refine blk_drew ?_ | refine blk_alloc ?_ _)); exact BKz0.out) Try.underlying28 rfl (by kernel_rfl)) rfl ?_
  exact ⟨_, by rfl, by (with_reducible repeat (first | apply Kd.R_alloc | apply Kd.R_drewN | apply Kd.R_drew)); exact Kd.R_mono (Kd.R_far (p := ⟨gbz0, 3, none⟩) (Kd.R_far (p := ⟨gbz0, 2, none⟩) (Kd.R_far (p := ⟨gbz0, 1, none⟩) (Kd.R_far (p := ⟨gbz0, 0, none⟩) (Kd.R_types HOz4.out BKz0.out (by decide)) (fun _ hk => hk.2) (.int .i64 tz8)) (fun _ hk => hk.2) (.int .i64 tz13)) (fun _ hk => hk.2) (.int .i64 tz17)) (fun _ hk => hk.2) (.slice Ao41 tz21.length co41)) (fun _ hk => trivial), by repeat (with_reducible first | exact HB.out | refine below_set ?_ GEz0.out)⟩
 rw [if_neg c29] at H
 have c29b0 : (a1_0 == 2) = false := beq_eq_false_iff_ne.mpr c29
 have c29b1 : (a1_0 != 2) = true := bne_iff_ne.mpr c29
 by_cases c42 : a1_0 = 3
 ·rw [if_pos c42] at H
  have c42b0 : (a1_0 == 3) = true := beq_iff_eq.mpr c42
  clear c42
  replace H := Option.bind_eq_some_iff.mp H
  obtain ⟨⟨tz9, tz14, tz18, tz22, tz27⟩, A430, H⟩ := H
  replace H : (some (tz9, tz14, tz18, tz22, tz27)) = some (r1, r2, r3, r4, r5) := H
  have A43 := mk A430
  clear A430
  simp only [Option.some.injEq, Prod.mk.injEq] at H
  obtain ⟨rfl, rfl, rfl, rfl, rfl⟩ := H
  go_enter Try.func41, Try.ntmps41
  go_wp2_with (first | ((with_reducible refine gate_dst (N := 2) rfl ?_); (try (refine gate_guard (by rfl) ?_; dsimp only)); refine box_event (by rfl) (N := 2) (by rfl) (cs := #[.int .i64 a0_0, .int .i64 a0_1, .int .i64 a0_2, .slice A0_3 l0_3.length c0_3]) (t := 28) (by go_simp; done) ?_; intro gbz2 hg w44 hbox hb; replace HB := mk (below_step HB.out hb); have BKz1 := mk (hbox); clear hb hbox hg) | ((with_reducible refine gate_dst (N := 3) rfl ?_); (try (refine gate_guard (by rfl) ?_; dsimp only)); refine box_event (by rfl) (N := 3) (by rfl) (cs := #[.int .i64 a1_0, .int .i64 a1_1, .int .i64 a1_2, .int .i64 a1_3, .int .i64 a1_4, .slice A1_5 l1_5.length c1_5]) (t := 43) (by go_simp; done) ?_; intro gbz3 hg w45 hbox hb; replace BKz1 := mk (blk_below BKz1.out hb); replace HB := mk (below_step HB.out hb); have BKz2 := mk (hbox); clear hb hbox hg) | ((with_reducible refine gate_dst (N := 4) rfl ?_); (try (refine gate_guard (by rfl) ?_; dsimp only)); refine box_event (by rfl) (N := 4) (by rfl) (cs := #[.int .i64 0, .int .i64 0, .int .i64 0, .slice none 0 0]) (t := 28) (by go_simp; done) ?_; intro gbz0 hg w46 hbox hb; replace BKz1 := mk (blk_below BKz1.out hb); replace BKz2 := mk (blk_below BKz2.out hb); have BKz0 := mk (hbox); have GEz0 := mk ((by rw [hg]; exact (below_size HB.out) : w.heap.size ≤ gbz0)); replace HB := mk (below_step HB.out hb); clear hb hbox hg; have hcz49_0 : w46.cell? ⟨gbz3, 0, none⟩ = some (.int .i64 a1_0) := (blk_cell BKz2.out 0).trans rfl; have hcz49_1 : w46.cell? ⟨gbz3, 1, none⟩ = some (.int .i64 a1_1) := (blk_cell BKz2.out 1).trans rfl; have hcz49_2 : w46.cell? ⟨gbz3, 2, none⟩ = some (.int .i64 a1_2) := (blk_cell BKz2.out 2).trans rfl; have hcz49_3 : w46.cell? ⟨gbz3, 3, none⟩ = some (.int .i64 a1_3) := (blk_cell BKz2.out 3).trans rfl; have hcz49_4 : w46.cell? ⟨gbz3, 4, none⟩ = some (.int .i64 a1_4) := (blk_cell BKz2.out 4).trans rfl; have hcz51_0 : w46.cell? ⟨gbz2, 0, none⟩ = some (.int .i64 a0_0) := (blk_cell BKz1.out 0).trans rfl; have hcz51_1 : w46.cell? ⟨gbz2, 1, none⟩ = some (.int .i64 a0_1) := (blk_cell BKz1.out 1).trans rfl; have hcz51_2 : w46.cell? ⟨gbz2, 2, none⟩ = some (.int .i64 a0_2) := (blk_cell BKz1.out 2).trans rfl; have hcz51_3 : w46.cell? ⟨gbz2, 3, none⟩ = some (.slice A0_3 l0_3.length c0_3) := (blk_cell BKz1.out 3).trans rfl) | ((with_reducible refine gate_callee (f := 75) rfl ?_); refine goesL_ (some 26) rfl rfl Try.func75 (by kernel_rfl) rfl #[.agg #[.int .i64 a0_0, .int .i64 a0_1, .int .i64 a0_2, .slice A0_3 l0_3.length c0_3], .agg #[.int .i64 a1_1, .int .i64 a1_2, .int .i64 a1_3, .int .i64 a1_4]] rfl (by (try simp only [List.map_toArray, List.map_cons, List.map_nil]); rfl) ?_; (with_reducible refine (spec_CropImage.calls k a0_0 a0_1 a0_2 _ _ l0_3 a1_1 a1_2 a1_3 a1_4 tz9 tz14 tz18 tz22 tz27 _ ?side1 ?side2 A43.out).mono ?_); (case side1 => repeat (exact (Kd.C_below HR0_3.out HB.out))); (case side2 => exact HC0_3.out); rintro e w52 ⟨vz3, rfl, ho0, hb⟩; refine ⟨_, rfl, ?_⟩; have n0_ := mk (Kd.R_lower ho0 (below_size HB.out)); have n3_ := mk (blk_below BKz0.out hb); have n4_ := mk (below_step HB.out hb); clear BKz1; clear BKz2; clear BKz0; clear HB; have HOz5 := n0_; have BKz0 := n3_; have HB := n4_; (try clear hb); (try clear ho0); have hcz53_0 : w52.cell? ⟨gbz0, 0, none⟩ = some (.int .i64 0) := (blk_cell BKz0.out 0).trans rfl; have hcz53_1 : w52.cell? ⟨gbz0, 1, none⟩ = some (.int .i64 0) := (blk_cell BKz0.out 1).trans rfl; have hcz53_2 : w52.cell? ⟨gbz0, 2, none⟩ = some (.int .i64 0) := (blk_cell BKz0.out 2).trans rfl; have hcz53_3 : w52.cell? ⟨gbz0, 3, none⟩ = some (.slice none 0 0) := (blk_cell BKz0.out 3).trans rfl; have hfz53_0 := blk_frozen BKz0.out 0; have hfz53_1 := blk_frozen BKz0.out 1; have hfz53_2 := blk_frozen BKz0.out 2; have hfz53_3 := blk_frozen BKz0.out 3; obtain ⟨Ao54, co54, eo54⟩ := Kd.R_slice HOz5.out; subst eo54))
  refine bodyPost_ret (results_ct rfl _ _ gbz0 28 #[.int .i64 tz9, .int .i64 tz14, .int .i64 tz18, .slice Ao54 tz22.length co54] (0, 0) _ rfl (by refine blk_put (cs := #[.int .i64 tz9, .int .i64 tz14, .int .i64 tz18, .slice none 0 0]) ?_ 3 _ rfl; refine blk_put (cs := #[.int .i64 tz9, .int .i64 tz14, .int .i64 0, .slice none 0 0]) ?_ 2 _ rfl; refine blk_put (cs := #[.int .i64 tz9, .int .i64 0, .int .i64 0, .slice none 0 0]) ?_ 1 _ rfl; refine blk_put (cs := #[.int .i64 0, .int .i64 0, .int .i64 0, .slice none 0 0]) ?_ 0 _ rfl; (with_reducible repeat (first | refine blk_drewN ?_ _ | refine blk_drew ?_ | refine blk_alloc ?_ _)); exact BKz0.out) Try.underlying28 rfl (by kernel_rfl)) rfl ?_
  exact ⟨_, by rfl, by (with_reducible repeat (first | apply Kd.R_alloc | apply Kd.R_drewN | apply Kd.R_drew)); exact Kd.R_mono (Kd.R_far (p := ⟨gbz0, 3, none⟩) (Kd.R_far (p := ⟨gbz0, 2, none⟩) (Kd.R_far (p := ⟨gbz0, 1, none⟩) (Kd.R_far (p := ⟨gbz0, 0, none⟩) (Kd.R_types HOz5.out BKz0.out (by decide)) (fun _ hk => hk.2) (.int .i64 tz9)) (fun _ hk => hk.2) (.int .i64 tz14)) (fun _ hk => hk.2) (.int .i64 tz18)) (fun _ hk => hk.2) (.slice Ao54 tz22.length co54)) (fun _ hk => trivial), by repeat (with_reducible first | exact HB.out | refine below_set ?_ GEz0.out)⟩
 rw [if_neg c42] at H
 have c42b0 : (a1_0 == 3) = false := beq_eq_false_iff_ne.mpr c42
 have c42b1 : (a1_0 != 3) = true := bne_iff_ne.mpr c42
 by_cases c55 : a1_0 = 4
 ·rw [if_pos c55] at H
  have c55b0 : (a1_0 == 4) = true := beq_iff_eq.mpr c55
  have c55b1 : (a1_0 != 4) = false := bne_eq_false_iff_eq.mpr c55
  clear c55
  have HC56 := mk H
  clear H
  go_enter Try.func41, Try.ntmps41
  go_upto_region 11 with (first | ((with_reducible refine gate_dst (N := 2) rfl ?_); (try (refine gate_guard (by rfl) ?_; dsimp only)); refine box_event (by rfl) (N := 2) (by rfl) (cs := #[.int .i64 a0_0, .int .i64 a0_1, .int .i64 a0_2, .slice A0_3 l0_3.length c0_3]) (t := 28) (by go_simp; done) ?_; intro gbz2 hg w57 hbox hb; replace HB := mk (below_step HB.out hb); have BKz1 := mk (hbox); clear hb hbox hg) | ((with_reducible refine gate_dst (N := 3) rfl ?_); (try (refine gate_guard (by rfl) ?_; dsimp only)); refine box_event (by rfl) (N := 3) (by rfl) (cs := #[.int .i64 a1_0, .int .i64 a1_1, .int .i64 a1_2, .int .i64 a1_3, .int .i64 a1_4, .slice A1_5 l1_5.length c1_5]) (t := 43) (by go_simp; done) ?_; intro gbz3 hg w58 hbox hb; replace BKz1 := mk (blk_below BKz1.out hb); replace HB := mk (below_step HB.out hb); have BKz2 := mk (hbox); clear hb hbox hg) | ((with_reducible refine gate_dst (N := 4) rfl ?_); (try (refine gate_guard (by rfl) ?_; dsimp only)); refine box_event (by rfl) (N := 4) (by rfl) (cs := #[.int .i64 0, .int .i64 0, .int .i64 0, .slice none 0 0]) (t := 28) (by go_simp; done) ?_; intro gbz0 hg w59 hbox hb; replace BKz1 := mk (blk_below BKz1.out hb); replace BKz2 := mk (blk_below BKz2.out hb); have BKz0 := mk (hbox); have GEz0 := mk ((by rw [hg]; exact (below_size HB.out) : w.heap.size ≤ gbz0)); replace HB := mk (below_step HB.out hb); clear hb hbox hg; have hcz62_0 : w59.cell? ⟨gbz3, 0, none⟩ = some (.int .i64 a1_0) := (blk_cell BKz2.out 0).trans rfl; have hcz62_1 : w59.cell? ⟨gbz3, 1, none⟩ = some (.int .i64 a1_1) := (blk_cell BKz2.out 1).trans rfl; have hcz62_2 : w59.cell? ⟨gbz3, 2, none⟩ = some (.int .i64 a1_2) := (blk_cell BKz2.out 2).trans rfl; have hcz62_3 : w59.cell? ⟨gbz3, 3, none⟩ = some (.int .i64 a1_3) := (blk_cell BKz2.out 3).trans rfl; have hcz62_4 : w59.cell? ⟨gbz3, 4, none⟩ = some (.int .i64 a1_4) := (blk_cell BKz2.out 4).trans rfl; have hcz62_5 : w59.cell? ⟨gbz3, 5, none⟩ = some (.slice A1_5 l1_5.length c1_5) := (blk_cell BKz2.out 5).trans rfl; have hfz62_0 := blk_frozen BKz2.out 0; have hfz62_1 := blk_frozen BKz2.out 1; have hfz62_2 := blk_frozen BKz2.out 2; have hfz62_3 := blk_frozen BKz2.out 3; have hfz62_4 := blk_frozen BKz2.out 4; have hfz62_5 := blk_frozen BKz2.out 5))
  go_cut [49] (fun v49 wc => ∃ (kq : Nat) (x49_55 : Bool), v49 = .bool x49_55 ∧ Aside0 (spec_doStep.j0 kq x49_55 a0_0 a0_1 a0_2 l0_3 a1_0 a1_1 a1_2 a1_3 a1_4 l1_5 = some (r1, r2, r3, r4, r5)) ∧ Aside0 (kq ≤ k) ∧ Aside0 (wc.heap[gbz2]? = some (.cells #[.int .i64 a0_0, .int .i64 a0_1, .int .i64 a0_2, (.slice A0_3 l0_3.length c0_3)] 28 (0, 0))) ∧ Aside0 (wc.heap[gbz3]? = some (.cells #[.int .i64 a1_0, .int .i64 a1_1, .int .i64 a1_2, .int .i64 a1_3, .int .i64 a1_4, (.slice A1_5 l1_5.length c1_5)] 43 (0, 0))) ∧ Aside0 (wc.heap[gbz0]? = some (.cells #[.int .i64 0, .int .i64 0, .int .i64 0, (.slice none 0 0)] 28 (0, 0))) ∧ Aside0 (Below w.heap.size w wc))
  case first =>
   have H := HC56.out
   clear HC56
   replace H := Option.bind_eq_some_iff.mp H
   obtain ⟨tz10, A630, H⟩ := H
   replace H : (if tz10 = true then (if (l1_5.length : Int) = a0_2 then ((spec_allIn.f k l1_5 0 255).bind fun tz4 => (spec_doStep.j0 k (!tz4) a0_0 a0_1 a0_2 l0_3 a1_0 a1_1 a1_2 a1_3 a1_4 l1_5)) else (spec_doStep.j0 k true a0_0 a0_1 a0_2 l0_3 a1_0 a1_1 a1_2 a1_3 a1_4 l1_5)) else (spec_doStep.j0 k true a0_0 a0_1 a0_2 l0_3 a1_0 a1_1 a1_2 a1_3 a1_4 l1_5)) = some (r1, r2, r3, r4, r5) := H
   have A63 := mk A630
   clear A630
   by_cases c64 : tz10 = true
   ·subst c64
    have H1 : (if (l1_5.length : Int) = a0_2 then ((spec_allIn.f k l1_5 0 255).bind fun tz4 => (spec_doStep.j0 k (!tz4) a0_0 a0_1 a0_2 l0_3 a1_0 a1_1 a1_2 a1_3 a1_4 l1_5)) else (spec_doStep.j0 k true a0_0 a0_1 a0_2 l0_3 a1_0 a1_1 a1_2 a1_3 a1_4 l1_5)) = some (r1, r2, r3, r4, r5) := by rw [if_pos rfl] at H; exact H
    clear H
    have H := H1
    clear H1
    by_cases c65 : (l1_5.length : Int) = a0_2
    ·rw [if_pos c65] at H
     have c65b1 : ((l1_5.length : Int) != a0_2) = false := bne_eq_false_iff_eq.mpr c65
     clear c65
     (skip)
     replace H := Option.bind_eq_some_iff.mp H
     obtain ⟨tz4, A660, H⟩ := H
     replace H : (spec_doStep.j0 k (!tz4) a0_0 a0_1 a0_2 l0_3 a1_0 a1_1 a1_2 a1_3 a1_4 l1_5) = some (r1, r2, r3, r4, r5) := H
     have A66 := mk A660
     clear A660
     have H' := mk H
     clear H
     have hcz69_0 : w59.cell? ⟨gbz2, 0, none⟩ = some (.int .i64 a0_0) := (blk_cell BKz1.out 0).trans rfl
     have hcz69_1 : w59.cell? ⟨gbz2, 1, none⟩ = some (.int .i64 a0_1) := (blk_cell BKz1.out 1).trans rfl
     have hcz69_2 : w59.cell? ⟨gbz2, 2, none⟩ = some (.int .i64 a0_2) := (blk_cell BKz1.out 2).trans rfl
     have hcz69_3 : w59.cell? ⟨gbz2, 3, none⟩ = some (.slice A0_3 l0_3.length c0_3) := (blk_cell BKz1.out 3).trans rfl
     go_wp2_with (first | ((with_reducible refine gate_callee (f := 76) rfl ?_); refine goesL_ (some 34) rfl rfl Try.func76 (by kernel_rfl) rfl #[.agg #[.int .i64 a0_0, .int .i64 a0_1, .int .i64 a0_2, .slice A0_3 l0_3.length c0_3], .agg #[.int .i64 a1_1, .int .i64 a1_2, .int .i64 a1_3, .int .i64 a1_4]] rfl (by (try simp only [List.map_toArray, List.map_cons, List.map_nil]); rfl) ?_; (with_reducible refine (spec_validBox.calls a0_0 a0_1 a0_2 _ _ l0_3 a1_1 a1_2 a1_3 a1_4 true _ ?side1 ?side2 A63.out).mono ?_); (case side1 => repeat (exact (Kd.C_below HR0_3.out HB.out))); (case side2 => exact HC0_3.out); rintro e w72 ⟨rfl, hb⟩; refine ⟨_, rfl, ?_⟩; replace BKz1 := mk (blk_below BKz1.out hb); replace BKz2 := mk (blk_below BKz2.out hb); replace BKz0 := mk (blk_below BKz0.out hb); replace HB := mk (below_step HB.out hb); (try clear hb); have hcz73_5 : w72.cell? ⟨gbz3, 5, none⟩ = some (.slice A1_5 l1_5.length c1_5) := (blk_cell BKz2.out 5).trans rfl; have hcz74_2 : w72.cell? ⟨gbz2, 2, none⟩ = some (.int .i64 a0_2) := (blk_cell BKz1.out 2).trans rfl) | (go_at_call 70; (with_reducible refine (spec_allIn.calls k _ _ l1_5 0 255 tz4 _ ?side1 ?side2 A66.out).mono ?_); (case side1 => repeat (exact (Kd.C_below HR1_5.out HB.out))); (case side2 => exact HC1_5.out); rintro e w' ⟨rfl, ⟨nd, rfl⟩⟩))
     go_meet
     case rel => exact ⟨_, (!tz4), (by rfl), H', ⟨by omega⟩, ⟨by (with_reducible repeat (refine blk_drewN ?_ _)); exact BKz1.out⟩, ⟨by (with_reducible repeat (refine blk_drewN ?_ _)); exact BKz2.out⟩, ⟨by (with_reducible repeat (refine blk_drewN ?_ _)); exact BKz0.out⟩, ⟨by repeat (with_reducible first | exact HB.out | apply pw_below_drewN)⟩⟩
    rw [if_neg c65] at H
    have c65b1 : ((l1_5.length : Int) != a0_2) = true := bne_iff_ne.mpr c65
    (skip)
    have H' := mk H
    clear H
    have hcz77_0 : w59.cell? ⟨gbz2, 0, none⟩ = some (.int .i64 a0_0) := (blk_cell BKz1.out 0).trans rfl
    have hcz77_1 : w59.cell? ⟨gbz2, 1, none⟩ = some (.int .i64 a0_1) := (blk_cell BKz1.out 1).trans rfl
    have hcz77_2 : w59.cell? ⟨gbz2, 2, none⟩ = some (.int .i64 a0_2) := (blk_cell BKz1.out 2).trans rfl
    have hcz77_3 : w59.cell? ⟨gbz2, 3, none⟩ = some (.slice A0_3 l0_3.length c0_3) := (blk_cell BKz1.out 3).trans rfl
    go_wp2_with (first | ((with_reducible refine gate_callee (f := 76) rfl ?_); refine goesL_ (some 34) rfl rfl Try.func76 (by kernel_rfl) rfl #[.agg #[.int .i64 a0_0, .int .i64 a0_1, .int .i64 a0_2, .slice A0_3 l0_3.length c0_3], .agg #[.int .i64 a1_1, .int .i64 a1_2, .int .i64 a1_3, .int .i64 a1_4]] rfl (by (try simp only [List.map_toArray, List.map_cons, List.map_nil]); rfl) ?_; (with_reducible refine (spec_validBox.calls a0_0 a0_1 a0_2 _ _ l0_3 a1_1 a1_2 a1_3 a1_4 true _ ?side1 ?side2 A63.out).mono ?_); (case side1 => repeat (exact (Kd.C_below HR0_3.out HB.out))); (case side2 => exact HC0_3.out); rintro e w80 ⟨rfl, hb⟩; refine ⟨_, rfl, ?_⟩; replace BKz1 := mk (blk_below BKz1.out hb); replace BKz2 := mk (blk_below BKz2.out hb); replace BKz0 := mk (blk_below BKz0.out hb); replace HB := mk (below_step HB.out hb); (try clear hb); have hcz81_5 : w80.cell? ⟨gbz3, 5, none⟩ = some (.slice A1_5 l1_5.length c1_5) := (blk_cell BKz2.out 5).trans rfl; have hcz82_2 : w80.cell? ⟨gbz2, 2, none⟩ = some (.int .i64 a0_2) := (blk_cell BKz1.out 2).trans rfl))
    go_meet
    case rel => exact ⟨_, (true), (by rfl), H', ⟨by omega⟩, ⟨by (with_reducible repeat (first | refine blk_drewN ?_ _ | refine blk_drew ?_ | refine blk_alloc ?_ _)); exact BKz1.out⟩, ⟨by (with_reducible repeat (first | refine blk_drewN ?_ _ | refine blk_drew ?_ | refine blk_alloc ?_ _)); exact BKz2.out⟩, ⟨by (with_reducible repeat (first | refine blk_drewN ?_ _ | refine blk_drew ?_ | refine blk_alloc ?_ _)); exact BKz0.out⟩, ⟨by exact HB.out⟩⟩
   replace c64 := Bool.eq_false_iff.mpr c64
   subst c64
   have H1 : (spec_doStep.j0 k true a0_0 a0_1 a0_2 l0_3 a1_0 a1_1 a1_2 a1_3 a1_4 l1_5) = some (r1, r2, r3, r4, r5) := by rw [if_neg (show ¬ (false = true) by decide)] at H; exact H
   clear H
   have H := H1
   clear H1
   have H' := mk H
   clear H
   have hcz85_0 : w59.cell? ⟨gbz2, 0, none⟩ = some (.int .i64 a0_0) := (blk_cell BKz1.out 0).trans rfl
   have hcz85_1 : w59.cell? ⟨gbz2, 1, none⟩ = some (.int .i64 a0_1) := (blk_cell BKz1.out 1).trans rfl
   have hcz85_2 : w59.cell? ⟨gbz2, 2, none⟩ = some (.int .i64 a0_2) := (blk_cell BKz1.out 2).trans rfl
   have hcz85_3 : w59.cell? ⟨gbz2, 3, none⟩ = some (.slice A0_3 l0_3.length c0_3) := (blk_cell BKz1.out 3).trans rfl
   go_wp2_with (first | ((with_reducible refine gate_callee (f := 76) rfl ?_); refine goesL_ (some 34) rfl rfl Try.func76 (by kernel_rfl) rfl #[.agg #[.int .i64 a0_0, .int .i64 a0_1, .int .i64 a0_2, .slice A0_3 l0_3.length c0_3], .agg #[.int .i64 a1_1, .int .i64 a1_2, .int .i64 a1_3, .int .i64 a1_4]] rfl (by (try simp only [List.map_toArray, List.map_cons, List.map_nil]); rfl) ?_; (with_reducible refine (spec_validBox.calls a0_0 a0_1 a0_2 _ _ l0_3 a1_1 a1_2 a1_3 a1_4 false _ ?side1 ?side2 A63.out).mono ?_); (case side1 => repeat (exact (Kd.C_below HR0_3.out HB.out))); (case side2 => exact HC0_3.out); rintro e w88 ⟨rfl, hb⟩; refine ⟨_, rfl, ?_⟩; replace BKz1 := mk (blk_below BKz1.out hb); replace BKz2 := mk (blk_below BKz2.out hb); replace BKz0 := mk (blk_below BKz0.out hb); replace HB := mk (below_step HB.out hb); (try clear hb)))
   go_meet
   case rel => exact ⟨_, (true), (by rfl), H', ⟨by omega⟩, ⟨by (with_reducible repeat (first | refine blk_drewN ?_ _ | refine blk_drew ?_ | refine blk_alloc ?_ _)); exact BKz1.out⟩, ⟨by (with_reducible repeat (first | refine blk_drewN ?_ _ | refine blk_drew ?_ | refine blk_alloc ?_ _)); exact BKz2.out⟩, ⟨by (with_reducible repeat (first | refine blk_drewN ?_ _ | refine blk_drew ?_ | refine blk_alloc ?_ _)); exact BKz0.out⟩, ⟨by exact HB.out⟩⟩
  case rest =>
   clear HC56
   try clear c1
   try clear c2
   try clear p2
   try clear c3
   try clear c3b0
   try clear c3b1
   try clear c4
   try clear c5
   try clear c6
   try clear c7
   try clear c8
   try clear c9
   try clear c11
   try clear c16
   try clear c16b0
   try clear c16b1
   try clear c21
   try clear c22
   try clear c24
   try clear c29
   try clear c29b0
   try clear c29b1
   try clear c34
   try clear c35
   try clear c37
   try clear c41
   try clear c42
   try clear c42b0
   try clear c42b1
   try clear c47
   try clear c48
   try clear c50
   try clear c55
   try clear c55b0
   try clear c55b1
   try clear c60
   try clear c61
   try clear c64
   try clear c65
   try clear c65b0
   try clear c65b1
   try clear c67
   try clear c68
   try clear c70
   try clear c72
   try clear c73
   try clear c74
   try clear c75
   try clear c76
   try clear c78
   try clear c83
   try clear c84
   try clear c86
   try clear hcz10_0
   try clear hcz10_1
   try clear hcz10_2
   try clear hcz10_3
   try clear hcz10_4
   try clear hcz10_5
   try clear hcz12_0
   try clear hcz12_1
   try clear hcz12_2
   try clear hcz12_3
   try clear hcz14_0
   try clear hcz14_1
   try clear hcz14_2
   try clear hcz14_3
   try clear hcz23_0
   try clear hcz23_1
   try clear hcz23_2
   try clear hcz23_3
   try clear hcz23_4
   try clear hcz23_5
   try clear hcz25_0
   try clear hcz25_1
   try clear hcz25_2
   try clear hcz25_3
   try clear hcz27_0
   try clear hcz27_1
   try clear hcz27_2
   try clear hcz27_3
   try clear hcz36_0
   try clear hcz36_1
   try clear hcz36_2
   try clear hcz36_3
   try clear hcz36_4
   try clear hcz36_5
   try clear hcz38_0
   try clear hcz38_1
   try clear hcz38_2
   try clear hcz38_3
   try clear hcz40_0
   try clear hcz40_1
   try clear hcz40_2
   try clear hcz40_3
   try clear hcz49_0
   try clear hcz49_1
   try clear hcz49_2
   try clear hcz49_3
   try clear hcz49_4
   try clear hcz49_5
   try clear hcz51_0
   try clear hcz51_1
   try clear hcz51_2
   try clear hcz51_3
   try clear hcz53_0
   try clear hcz53_1
   try clear hcz53_2
   try clear hcz53_3
   try clear hcz62_0
   try clear hcz62_1
   try clear hcz62_2
   try clear hcz62_3
   try clear hcz62_4
   try clear hcz62_5
   try clear hcz69_0
   try clear hcz69_1
   try clear hcz69_2
   try clear hcz69_3
   try clear hcz71_0
   try clear hcz71_1
   try clear hcz71_2
   try clear hcz71_3
   try clear hcz71_4
   try clear hcz71_5
   try clear hcz73_0
   try clear hcz73_1
   try clear hcz73_2
   try clear hcz73_3
   try clear hcz73_4
   try clear hcz73_5
   try clear hcz74_0
   try clear hcz74_1
   try clear hcz74_2
   try clear hcz74_3
   try clear hcz77_0
   try clear hcz77_1
   try clear hcz77_2
   try clear hcz77_3
   try clear hcz79_0
   try clear hcz79_1
   try clear hcz79_2
   try clear hcz79_3
   try clear hcz79_4
   try clear hcz79_5
   try clear hcz81_0
   try clear hcz81_1
   try clear hcz81_2
   try clear hcz81_3
   try clear hcz81_4
   try clear hcz81_5
   try clear hcz82_0
   try clear hcz82_1
   try clear hcz82_2
   try clear hcz82_3
   try clear hcz85_0
   try clear hcz85_1
   try clear hcz85_2
   try clear hcz85_3
   try clear hcz87_0
   try clear hcz87_1
   try clear hcz87_2
   try clear hcz87_3
   try clear hcz87_4
   try clear hcz87_5
   try clear hfz10_0
   try clear hfz10_1
   try clear hfz10_2
   try clear hfz10_3
   try clear hfz10_4
   try clear hfz10_5
   try clear hfz12_0
   try clear hfz12_1
   try clear hfz12_2
   try clear hfz12_3
   try clear hfz14_0
   try clear hfz14_1
   try clear hfz14_2
   try clear hfz14_3
   try clear hfz23_0
   try clear hfz23_1
   try clear hfz23_2
   try clear hfz23_3
   try clear hfz23_4
   try clear hfz23_5
   try clear hfz25_0
   try clear hfz25_1
   try clear hfz25_2
   try clear hfz25_3
   try clear hfz27_0
   try clear hfz27_1
   try clear hfz27_2
   try clear hfz27_3
   try clear hfz36_0
   try clear hfz36_1
   try clear hfz36_2
   try clear hfz36_3
   try clear hfz36_4
   try clear hfz36_5
   try clear hfz38_0
   try clear hfz38_1
   try clear hfz38_2
   try clear hfz38_3
   try clear hfz40_0
   try clear hfz40_1
   try clear hfz40_2
   try clear hfz40_3
   try clear hfz49_0
   try clear hfz49_1
   try clear hfz49_2
   try clear hfz49_3
   try clear hfz49_4
   try clear hfz49_5
   try clear hfz51_0
   try clear hfz51_1
   try clear hfz51_2
   try clear hfz51_3
   try clear hfz53_0
   try clear hfz53_1
   try clear hfz53_2
   try clear hfz53_3
   try clear hfz62_0
   try clear hfz62_1
   try clear hfz62_2
   try clear hfz62_3
   try clear hfz62_4
   try clear hfz62_5
   try clear hfz69_0
   try clear hfz69_1
   try clear hfz69_2
   try clear hfz69_3
   try clear hfz71_0
   try clear hfz71_1
   try clear hfz71_2
   try clear hfz71_3
   try clear hfz71_4
   try clear hfz71_5
   try clear hfz73_0
   try clear hfz73_1
   try clear hfz73_2
   try clear hfz73_3
   try clear hfz73_4
   try clear hfz73_5
   try clear hfz74_0
   try clear hfz74_1
   try clear hfz74_2
   try clear hfz74_3
   try clear hfz77_0
   try clear hfz77_1
   try clear hfz77_2
   try clear hfz77_3
   try clear hfz79_0
   try clear hfz79_1
   try clear hfz79_2
   try clear hfz79_3
   try clear hfz79_4
   try clear hfz79_5
   try clear hfz81_0
   try clear hfz81_1
   try clear hfz81_2
   try clear hfz81_3
   try clear hfz81_4
   try clear hfz81_5
   try clear hfz82_0
   try clear hfz82_1
   try clear hfz82_2
   try clear hfz82_3
   try clear hfz85_0
   try clear hfz85_1
   try clear hfz85_2
   try clear hfz85_3
   try clear hfz87_0
   try clear hfz87_1
   try clear hfz87_2
   try clear hfz87_3
   try clear hfz87_4
   try clear hfz87_5
   obtain ⟨kq, x49_55, rfl, HA, HJ55, BKz1, BKz2, BKz0, HB⟩ := hcut
   cases kq with
   | zero => exact absurd HA.out (by simp [spec_doStep.j0])
   | succ kj55 =>
    have H := HA.out
    clear HA
    simp only [spec_doStep.j0] at H
    by_cases c89 : x49_55 = true
    ·subst c89
     have H1 : (some (0, 0, 0, ([] : List Int), false)) = some (r1, r2, r3, r4, r5) := by rw [if_pos rfl] at H; exact H
     clear H
     have H := H1
     clear H1
     simp only [Option.some.injEq, Prod.mk.injEq] at H
     obtain ⟨rfl, rfl, rfl, rfl, rfl⟩ := H
     have hcz92_0 : wc.cell? ⟨gbz0, 0, none⟩ = some (.int .i64 0) := (blk_cell BKz0.out 0).trans rfl
     have hcz92_1 : wc.cell? ⟨gbz0, 1, none⟩ = some (.int .i64 0) := (blk_cell BKz0.out 1).trans rfl
     have hcz92_2 : wc.cell? ⟨gbz0, 2, none⟩ = some (.int .i64 0) := (blk_cell BKz0.out 2).trans rfl
     have hcz92_3 : wc.cell? ⟨gbz0, 3, none⟩ = some (.slice none 0 0) := (blk_cell BKz0.out 3).trans rfl
     have hfz92_0 := blk_frozen BKz0.out 0
     have hfz92_1 := blk_frozen BKz0.out 1
     have hfz92_2 := blk_frozen BKz0.out 2
     have hfz92_3 := blk_frozen BKz0.out 3
     go_wp2
     refine bodyPost_ret (results_ct rfl _ _ gbz0 28 #[.int .i64 0, .int .i64 0, .int .i64 0, .slice none 0 0] (0, 0) _ rfl (by refine blk_put (cs := #[.int .i64 0, .int .i64 0, .int .i64 0, .slice none 0 0]) ?_ 3 _ rfl; refine blk_put (cs := #[.int .i64 0, .int .i64 0, .int .i64 0, .slice none 0 0]) ?_ 2 _ rfl; refine blk_put (cs := #[.int .i64 0, .int .i64 0, .int .i64 0, .slice none 0 0]) ?_ 1 _ rfl; refine blk_put (cs := #[.int .i64 0, .int .i64 0, .int .i64 0, .slice none 0 0]) ?_ 0 _ rfl; (with_reducible repeat (first | refine blk_drewN ?_ _ | refine blk_drew ?_ | refine blk_alloc ?_ _)); exact BKz0.out) Try.underlying28 rfl (by kernel_rfl)) rfl ?_
     exact ⟨_, by rfl, by exact Kd.R_nil _ _ _ _ _, by repeat (with_reducible first | exact HB.out | refine below_set ?_ GEz0.out)⟩
    replace c89 := Bool.eq_false_iff.mpr c89
    subst c89
    have H1 : ((spec_copyImage.f a0_0 a0_1 a0_2 l0_3).bind fun btz0 => ((spec_FillImage.f kj55 a1_3 a1_4 l1_5).bind fun btz1 => ((spec_paste.f kj55 btz0.1 btz0.2.1 btz0.2.2.1 btz0.2.2.2 a1_1 a1_2 btz1.1 btz1.2.1 btz1.2.2.1 btz1.2.2.2).bind fun tz5 => (some (btz0.1, btz0.2.1, btz0.2.2.1, tz5, true))))) = some (r1, r2, r3, r4, r5) := by rw [if_neg (show ¬ (false = true) by decide)] at H; exact H
    clear H
    have H := H1
    clear H1
    replace H := Option.bind_eq_some_iff.mp H
    obtain ⟨⟨tz0, tz1, tz2, tz3⟩, A930, H⟩ := H
    replace H : ((spec_FillImage.f kj55 a1_3 a1_4 l1_5).bind fun btz1 => ((spec_paste.f kj55 tz0 tz1 tz2 tz3 a1_1 a1_2 btz1.1 btz1.2.1 btz1.2.2.1 btz1.2.2.2).bind fun tz5 => (some (tz0, tz1, tz2, tz5, true)))) = some (r1, r2, r3, r4, r5) := H
    have A93 := mk A930
    clear A930
    replace H := Option.bind_eq_some_iff.mp H
    obtain ⟨⟨tz23, tz24, tz25, tz26⟩, A940, H⟩ := H
    replace H : ((spec_paste.f kj55 tz0 tz1 tz2 tz3 a1_1 a1_2 tz23 tz24 tz25 tz26).bind fun tz5 => (some (tz0, tz1, tz2, tz5, true))) = some (r1, r2, r3, r4, r5) := H
    have A94 := mk A940
    clear A940
    replace H := Option.bind_eq_some_iff.mp H
    obtain ⟨tz5, A950, H⟩ := H
    replace H : (some (tz0, tz1, tz2, tz5, true)) = some (r1, r2, r3, r4, r5) := H
    have A95 := mk A950
    clear A950
    simp only [Option.some.injEq, Prod.mk.injEq] at H
    obtain ⟨rfl, rfl, rfl, rfl, rfl⟩ := H
    have hcz98_0 : wc.cell? ⟨gbz2, 0, none⟩ = some (.int .i64 a0_0) := (blk_cell BKz1.out 0).trans rfl
    have hcz98_1 : wc.cell? ⟨gbz2, 1, none⟩ = some (.int .i64 a0_1) := (blk_cell BKz1.out 1).trans rfl
    have hcz98_2 : wc.cell? ⟨gbz2, 2, none⟩ = some (.int .i64 a0_2) := (blk_cell BKz1.out 2).trans rfl
    have hcz98_3 : wc.cell? ⟨gbz2, 3, none⟩ = some (.slice A0_3 l0_3.length c0_3) := (blk_cell BKz1.out 3).trans rfl
    try go_wp2_with (first | ((with_reducible refine gate_callee (f := 40) rfl ?_); refine goesL_ (some 52) rfl rfl Try.func40 (by kernel_rfl) rfl #[.agg #[.int .i64 a0_0, .int .i64 a0_1, .int .i64 a0_2, .slice A0_3 l0_3.length c0_3]] rfl (by (try simp only [List.map_toArray, List.map_cons, List.map_nil]); rfl) ?_; (with_reducible refine (spec_copyImage.calls a0_0 a0_1 a0_2 _ _ l0_3 tz0 tz1 tz2 tz3 _ ?side1 ?side2 A93.out).mono ?_); (case side1 => repeat (exact (Kd.C_below HR0_3.out HB.out))); (case side2 => exact HC0_3.out); rintro e w99 ⟨vz4, rfl, ho0, hb⟩; refine ⟨_, rfl, ?_⟩; have HOz0 := mk (Kd.R_lower ho0 (below_size HB.out)); replace BKz1 := mk (blk_below BKz1.out hb); replace BKz2 := mk (blk_below BKz2.out hb); replace BKz0 := mk (blk_below BKz0.out hb); replace HB := mk (below_step HB.out hb); (try clear hb); (try clear ho0)) | ((with_reducible refine gate_dst (N := 6) rfl ?_); (try (refine gate_guard (by rfl) ?_; dsimp only)); refine box_event (by rfl) (N := 6) (by rfl) (cs := #[.int .i64 0, .int .i64 0, .int .i64 0, .slice none 0 0]) (t := 28) (by go_simp; done) ?_; intro gbz1 hg w100 hbox hb; replace HOz0 := mk (Kd.R_below HOz0.out hb); have BKz3 := mk (hbox); have GEz1 := mk ((by rw [hg]; exact (below_size HB.out) : w.heap.size ≤ gbz1)); replace HB := mk (below_step HB.out hb); have NBz0 := mk ((by rw [hg]; exact Nat.ne_of_lt (blk_lt BKz1.out) : gbz2 ≠ gbz1)); replace BKz1 := mk (blk_below BKz1.out hb); have NBz1 := mk ((by rw [hg]; exact Nat.ne_of_lt (blk_lt BKz2.out) : gbz3 ≠ gbz1)); replace BKz2 := mk (blk_below BKz2.out hb); have NBz2 := mk ((by rw [hg]; exact Nat.ne_of_lt (blk_lt BKz0.out) : gbz0 ≠ gbz1)); replace BKz0 := mk (blk_below BKz0.out hb); clear hb hbox hg; have hcz104_0 : w100.cell? ⟨gbz1, 0, none⟩ = some (.int .i64 0) := (blk_cell BKz3.out 0).trans rfl; have hcz104_1 : w100.cell? ⟨gbz1, 1, none⟩ = some (.int .i64 0) := (blk_cell BKz3.out 1).trans rfl; have hcz104_2 : w100.cell? ⟨gbz1, 2, none⟩ = some (.int .i64 0) := (blk_cell BKz3.out 2).trans rfl; have hcz104_3 : w100.cell? ⟨gbz1, 3, none⟩ = some (.slice none 0 0) := (blk_cell BKz3.out 3).trans rfl; have hfz104_0 := blk_frozen BKz3.out 0; have hfz104_1 := blk_frozen BKz3.out 1; have hfz104_2 := blk_frozen BKz3.out 2; have hfz104_3 := blk_frozen BKz3.out 3; obtain ⟨Ao105, co105, eo105⟩ := Kd.R_slice HOz0.out; subst eo105))
    have n0_ : Aside0 (Kd.R (Kd.int .i64) 3 ((((w100.setCell ⟨gbz1, 0, none⟩ (.int .i64 tz0)).setCell ⟨gbz1, 1, none⟩ (.int .i64 tz1)).setCell ⟨gbz1, 2, none⟩ (.int .i64 tz2)).setCell ⟨gbz1, 3, none⟩ (.slice Ao105 tz3.length co105)) w.heap.size (fun _ => True) (.slice Ao105 tz3.length co105) tz3) := ⟨by (with_reducible repeat (first | apply Kd.R_alloc | apply Kd.R_drewN | apply Kd.R_drew)); exact Kd.R_mono (Kd.R_far (p := ⟨gbz1, 3, none⟩) (Kd.R_far (p := ⟨gbz1, 2, none⟩) (Kd.R_far (p := ⟨gbz1, 1, none⟩) (Kd.R_far (p := ⟨gbz1, 0, none⟩) (Kd.R_types HOz0.out BKz3.out (by decide)) (fun _ hk => hk.2) (.int .i64 tz0)) (fun _ hk => hk.2) (.int .i64 tz1)) (fun _ hk => hk.2) (.int .i64 tz2)) (fun _ hk => hk.2) (.slice Ao105 tz3.length co105)) (fun _ hk => trivial)⟩
    have n1_ : Aside0 (((((w100.setCell ⟨gbz1, 0, none⟩ (.int .i64 tz0)).setCell ⟨gbz1, 1, none⟩ (.int .i64 tz1)).setCell ⟨gbz1, 2, none⟩ (.int .i64 tz2)).setCell ⟨gbz1, 3, none⟩ (.slice Ao105 tz3.length co105)).heap[gbz2]? = some (.cells #[.int .i64 a0_0, .int .i64 a0_1, .int .i64 a0_2, .slice A0_3 l0_3.length c0_3] 28 (0, 0))) := ⟨by refine blk_far ?_ NBz0.out _; refine blk_far ?_ NBz0.out _; refine blk_far ?_ NBz0.out _; refine blk_far ?_ NBz0.out _; (with_reducible repeat (first | refine blk_drewN ?_ _ | refine blk_drew ?_ | refine blk_alloc ?_ _)); exact BKz1.out⟩
    have n2_ : Aside0 (((((w100.setCell ⟨gbz1, 0, none⟩ (.int .i64 tz0)).setCell ⟨gbz1, 1, none⟩ (.int .i64 tz1)).setCell ⟨gbz1, 2, none⟩ (.int .i64 tz2)).setCell ⟨gbz1, 3, none⟩ (.slice Ao105 tz3.length co105)).heap[gbz3]? = some (.cells #[.int .i64 a1_0, .int .i64 a1_1, .int .i64 a1_2, .int .i64 a1_3, .int .i64 a1_4, .slice A1_5 l1_5.length c1_5] 43 (0, 0))) := ⟨by refine blk_far ?_ NBz1.out _; refine blk_far ?_ NBz1.out _; refine blk_far ?_ NBz1.out _; refine blk_far ?_ NBz1.out _; (with_reducible repeat (first | refine blk_drewN ?_ _ | refine blk_drew ?_ | refine blk_alloc ?_ _)); exact BKz2.out⟩
    have n3_ : Aside0 (((((w100.setCell ⟨gbz1, 0, none⟩ (.int .i64 tz0)).setCell ⟨gbz1, 1, none⟩ (.int .i64 tz1)).setCell ⟨gbz1, 2, none⟩ (.int .i64 tz2)).setCell ⟨gbz1, 3, none⟩ (.slice Ao105 tz3.length co105)).heap[gbz0]? = some (.cells #[.int .i64 0, .int .i64 0, .int .i64 0, .slice none 0 0] 28 (0, 0))) := ⟨by refine blk_far ?_ NBz2.out _; refine blk_far ?_ NBz2.out _; refine blk_far ?_ NBz2.out _; refine blk_far ?_ NBz2.out _; (with_reducible repeat (first | refine blk_drewN ?_ _ | refine blk_drew ?_ | refine blk_alloc ?_ _)); exact BKz0.out⟩
    have n4_ : Aside0 (((((w100.setCell ⟨gbz1, 0, none⟩ (.int .i64 tz0)).setCell ⟨gbz1, 1, none⟩ (.int .i64 tz1)).setCell ⟨gbz1, 2, none⟩ (.int .i64 tz2)).setCell ⟨gbz1, 3, none⟩ (.slice Ao105 tz3.length co105)).heap[gbz1]? = some (.cells #[.int .i64 tz0, .int .i64 tz1, .int .i64 tz2, .slice Ao105 tz3.length co105] 28 (0, 0))) := ⟨by refine blk_put (cs := #[.int .i64 tz0, .int .i64 tz1, .int .i64 tz2, .slice none 0 0]) ?_ 3 _ rfl; refine blk_put (cs := #[.int .i64 tz0, .int .i64 tz1, .int .i64 0, .slice none 0 0]) ?_ 2 _ rfl; refine blk_put (cs := #[.int .i64 tz0, .int .i64 0, .int .i64 0, .slice none 0 0]) ?_ 1 _ rfl; refine blk_put (cs := #[.int .i64 0, .int .i64 0, .int .i64 0, .slice none 0 0]) ?_ 0 _ rfl; (with_reducible repeat (first | refine blk_drewN ?_ _ | refine blk_drew ?_ | refine blk_alloc ?_ _)); exact BKz3.out⟩
    have n5_ : Aside0 (Below w.heap.size w ((((w100.setCell ⟨gbz1, 0, none⟩ (.int .i64 tz0)).setCell ⟨gbz1, 1, none⟩ (.int .i64 tz1)).setCell ⟨gbz1, 2, none⟩ (.int .i64 tz2)).setCell ⟨gbz1, 3, none⟩ (.slice Ao105 tz3.length co105))) := ⟨by repeat (with_reducible first | exact HB.out | refine below_set ?_ GEz1.out)⟩
    (try clear HOz0)
    (try clear BKz1)
    (try clear BKz2)
    (try clear BKz0)
    (try clear BKz3)
    (try clear HB)
    generalize ((((w100.setCell ⟨gbz1, 0, none⟩ (.int .i64 tz0)).setCell ⟨gbz1, 1, none⟩ (.int .i64 tz1)).setCell ⟨gbz1, 2, none⟩ (.int .i64 tz2)).setCell ⟨gbz1, 3, none⟩ (.slice Ao105 tz3.length co105)) = w106 at n0_ n1_ n2_ n3_ n4_ n5_ ⊢
    revert n0_ n1_ n2_ n3_ n4_ n5_; intro HOz0 BKz1 BKz2 BKz0 BKz3 HB
    have n0_ := mk (Kd.R_drew HOz0.out)
    have n1_ := mk (blk_drew BKz1.out)
    have n2_ := mk (blk_drew BKz2.out)
    have n3_ := mk (blk_drew BKz0.out)
    have n4_ := mk (blk_drew BKz3.out)
    have n5_ := mk (below_drew1 HB.out)
    clear HOz0 BKz1 BKz2 BKz0 BKz3 HB
    revert n0_ n1_ n2_ n3_ n4_ n5_; intro HOz0 BKz1 BKz2 BKz0 BKz3 HB
    refine start_ (n := 17) (S := fun w' => w'.cell? ⟨gbz1, 0, none⟩ = some (.int .i64 tz0) ∧ w'.cell? ⟨gbz1, 1, none⟩ = some (.int .i64 tz1) ∧ w'.cell? ⟨gbz1, 2, none⟩ = some (.int .i64 tz2) ∧ w'.cell? ⟨gbz1, 3, none⟩ = some (.slice Ao105 tz3.length co105) ∧ w'.cell? ⟨gbz3, 0, none⟩ = some (.int .i64 a1_0) ∧ w'.cell? ⟨gbz3, 1, none⟩ = some (.int .i64 a1_1) ∧ w'.cell? ⟨gbz3, 2, none⟩ = some (.int .i64 a1_2) ∧ w'.cell? ⟨gbz3, 3, none⟩ = some (.int .i64 a1_3) ∧ w'.cell? ⟨gbz3, 4, none⟩ = some (.int .i64 a1_4) ∧ w'.cell? ⟨gbz3, 5, none⟩ = some (.slice A1_5 l1_5.length c1_5)) (ds := []) #[false, false, false, false, false, false, false, false, false, false, false, false, false, false, false, false, false] (by kernel_rfl) rfl rfl ⟨(blk_cell BKz3.out 0).trans rfl, (blk_cell BKz3.out 1).trans rfl, (blk_cell BKz3.out 2).trans rfl, (blk_cell BKz3.out 3).trans rfl, (blk_cell BKz2.out 0).trans rfl, (blk_cell BKz2.out 1).trans rfl, (blk_cell BKz2.out 2).trans rfl, (blk_cell BKz2.out 3).trans rfl, (blk_cell BKz2.out 4).trans rfl, (blk_cell BKz2.out 5).trans rfl⟩ (fun hHeld => ?_); refine with_tabW spec_doStep.tab14 spec_doStep.bits14 (fun HT_ HW_ => ?_)
    generalize w106.drew = w107 at HOz0 BKz1 BKz2 BKz0 BKz3 HB hHeld ⊢
    refine pure_ (i := 1) (N := some 54) (v := ?_) (a' := ?_) #[false, true, false, false, false, false, false, false, false, false, false, false, false, false, false, false, false] rfl rfl (any_of HT_.out (by kernel_rfl)) (fun _ _ _ h => h) (Or.inl ⟨by rfl, ?_⟩) ?_ ?_
    rotate_left
    ·intro w'
     go_simp
     with_reducible rfl
    rotate_left
    ·simp only [Act.put, List.setIfInBounds_toArray, List.set_cons_zero, List.set_cons_succ, i64_w, i32_w]
     rfl
    refine pure_ (i := 2) (N := some 55) (v := ?_) (a' := ?_) #[false, true, true, false, false, false, false, false, false, false, false, false, false, false, false, false, false] rfl rfl (any_of HT_.out (by kernel_rfl)) (fun _ _ _ h => h) (Or.inl ⟨by rfl, ?_⟩) ?_ ?_
    rotate_left
    ·intro w'
     go_simp
     with_reducible rfl
    rotate_left
    ·simp only [Act.put, List.setIfInBounds_toArray, List.set_cons_zero, List.set_cons_succ, i64_w, i32_w]
     rfl
    refine pure_ (i := 4) (N := some 57) (v := ?_) (a' := ?_) #[false, true, true, false, true, false, false, false, false, false, false, false, false, false, false, false, false] rfl rfl (any_of HT_.out (by kernel_rfl)) (fun _ _ _ h => h) (Or.inl ⟨by rfl, ?_⟩) ?_ ?_
    rotate_left
    ·intro w'
     go_simp
     with_reducible rfl
    rotate_left
    ·simp only [Act.put, List.setIfInBounds_toArray, List.set_cons_zero, List.set_cons_succ, i64_w, i32_w]
     rfl
    refine pure_ (i := 5) (N := some 58) (v := ?_) (a' := ?_) #[false, true, true, false, true, true, false, false, false, false, false, false, false, false, false, false, false] rfl rfl (any_of HT_.out (by kernel_rfl)) (fun _ _ _ h => h) (Or.inl ⟨by rfl, ?_⟩) ?_ ?_
    rotate_left
    ·intro w'
     go_simp
     with_reducible rfl
    rotate_left
    ·simp only [Act.put, List.setIfInBounds_toArray, List.set_cons_zero, List.set_cons_succ, i64_w, i32_w]
     rfl
    refine pure_ (i := 7) (N := some 60) (v := ?_) (a' := ?_) #[false, true, true, false, true, true, false, true, false, false, false, false, false, false, false, false, false] rfl rfl (any_of HT_.out (by kernel_rfl)) (fun _ _ _ h => h) (Or.inl ⟨by rfl, ?_⟩) ?_ ?_
    rotate_left
    ·intro w'
     go_simp
     with_reducible rfl
    rotate_left
    ·simp only [Act.put, List.setIfInBounds_toArray, List.set_cons_zero, List.set_cons_succ, i64_w, i32_w]
     rfl
    refine pure_ (i := 8) (N := some 61) (v := ?_) (a' := ?_) #[false, true, true, false, true, true, false, true, true, false, false, false, false, false, false, false, false] rfl rfl (any_of HT_.out (by kernel_rfl)) (fun _ _ _ h => h) (Or.inl ⟨by rfl, ?_⟩) ?_ ?_
    rotate_left
    ·intro w'
     go_simp
     with_reducible rfl
    rotate_left
    ·simp only [Act.put, List.setIfInBounds_toArray, List.set_cons_zero, List.set_cons_succ, i64_w, i32_w]
     rfl
    refine pure_ (i := 10) (N := some 63) (v := ?_) (a' := ?_) #[false, true, true, false, true, true, false, true, true, false, true, false, false, false, false, false, false] rfl rfl (any_of HT_.out (by kernel_rfl)) (fun _ _ _ h => h) (Or.inl ⟨by rfl, ?_⟩) ?_ ?_
    rotate_left
    ·intro w'
     go_simp
     with_reducible rfl
    rotate_left
    ·simp only [Act.put, List.setIfInBounds_toArray, List.set_cons_zero, List.set_cons_succ, i64_w, i32_w]
     rfl
    refine pure_ (i := 11) (N := some 64) (v := ?_) (a' := ?_) #[false, true, true, false, true, true, false, true, true, false, true, true, false, false, false, false, false] rfl rfl (any_of HT_.out (by kernel_rfl)) (fun _ _ _ h => h) (Or.inl ⟨by rfl, ?_⟩) ?_ ?_
    rotate_left
    ·intro w'
     go_simp
     with_reducible rfl
    rotate_left
    ·simp only [Act.put, List.setIfInBounds_toArray, List.set_cons_zero, List.set_cons_succ, i64_w, i32_w]
     rfl
    refine pure_ (i := 13) (N := some 66) (v := ?_) (a' := ?_) #[false, true, true, false, true, true, false, true, true, false, true, true, false, true, false, false, false] rfl rfl (any_of HT_.out (by kernel_rfl)) (fun _ _ _ h => h) (Or.inl ⟨by rfl, ?_⟩) ?_ ?_
    rotate_left
    ·intro w'
     go_simp
     with_reducible rfl
    rotate_left
    ·simp only [Act.put, List.setIfInBounds_toArray, List.set_cons_zero, List.set_cons_succ, i64_w, i32_w]
     rfl
    refine take_ (i := 0) (N := some 53) (v := ?_) (a' := ?_) #[true, true, true, false, true, true, false, true, true, false, true, true, false, true, false, false, false] rfl rfl (take_ofW HT_.out HW_.out (by kernel_rfl)) (fun _ _ _ h => h) (Or.inl ⟨by rfl, ?_⟩) hHeld ?_ ?_
    rotate_left
    ·rintro w' ⟨s0, s1, s2, s3, s4, s5, s6, s7, s8, s9⟩
     go_simp
     with_reducible rfl
    rotate_left
    ·simp only [Act.put, List.setIfInBounds_toArray, List.set_cons_zero, List.set_cons_succ, i64_w, i32_w]
     rfl
    refine take_ (i := 3) (N := some 56) (v := ?_) (a' := ?_) #[true, true, true, true, true, true, false, true, true, false, true, true, false, true, false, false, false] rfl rfl (take_ofW HT_.out HW_.out (by kernel_rfl)) (fun _ _ _ h => h) (Or.inl ⟨by rfl, ?_⟩) hHeld ?_ ?_
    rotate_left
    ·rintro w' ⟨s0, s1, s2, s3, s4, s5, s6, s7, s8, s9⟩
     go_simp
     with_reducible rfl
    rotate_left
    ·simp only [Act.put, List.setIfInBounds_toArray, List.set_cons_zero, List.set_cons_succ, i64_w, i32_w]
     rfl
    refine take_ (i := 6) (N := some 59) (v := ?_) (a' := ?_) #[true, true, true, true, true, true, true, true, true, false, true, true, false, true, false, false, false] rfl rfl (take_ofW HT_.out HW_.out (by kernel_rfl)) (fun _ _ _ h => h) (Or.inl ⟨by rfl, ?_⟩) hHeld ?_ ?_
    rotate_left
    ·rintro w' ⟨s0, s1, s2, s3, s4, s5, s6, s7, s8, s9⟩
     go_simp
     with_reducible rfl
    rotate_left
    ·simp only [Act.put, List.setIfInBounds_toArray, List.set_cons_zero, List.set_cons_succ, i64_w, i32_w]
     rfl
    refine take_ (i := 9) (N := some 62) (v := ?_) (a' := ?_) #[true, true, true, true, true, true, true, true, true, true, true, true, false, true, false, false, false] rfl rfl (take_ofW HT_.out HW_.out (by kernel_rfl)) (fun _ _ _ h => h) (Or.inl ⟨by rfl, ?_⟩) hHeld ?_ ?_
    rotate_left
    ·rintro w' ⟨s0, s1, s2, s3, s4, s5, s6, s7, s8, s9⟩
     go_simp
     with_reducible rfl
    rotate_left
    ·simp only [Act.put, List.setIfInBounds_toArray, List.set_cons_zero, List.set_cons_succ, i64_w, i32_w]
     rfl
    refine take_ (i := 12) (N := some 65) (v := ?_) (a' := ?_) #[true, true, true, true, true, true, true, true, true, true, true, true, true, true, false, false, false] rfl rfl (take_ofW HT_.out HW_.out (by kernel_rfl)) (fun _ _ _ h => h) (Or.inl ⟨by rfl, ?_⟩) hHeld ?_ ?_
    rotate_left
    ·rintro w' ⟨s0, s1, s2, s3, s4, s5, s6, s7, s8, s9⟩
     go_simp
     with_reducible rfl
    rotate_left
    ·simp only [Act.put, List.setIfInBounds_toArray, List.set_cons_zero, List.set_cons_succ, i64_w, i32_w]
     rfl
    refine take_ (i := 14) (N := some 67) (v := ?_) (a' := ?_) #[true, true, true, true, true, true, true, true, true, true, true, true, true, true, true, false, false] rfl rfl (take_ofW HT_.out HW_.out (by kernel_rfl)) (fun _ _ _ h => h) (Or.inl ⟨by rfl, ?_⟩) hHeld ?_ ?_
    rotate_left
    ·rintro w' ⟨s0, s1, s2, s3, s4, s5, s6, s7, s8, s9⟩
     go_simp
     with_reducible rfl
    rotate_left
    ·simp only [Act.put, List.setIfInBounds_toArray, List.set_cons_zero, List.set_cons_succ, i64_w, i32_w]
     rfl
    refine one_ (i := 15) (N := some 68) #[true, true, true, true, true, true, true, true, true, true, true, true, true, true, true, true, false] rfl rfl (one_of HT_.out (by kernel_rfl)) (by decide) (fun K hK => ?_)
    refine goes_ Try.func78 (by kernel_rfl) rfl #[.int .i64 a1_3, .int .i64 a1_4, .slice A1_5 l1_5.length c1_5] (by rfl) rfl rfl (by (try simp only [List.map_toArray, List.map_cons, List.map_nil]); rfl) ?_
    with_reducible refine (spec_FillImage.calls kj55 a1_3 a1_4 _ _ l1_5 tz23 tz24 tz25 tz26 _ ?side1 ?side2 A94.out).mono ?_
    (case side1 => repeat (exact (Kd.C_below HR1_5.out HB.out)))
    (case side2 => exact HC1_5.out)
    rintro e w108 ⟨vz5, rfl, ho0, hb⟩
    refine ⟨_, rfl, ?_⟩
    have n0_ := mk (Kd.R_elder' HOz0.out (Kd.R_base ho0) hb)
    have n1_ := mk (Kd.R_lower (Kd.R_new' ho0 (Kd.R_lt HOz0.out)) (below_size HB.out))
    have n2_ := mk (blk_below BKz1.out hb)
    have n3_ := mk (blk_below BKz2.out hb)
    have n4_ := mk (blk_below BKz0.out hb)
    have n5_ := mk (blk_below BKz3.out hb)
    have n6_ := mk (below_step HB.out hb)
    clear HOz0 BKz1 BKz2 BKz0 BKz3 HB
    revert n0_ n1_ n2_ n3_ n4_ n5_ n6_; intro HOz0 HOz1 BKz1 BKz2 BKz0 BKz3 HB
    (try clear hb)
    (try clear ho0)
    obtain ⟨Ao109, co109, eo109⟩ := Kd.R_slice HOz1.out
    (subst eo109)
    refine hK.out _ _ ⟨(blk_cell BKz3.out 0).trans rfl, (blk_cell BKz3.out 1).trans rfl, (blk_cell BKz3.out 2).trans rfl, (blk_cell BKz3.out 3).trans rfl, (blk_cell BKz2.out 0).trans rfl, (blk_cell BKz2.out 1).trans rfl, (blk_cell BKz2.out 2).trans rfl, (blk_cell BKz2.out 3).trans rfl, (blk_cell BKz2.out 4).trans rfl, (blk_cell BKz2.out 5).trans rfl⟩ (fun hHeld => ?_)
    clear hK K
    refine norm_ (a' := ?_) ?_ ?_
    rotate_left
    ·show Act.put _ (some 68) _ = _
     simp only [Act.put, List.setIfInBounds_toArray, List.set_cons_zero, List.set_cons_succ, i64_w, i32_w]
     rfl
    refine one_ (i := 16) (N := some 69) #[true, true, true, true, true, true, true, true, true, true, true, true, true, true, true, true, true] rfl rfl (one_of HT_.out (by kernel_rfl)) (by decide) (fun K hK => ?_)
    refine goes_ Try.func77 (by kernel_rfl) rfl #[.agg #[.int .i64 tz0, .int .i64 tz1, .int .i64 tz2, .slice Ao105 tz3.length co105], .int .i64 a1_1, .int .i64 a1_2, .agg #[.int .i64 tz23, .int .i64 tz24, .int .i64 tz25, .slice Ao109 tz26.length co109]] (by rfl) rfl rfl (by (try simp only [List.map_toArray, List.map_cons, List.map_nil]); rfl) ?_
    with_reducible refine (spec_paste.calls kj55 tz0 tz1 tz2 (fun k_ => some k_ = (.slice Ao105 tz3.length co105 : Value).ownBlock) (.slice Ao105 tz3.length co105) tz3 a1_1 a1_2 tz23 tz24 tz25 _ _ tz26 tz5 w _ ?side1 ?side2 ?side3 ?side4 A95.out).mono ?_
    (case side1 => repeat (with_reducible exact HB.out))
    (case side2 => exact Kd.R_tight rfl HOz0.out)
    (case side3 => exact Kd.C_kept_own HOz1.out (fun k_ hk_ hs_ => hk_.2 hs_))
    (case side4 => exact (Kd.R_reads' HOz1.out).2.1)
    rintro e w110 ⟨rfl, hy0, hb, hkp⟩
    refine ⟨_, rfl, ?_⟩
    have n0_ := mk (blk_kept BKz1.out hkp (fun hs_ => (fun e_ => (Kd.R_ne HOz0.out BKz1.out (by decide)) e_) hs_))
    have n1_ := mk (blk_kept BKz2.out hkp (fun hs_ => (fun e_ => (Kd.R_ne HOz0.out BKz2.out (by decide)) e_) hs_))
    have n2_ := mk (blk_kept BKz0.out hkp (fun hs_ => (fun e_ => (Kd.R_ne HOz0.out BKz0.out (by decide)) e_) hs_))
    have n3_ := mk (Kd.R_reok rfl hy0 (fun k_ e_ => HOz0.out.1 k_ e_))
    have n4_ := mk (blk_kept BKz3.out hkp (fun hs_ => (fun e_ => (Kd.R_ne HOz0.out BKz3.out (by decide)) e_) hs_))
    have n5_ := mk (Kd.R_mono (ok' := fun k_ => some k_ ≠ (.slice Ao105 tz3.length co105 : Value).ownBlock) (Kd.R_keptB HOz1.out hkp (fun k_ hk_ hs_ => hk_.2 hs_)) (fun k_ hk_ => hk_.1.2))
    have n6_ := mk (hb)
    clear BKz1 BKz2 BKz0 HOz0 BKz3 HOz1 HB
    revert n0_ n1_ n2_ n3_ n4_ n5_ n6_; intro BKz1 BKz2 BKz0 HOz0 BKz3 HOz1 HB
    (try clear hb)
    (try clear hkp)
    (try clear hy0)
    refine hK.out _ _ ⟨(blk_cell BKz3.out 0).trans rfl, (blk_cell BKz3.out 1).trans rfl, (blk_cell BKz3.out 2).trans rfl, (blk_cell BKz3.out 3).trans rfl, (blk_cell BKz2.out 0).trans rfl, (blk_cell BKz2.out 1).trans rfl, (blk_cell BKz2.out 2).trans rfl, (blk_cell BKz2.out 3).trans rfl, (blk_cell BKz2.out 4).trans rfl, (blk_cell BKz2.out 5).trans rfl⟩ (fun hHeld => ?_)
    clear hK K
    refine norm_ (a' := ?_) ?_ ?_
    rotate_left
    ·show Act.put _ (some 69) _ = _
     simp only [Act.put, List.setIfInBounds_toArray, List.set_cons_zero, List.set_cons_succ, i64_w, i32_w]
     rfl
    refine done_ (done_of HT_.out (by kernel_rfl)) ?_
    have hcz113_0 : w110.cell? ⟨gbz0, 0, none⟩ = some (.int .i64 0) := (blk_cell BKz0.out 0).trans rfl
    have hcz113_1 : w110.cell? ⟨gbz0, 1, none⟩ = some (.int .i64 0) := (blk_cell BKz0.out 1).trans rfl
    have hcz113_2 : w110.cell? ⟨gbz0, 2, none⟩ = some (.int .i64 0) := (blk_cell BKz0.out 2).trans rfl
    have hcz113_3 : w110.cell? ⟨gbz0, 3, none⟩ = some (.slice none 0 0) := (blk_cell BKz0.out 3).trans rfl
    have hfz113_0 := blk_frozen BKz0.out 0
    have hfz113_1 := blk_frozen BKz0.out 1
    have hfz113_2 := blk_frozen BKz0.out 2
    have hfz113_3 := blk_frozen BKz0.out 3
    try go_wp2
    refine bodyPost_ret (results_ct rfl _ _ gbz0 28 #[.int .i64 tz0, .int .i64 tz1, .int .i64 tz2, .slice Ao105 tz3.length co105] (0, 0) _ rfl (by refine blk_put (cs := #[.int .i64 tz0, .int .i64 tz1, .int .i64 tz2, .slice none 0 0]) ?_ 3 _ rfl; refine blk_put (cs := #[.int .i64 tz0, .int .i64 tz1, .int .i64 0, .slice none 0 0]) ?_ 2 _ rfl; refine blk_put (cs := #[.int .i64 tz0, .int .i64 0, .int .i64 0, .slice none 0 0]) ?_ 1 _ rfl; refine blk_put (cs := #[.int .i64 0, .int .i64 0, .int .i64 0, .slice none 0 0]) ?_ 0 _ rfl; (with_reducible repeat (first | refine blk_drewN ?_ _ | refine blk_drew ?_ | refine blk_alloc ?_ _)); exact BKz0.out) Try.underlying28 rfl (by kernel_rfl)) rfl ?_
    exact ⟨_, by rfl, by (with_reducible repeat (first | apply Kd.R_alloc | apply Kd.R_drewN | apply Kd.R_drew)); exact Kd.R_mono (Kd.R_far (p := ⟨gbz0, 3, none⟩) (Kd.R_far (p := ⟨gbz0, 2, none⟩) (Kd.R_far (p := ⟨gbz0, 1, none⟩) (Kd.R_far (p := ⟨gbz0, 0, none⟩) (Kd.R_types HOz0.out BKz0.out (by decide)) (fun _ hk => hk.2) (.int .i64 tz0)) (fun _ hk => hk.2) (.int .i64 tz1)) (fun _ hk => hk.2) (.int .i64 tz2)) (fun _ hk => hk.2) (.slice Ao105 tz3.length co105)) (fun _ hk => trivial), by repeat (with_reducible first | exact HB.out | refine below_set ?_ GEz0.out)⟩
 rw [if_neg c55] at H
 have c55b0 : (a1_0 == 4) = false := beq_eq_false_iff_ne.mpr c55
 simp only [Option.some.injEq, Prod.mk.injEq] at H
 obtain ⟨rfl, rfl, rfl, rfl, rfl⟩ := H
 go_enter Try.func41, Try.ntmps41
 go_wp2_with (first | ((with_reducible refine gate_dst (N := 2) rfl ?_); (try (refine gate_guard (by rfl) ?_; dsimp only)); refine box_event (by rfl) (N := 2) (by rfl) (cs := #[.int .i64 a0_0, .int .i64 a0_1, .int .i64 a0_2, .slice A0_3 l0_3.length c0_3]) (t := 28) (by go_simp; done) ?_; intro gbz2 hg w114 hbox hb; replace HB := mk (below_step HB.out hb); have BKz1 := mk (hbox); clear hb hbox hg) | ((with_reducible refine gate_dst (N := 3) rfl ?_); (try (refine gate_guard (by rfl) ?_; dsimp only)); refine box_event (by rfl) (N := 3) (by rfl) (cs := #[.int .i64 a1_0, .int .i64 a1_1, .int .i64 a1_2, .int .i64 a1_3, .int .i64 a1_4, .slice A1_5 l1_5.length c1_5]) (t := 43) (by go_simp; done) ?_; intro gbz3 hg w115 hbox hb; replace BKz1 := mk (blk_below BKz1.out hb); replace HB := mk (below_step HB.out hb); have BKz2 := mk (hbox); clear hb hbox hg) | ((with_reducible refine gate_dst (N := 4) rfl ?_); (try (refine gate_guard (by rfl) ?_; dsimp only)); refine box_event (by rfl) (N := 4) (by rfl) (cs := #[.int .i64 0, .int .i64 0, .int .i64 0, .slice none 0 0]) (t := 28) (by go_simp; done) ?_; intro gbz0 hg w116 hbox hb; have n1_ := mk (blk_below BKz2.out hb); have n2_ := mk (below_step HB.out hb); have n3_ := mk (hbox); have n5_ := mk ((by rw [hg]; exact (below_size HB.out) : w.heap.size ≤ gbz0)); clear BKz1; clear BKz2; clear HB; have BKz2 := n1_; have HB := n2_; have BKz0 := n3_; have GEz0 := n5_; clear hb hbox hg; have hcz119_0 : w116.cell? ⟨gbz3, 0, none⟩ = some (.int .i64 a1_0) := (blk_cell BKz2.out 0).trans rfl; have hcz121_0 : w116.cell? ⟨gbz0, 0, none⟩ = some (.int .i64 0) := (blk_cell BKz0.out 0).trans rfl; have hcz121_1 : w116.cell? ⟨gbz0, 1, none⟩ = some (.int .i64 0) := (blk_cell BKz0.out 1).trans rfl; have hcz121_2 : w116.cell? ⟨gbz0, 2, none⟩ = some (.int .i64 0) := (blk_cell BKz0.out 2).trans rfl; have hcz121_3 : w116.cell? ⟨gbz0, 3, none⟩ = some (.slice none 0 0) := (blk_cell BKz0.out 3).trans rfl; have hfz121_0 := blk_frozen BKz0.out 0; have hfz121_1 := blk_frozen BKz0.out 1; have hfz121_2 := blk_frozen BKz0.out 2; have hfz121_3 := blk_frozen BKz0.out 3))
 refine bodyPost_ret (results_ct rfl _ _ gbz0 28 #[.int .i64 0, .int .i64 0, .int .i64 0, .slice none 0 0] (0, 0) _ rfl (by refine blk_put (cs := #[.int .i64 0, .int .i64 0, .int .i64 0, .slice none 0 0]) ?_ 3 _ rfl; refine blk_put (cs := #[.int .i64 0, .int .i64 0, .int .i64 0, .slice none 0 0]) ?_ 2 _ rfl; refine blk_put (cs := #[.int .i64 0, .int .i64 0, .int .i64 0, .slice none 0 0]) ?_ 1 _ rfl; refine blk_put (cs := #[.int .i64 0, .int .i64 0, .int .i64 0, .slice none 0 0]) ?_ 0 _ rfl; (with_reducible repeat (first | refine blk_drewN ?_ _ | refine blk_drew ?_ | refine blk_alloc ?_ _)); exact BKz0.out) Try.underlying28 rfl (by kernel_rfl)) rfl ?_
 exact ⟨_, by rfl, by exact Kd.R_nil _ _ _ _ _, by repeat (with_reducible first | exact HB.out | refine below_set ?_ GEz0.out)⟩


def spec_DoStep.f (k : Nat) (a0_0 : Int) (a0_1 : Int) (a0_2 : Int) (l0_3 : List Int) (a1_0 : Int) (a1_1 : Int) (a1_2 : Int) (a1_3 : Int) (a1_4 : Int) (l1_5 : List Int) : Option (Int × Int × Int × List Int × Bool) := (spec_validImage.f k a0_0 a0_1 a0_2 l0_3).bind fun tz1 => (if tz1 = true then ((spec_doStep.f k a0_0 a0_1 a0_2 l0_3 a1_0 a1_1 a1_2 a1_3 a1_4 l1_5).bind fun btz0 => (some (btz0.1, btz0.2.1, btz0.2.2.1, btz0.2.2.2.1, btz0.2.2.2.2))) else (some (0, 0, 0, ([] : List Int), false)))
theorem spec_DoStep.mono : ∀ a0 a1 a2 a3 a4 a5 a6 a7 a8 a9 k, LeO (spec_DoStep.f k a0 a1 a2 a3 a4 a5 a6 a7 a8 a9) (spec_DoStep.f (k + 1) a0 a1 a2 a3 a4 a5 a6 a7 a8 a9) := by
 intro a0 a1 a2 a3 a4 a5 a6 a7 a8 a9 k
 unfold spec_DoStep.f
 repeat' first | (with_reducible exact spec_doStep.mono _ _ _ _ _ _ _ _ _ _ _) | (with_reducible exact spec_validImage.mono _ _ _ _ _) | (with_reducible exact LeO.refl _) | (with_reducible refine LeO.ite ?_ ?_) | (with_reducible refine LeO.bind ?_ (fun _ => ?_))
set_option maxHeartbeats 8000000 in
set_option maxRecDepth 100000 in
theorem spec_DoStep.calls (k : Nat) (a0_0 : Int) (a0_1 : Int) (a0_2 : Int) (A0_3 : Option Addr) (c0_3 : Nat) (l0_3 : List Int) (a1_0 : Int) (a1_1 : Int) (a1_2 : Int) (a1_3 : Int) (a1_4 : Int) (A1_5 : Option Addr) (c1_5 : Nat) (l1_5 : List Int) (r1 : Int) (r2 : Int) (r3 : Int) (r4 : List Int) (r5 : Bool) (w : World) (hr0_3 : Kd.C (Kd.int .i64) w A0_3 l0_3.length l0_3) (hc0_3 : l0_3.length ≤ c0_3) (hr1_5 : Kd.C (Kd.int .i64) w A1_5 l1_5.length l1_5) (hc1_5 : l1_5.length ≤ c1_5) (h : spec_DoStep.f k a0_0 a0_1 a0_2 l0_3 a1_0 a1_1 a1_2 a1_3 a1_4 l1_5 = some (r1, r2, r3, r4, r5)) :
  Calls Try.prog 23 #[.agg #[.int .i64 a0_0, .int .i64 a0_1, .int .i64 a0_2, .slice A0_3 l0_3.length c0_3], .agg #[.int .i64 a1_0, .int .i64 a1_1, .int .i64 a1_2, .int .i64 a1_3, .int .i64 a1_4, .slice A1_5 l1_5.length c1_5]] w fun e w' => ∃ v3_ : Value, e = .returned (.tuple #[.agg #[.int .i64 r1, .int .i64 r2, .int .i64 r3, v3_], .bool r5]) ∧ Kd.R (Kd.int .i64) 3 w' w.heap.size (fun _ => True) v3_ r4 ∧ Below w.heap.size w w' := by
 have hu28 := Try.underlying28
 have hu43 := Try.underlying43
 have HR0_3 := mk hr0_3
 have HC0_3 := mk hc0_3
 clear hr0_3 hc0_3
 have HR1_5 := mk hr1_5
 have HC1_5 := mk hc1_5
 clear hr1_5 hc1_5
 have HB := mk (Below.refl w.heap.size w)
 have H : ((spec_validImage.f k a0_0 a0_1 a0_2 l0_3).bind fun tz1 => (if tz1 = true then ((spec_doStep.f k a0_0 a0_1 a0_2 l0_3 a1_0 a1_1 a1_2 a1_3 a1_4 l1_5).bind fun btz0 => (some (btz0.1, btz0.2.1, btz0.2.2.1, btz0.2.2.2.1, btz0.2.2.2.2))) else (some (0, 0, 0, ([] : List Int), false)))) = some (r1, r2, r3, r4, r5) := h
 clear h
 replace H := Option.bind_eq_some_iff.mp H
 obtain ⟨tz1, A30, H⟩ := H
 replace H : (if tz1 = true then ((spec_doStep.f k a0_0 a0_1 a0_2 l0_3 a1_0 a1_1 a1_2 a1_3 a1_4 l1_5).bind fun btz0 => (some (btz0.1, btz0.2.1, btz0.2.2.1, btz0.2.2.2.1, btz0.2.2.2.2))) else (some (0, 0, 0, ([] : List Int), false))) = some (r1, r2, r3, r4, r5) := H
 have A3 := mk A30
 clear A30
 by_cases c4 : tz1 = true
 ·subst c4
  have H1 : ((spec_doStep.f k a0_0 a0_1 a0_2 l0_3 a1_0 a1_1 a1_2 a1_3 a1_4 l1_5).bind fun btz0 => (some (btz0.1, btz0.2.1, btz0.2.2.1, btz0.2.2.2.1, btz0.2.2.2.2))) = some (r1, r2, r3, r4, r5) := by rw [if_pos rfl] at H; exact H
  clear H
  have H := H1
  clear H1
  replace H := Option.bind_eq_some_iff.mp H
  obtain ⟨⟨tz0, tz2, tz3, tz4, tz5⟩, A50, H⟩ := H
  replace H : (some (tz0, tz2, tz3, tz4, tz5)) = some (r1, r2, r3, r4, r5) := H
  have A5 := mk A50
  clear A50
  simp only [Option.some.injEq, Prod.mk.injEq] at H
  obtain ⟨rfl, rfl, rfl, rfl, rfl⟩ := H
  go_enter Try.func23, Try.ntmps23
  go_wp2_with (first | ((with_reducible refine gate_dst (N := 2) rfl ?_); refine box_event (by rfl) (N := 2) (by rfl) (cs := #[.int .i64 a0_0, .int .i64 a0_1, .int .i64 a0_2, .slice A0_3 l0_3.length c0_3]) (t := 28) (by go_simp; done) ?_; intro gbz1 hg w6 hbox hb; replace HB := mk (below_step HB.out hb); have BKz1 := mk (hbox); clear hb hbox hg) | ((with_reducible refine gate_dst (N := 3) rfl ?_); refine box_event (by rfl) (N := 3) (by rfl) (cs := #[.int .i64 a1_0, .int .i64 a1_1, .int .i64 a1_2, .int .i64 a1_3, .int .i64 a1_4, .slice A1_5 l1_5.length c1_5]) (t := 43) (by go_simp; done) ?_; intro gbz2 hg w7 hbox hb; replace BKz1 := mk (blk_below BKz1.out hb); replace HB := mk (below_step HB.out hb); have BKz2 := mk (hbox); clear hb hbox hg) | ((with_reducible refine gate_dst (N := 4) rfl ?_); refine box_event (by rfl) (N := 4) (by rfl) (cs := #[.int .i64 0, .int .i64 0, .int .i64 0, .slice none 0 0]) (t := 28) (by go_simp; done) ?_; intro gbz0 hg w8 hbox hb; replace BKz1 := mk (blk_below BKz1.out hb); replace BKz2 := mk (blk_below BKz2.out hb); have BKz0 := mk (hbox); have GEz0 := mk ((by rw [hg]; exact (below_size HB.out) : w.heap.size ≤ gbz0)); replace HB := mk (below_step HB.out hb); clear hb hbox hg; have hcz11_0 : w8.cell? ⟨gbz1, 0, none⟩ = some (.int .i64 a0_0) := (blk_cell BKz1.out 0).trans rfl; have hcz11_1 : w8.cell? ⟨gbz1, 1, none⟩ = some (.int .i64 a0_1) := (blk_cell BKz1.out 1).trans rfl; have hcz11_2 : w8.cell? ⟨gbz1, 2, none⟩ = some (.int .i64 a0_2) := (blk_cell BKz1.out 2).trans rfl; have hcz11_3 : w8.cell? ⟨gbz1, 3, none⟩ = some (.slice A0_3 l0_3.length c0_3) := (blk_cell BKz1.out 3).trans rfl) | ((with_reducible refine gate_callee (f := 39) rfl ?_); refine goesL_ (some 7) rfl rfl Try.func39 (by kernel_rfl) rfl #[.agg #[.int .i64 a0_0, .int .i64 a0_1, .int .i64 a0_2, .slice A0_3 l0_3.length c0_3]] rfl (by (try simp only [List.map_toArray, List.map_cons, List.map_nil]); rfl) ?_; (with_reducible refine (spec_validImage.calls k a0_0 a0_1 a0_2 _ _ l0_3 true _ ?side1 ?side2 A3.out).mono ?_); (case side1 => repeat (exact (Kd.C_below HR0_3.out HB.out))); (case side2 => exact HC0_3.out); rintro e w12 ⟨rfl, hb⟩; refine ⟨_, rfl, ?_⟩; replace BKz1 := mk (blk_below BKz1.out hb); replace BKz2 := mk (blk_below BKz2.out hb); replace BKz0 := mk (blk_below BKz0.out hb); replace HB := mk (below_step HB.out hb); (try clear hb); have hcz13_0 : w12.cell? ⟨gbz1, 0, none⟩ = some (.int .i64 a0_0) := (blk_cell BKz1.out 0).trans rfl; have hcz13_1 : w12.cell? ⟨gbz1, 1, none⟩ = some (.int .i64 a0_1) := (blk_cell BKz1.out 1).trans rfl; have hcz13_2 : w12.cell? ⟨gbz1, 2, none⟩ = some (.int .i64 a0_2) := (blk_cell BKz1.out 2).trans rfl; have hcz13_3 : w12.cell? ⟨gbz1, 3, none⟩ = some (.slice A0_3 l0_3.length c0_3) := (blk_cell BKz1.out 3).trans rfl; have hcz15_0 : w12.cell? ⟨gbz2, 0, none⟩ = some (.int .i64 a1_0) := (blk_cell BKz2.out 0).trans rfl; have hcz15_1 : w12.cell? ⟨gbz2, 1, none⟩ = some (.int .i64 a1_1) := (blk_cell BKz2.out 1).trans rfl; have hcz15_2 : w12.cell? ⟨gbz2, 2, none⟩ = some (.int .i64 a1_2) := (blk_cell BKz2.out 2).trans rfl; have hcz15_3 : w12.cell? ⟨gbz2, 3, none⟩ = some (.int .i64 a1_3) := (blk_cell BKz2.out 3).trans rfl; have hcz15_4 : w12.cell? ⟨gbz2, 4, none⟩ = some (.int .i64 a1_4) := (blk_cell BKz2.out 4).trans rfl; have hcz15_5 : w12.cell? ⟨gbz2, 5, none⟩ = some (.slice A1_5 l1_5.length c1_5) := (blk_cell BKz2.out 5).trans rfl) | ((with_reducible refine gate_callee (f := 41) rfl ?_); refine goesL_ (some 12) rfl rfl Try.func41 (by kernel_rfl) rfl #[.agg #[.int .i64 a0_0, .int .i64 a0_1, .int .i64 a0_2, .slice A0_3 l0_3.length c0_3], .agg #[.int .i64 a1_0, .int .i64 a1_1, .int .i64 a1_2, .int .i64 a1_3, .int .i64 a1_4, .slice A1_5 l1_5.length c1_5]] rfl (by (try simp only [List.map_toArray, List.map_cons, List.map_nil]); rfl) ?_; (with_reducible refine (spec_doStep.calls k a0_0 a0_1 a0_2 _ _ l0_3 a1_0 a1_1 a1_2 a1_3 a1_4 _ _ l1_5 tz0 tz2 tz3 tz4 tz5 _ ?side1 ?side2 ?side3 ?side4 A5.out).mono ?_); (case side1 => repeat (exact (Kd.C_below HR0_3.out HB.out))); (case side2 => exact HC0_3.out); (case side3 => repeat (exact (Kd.C_below HR1_5.out HB.out))); (case side4 => exact HC1_5.out); rintro e w16 ⟨vz0, rfl, ho0, hb⟩; refine ⟨_, rfl, ?_⟩; have n0_ := mk (Kd.R_lower ho0 (below_size HB.out)); have n3_ := mk (blk_below BKz0.out hb); have n4_ := mk (below_step HB.out hb); clear BKz1; clear BKz2; clear BKz0; clear HB; have HOz0 := n0_; have BKz0 := n3_; have HB := n4_; (try clear hb); (try clear ho0); have hcz17_0 : w16.cell? ⟨gbz0, 0, none⟩ = some (.int .i64 0) := (blk_cell BKz0.out 0).trans rfl; have hcz17_1 : w16.cell? ⟨gbz0, 1, none⟩ = some (.int .i64 0) := (blk_cell BKz0.out 1).trans rfl; have hcz17_2 : w16.cell? ⟨gbz0, 2, none⟩ = some (.int .i64 0) := (blk_cell BKz0.out 2).trans rfl; have hcz17_3 : w16.cell? ⟨gbz0, 3, none⟩ = some (.slice none 0 0) := (blk_cell BKz0.out 3).trans rfl; have hfz17_0 := blk_frozen BKz0.out 0; have hfz17_1 := blk_frozen BKz0.out 1; have hfz17_2 := blk_frozen BKz0.out 2; have hfz17_3 := blk_frozen BKz0.out 3; obtain ⟨Ao18, co18, eo18⟩ := Kd.R_slice HOz0.out; subst eo18))
  refine bodyPost_ret (results_ct rfl _ _ gbz0 28 #[.int .i64 tz0, .int .i64 tz2, .int .i64 tz3, .slice Ao18 tz4.length co18] (0, 0) _ rfl (by refine blk_put (cs := #[.int .i64 tz0, .int .i64 tz2, .int .i64 tz3, .slice none 0 0]) ?_ 3 _ rfl; refine blk_put (cs := #[.int .i64 tz0, .int .i64 tz2, .int .i64 0, .slice none 0 0]) ?_ 2 _ rfl; refine blk_put (cs := #[.int .i64 tz0, .int .i64 0, .int .i64 0, .slice none 0 0]) ?_ 1 _ rfl; refine blk_put (cs := #[.int .i64 0, .int .i64 0, .int .i64 0, .slice none 0 0]) ?_ 0 _ rfl; (with_reducible repeat (first | refine blk_drewN ?_ _ | refine blk_drew ?_ | refine blk_alloc ?_ _)); exact BKz0.out) Try.underlying28 rfl (by kernel_rfl)) rfl ?_
  exact ⟨_, by rfl, by (with_reducible repeat (first | apply Kd.R_alloc | apply Kd.R_drewN | apply Kd.R_drew)); exact Kd.R_mono (Kd.R_far (p := ⟨gbz0, 3, none⟩) (Kd.R_far (p := ⟨gbz0, 2, none⟩) (Kd.R_far (p := ⟨gbz0, 1, none⟩) (Kd.R_far (p := ⟨gbz0, 0, none⟩) (Kd.R_types HOz0.out BKz0.out (by decide)) (fun _ hk => hk.2) (.int .i64 tz0)) (fun _ hk => hk.2) (.int .i64 tz2)) (fun _ hk => hk.2) (.int .i64 tz3)) (fun _ hk => hk.2) (.slice Ao18 tz4.length co18)) (fun _ hk => trivial), by repeat (with_reducible first | exact HB.out | refine below_set ?_ GEz0.out)⟩
 replace c4 := Bool.eq_false_iff.mpr c4
 subst c4
 have H1 : (some (0, 0, 0, ([] : List Int), false)) = some (r1, r2, r3, r4, r5) := by rw [if_neg (show ¬ (false = true) by decide)] at H; exact H
 clear H
 have H := H1
 clear H1
 simp only [Option.some.injEq, Prod.mk.injEq] at H
 obtain ⟨rfl, rfl, rfl, rfl, rfl⟩ := H
 go_enter Try.func23, Try.ntmps23
 go_wp2_with (first | ((with_reducible refine gate_dst (N := 2) rfl ?_); refine box_event (by rfl) (N := 2) (by rfl) (cs := #[.int .i64 a0_0, .int .i64 a0_1, .int .i64 a0_2, .slice A0_3 l0_3.length c0_3]) (t := 28) (by go_simp; done) ?_; intro gbz1 hg w19 hbox hb; replace HB := mk (below_step HB.out hb); have BKz1 := mk (hbox); clear hb hbox hg) | ((with_reducible refine gate_dst (N := 3) rfl ?_); refine box_event (by rfl) (N := 3) (by rfl) (cs := #[.int .i64 a1_0, .int .i64 a1_1, .int .i64 a1_2, .int .i64 a1_3, .int .i64 a1_4, .slice A1_5 l1_5.length c1_5]) (t := 43) (by go_simp; done) ?_; intro gbz2 hg w20 hbox hb; replace BKz1 := mk (blk_below BKz1.out hb); replace HB := mk (below_step HB.out hb); have BKz2 := mk (hbox); clear hb hbox hg) | ((with_reducible refine gate_dst (N := 4) rfl ?_); refine box_event (by rfl) (N := 4) (by rfl) (cs := #[.int .i64 0, .int .i64 0, .int .i64 0, .slice none 0 0]) (t := 28) (by go_simp; done) ?_; intro gbz0 hg w21 hbox hb; replace BKz1 := mk (blk_below BKz1.out hb); replace BKz2 := mk (blk_below BKz2.out hb); have BKz0 := mk (hbox); have GEz0 := mk ((by rw [hg]; exact (below_size HB.out) : w.heap.size ≤ gbz0)); replace HB := mk (below_step HB.out hb); clear hb hbox hg; have hcz24_0 : w21.cell? ⟨gbz1, 0, none⟩ = some (.int .i64 a0_0) := (blk_cell BKz1.out 0).trans rfl; have hcz24_1 : w21.cell? ⟨gbz1, 1, none⟩ = some (.int .i64 a0_1) := (blk_cell BKz1.out 1).trans rfl; have hcz24_2 : w21.cell? ⟨gbz1, 2, none⟩ = some (.int .i64 a0_2) := (blk_cell BKz1.out 2).trans rfl; have hcz24_3 : w21.cell? ⟨gbz1, 3, none⟩ = some (.slice A0_3 l0_3.length c0_3) := (blk_cell BKz1.out 3).trans rfl) | ((with_reducible refine gate_callee (f := 39) rfl ?_); refine goesL_ (some 7) rfl rfl Try.func39 (by kernel_rfl) rfl #[.agg #[.int .i64 a0_0, .int .i64 a0_1, .int .i64 a0_2, .slice A0_3 l0_3.length c0_3]] rfl (by (try simp only [List.map_toArray, List.map_cons, List.map_nil]); rfl) ?_; (with_reducible refine (spec_validImage.calls k a0_0 a0_1 a0_2 _ _ l0_3 false _ ?side1 ?side2 A3.out).mono ?_); (case side1 => repeat (exact (Kd.C_below HR0_3.out HB.out))); (case side2 => exact HC0_3.out); rintro e w25 ⟨rfl, hb⟩; refine ⟨_, rfl, ?_⟩; have n2_ := mk (blk_below BKz0.out hb); have n3_ := mk (below_step HB.out hb); clear BKz1; clear BKz2; clear BKz0; clear HB; have BKz0 := n2_; have HB := n3_; (try clear hb); have hcz27_0 : w25.cell? ⟨gbz0, 0, none⟩ = some (.int .i64 0) := (blk_cell BKz0.out 0).trans rfl; have hcz27_1 : w25.cell? ⟨gbz0, 1, none⟩ = some (.int .i64 0) := (blk_cell BKz0.out 1).trans rfl; have hcz27_2 : w25.cell? ⟨gbz0, 2, none⟩ = some (.int .i64 0) := (blk_cell BKz0.out 2).trans rfl; have hcz27_3 : w25.cell? ⟨gbz0, 3, none⟩ = some (.slice none 0 0) := (blk_cell BKz0.out 3).trans rfl; have hfz27_0 := blk_frozen BKz0.out 0; have hfz27_1 := blk_frozen BKz0.out 1; have hfz27_2 := blk_frozen BKz0.out 2; have hfz27_3 := blk_frozen BKz0.out 3))
 refine bodyPost_ret (results_ct rfl _ _ gbz0 28 #[.int .i64 0, .int .i64 0, .int .i64 0, .slice none 0 0] (0, 0) _ rfl (by refine blk_put (cs := #[.int .i64 0, .int .i64 0, .int .i64 0, .slice none 0 0]) ?_ 3 _ rfl; refine blk_put (cs := #[.int .i64 0, .int .i64 0, .int .i64 0, .slice none 0 0]) ?_ 2 _ rfl; refine blk_put (cs := #[.int .i64 0, .int .i64 0, .int .i64 0, .slice none 0 0]) ?_ 1 _ rfl; refine blk_put (cs := #[.int .i64 0, .int .i64 0, .int .i64 0, .slice none 0 0]) ?_ 0 _ rfl; (with_reducible repeat (first | refine blk_drewN ?_ _ | refine blk_drew ?_ | refine blk_alloc ?_ _)); exact BKz0.out) Try.underlying28 rfl (by kernel_rfl)) rfl ?_
 exact ⟨_, by rfl, by exact Kd.R_nil _ _ _ _ _, by repeat (with_reducible first | exact HB.out | refine below_set ?_ GEz0.out)⟩

end Go.Proofs.Ytgccpcnakkioiaa.Q

namespace Go.Proofs.Ytgccpcnakkioiaa.Q
open Go.RowKit Go.Proofs.YtgccpcnakkioiaaW.PrintWords Go.Proofs.YtgccpcnakkioiaaW.PrintLast Go.Proofs.YtgccpcnakkioiaaW.PrintMore
attribute [local go_sem] max2_int min2_int max_two min_two max_three min_three max_four min_four
set_option linter.unusedVariables false
set_option linter.unusedSimpArgs false
def laws_equalInts.l0 : Nat → List Int → List Int → Int → Option (Bool)
 | 0, _, _, _ => none
 | k + 1, x0, x1, x5 => if x5 < (x0.length : Int) then (if 0 ≤ x5 then (if x5 < (x1.length : Int) then (if (rd x0 x5) = (rd x1 x5) then (laws_equalInts.l0 k x0 x1 (wrap64 (x5 + 1))) else (some false)) else (none)) else (none)) else (some true)
def laws_equalInts.f (k : Nat) (l0 : List Int) (l1 : List Int) : Option (Bool) := if (l0.length : Int) = (l1.length : Int) then (laws_equalInts.l0 k l0 l1 0) else (some false)
theorem laws_equalInts.mono_l : ∀ k, (∀ y0 y1 y2, LeO (laws_equalInts.l0 k y0 y1 y2) (laws_equalInts.l0 (k + 1) y0 y1 y2))
 | 0 => fun _ _ _ r h => by simp [laws_equalInts.l0] at h
 | k + 1 => by
  have ih0 := laws_equalInts.mono_l k
  ·intro y0 y1 y2
   unfold laws_equalInts.l0
   repeat' first
   | (with_reducible exact ih0 _ _ _)
   | (with_reducible exact LeO.refl _)
   | (with_reducible exact LeO.none _)
   | (with_reducible refine LeO.ite ?_ ?_)
   | (with_reducible refine LeO.bind ?_ (fun _ => ?_))
   | exact ih0 _ _ _
   | exact LeO.none _
   | refine LeO.ite ?_ ?_
   | refine LeO.bind ?_ (fun _ => ?_)
theorem laws_equalInts.mono : ∀ a0 a1 k, LeO (laws_equalInts.f k a0 a1) (laws_equalInts.f (k + 1) a0 a1) := by
 intro a0 a1 k
 have ih0 := laws_equalInts.mono_l k
 unfold laws_equalInts.f
 repeat' first
   | (with_reducible exact ih0 _ _ _)
   | (with_reducible exact LeO.refl _)
   | (with_reducible exact LeO.none _)
   | (with_reducible refine LeO.ite ?_ ?_)
   | (with_reducible refine LeO.bind ?_ (fun _ => ?_))
   | exact ih0 _ _ _
   | exact LeO.none _
   | refine LeO.ite ?_ ?_
   | refine LeO.bind ?_ (fun _ => ?_)
set_option maxHeartbeats 8000000 in
set_option maxRecDepth 100000 in
theorem laws_equalInts.calls (k : Nat) (A0 : Option Addr) (c0 : Nat) (l0 : List Int) (A1 : Option Addr) (c1 : Nat) (l1 : List Int) (r : Bool) (w : World) (hr0 : Kd.C (Kd.int .i64) w A0 l0.length l0) (hc0 : l0.length ≤ c0) (hr1 : Kd.C (Kd.int .i64) w A1 l1.length l1) (hc1 : l1.length ≤ c1) (h : laws_equalInts.f k l0 l1 = some r) :
  Calls Try.prog 52 #[.slice A0 l0.length c0, .slice A1 l1.length c1] w fun e w' => e = .returned (.bool r) ∧ Drawn0 w w' := by
 have HR0 := Aside0.mk hr0
 have HC0 := Aside0.mk hc0
 clear hr0 hc0
 have HR1 := Aside0.mk hr1
 have HC1 := Aside0.mk hc1
 clear hr1 hc1
 have H : (if (l0.length : Int) = (l1.length : Int) then (laws_equalInts.l0 k l0 l1 0) else (some false)) = some r := h
 clear h
 by_cases c3 : (l0.length : Int) = (l1.length : Int)
 ·rw [if_pos c3] at H
  have c3b0 : ((l0.length : Int) == (l1.length : Int)) = true := beq_iff_eq.mpr c3
  have c3b1 : ((l0.length : Int) != (l1.length : Int)) = false := bne_eq_false_iff_eq.mpr c3
  have c3b2 : (l0.length == l1.length) = true := by first | simpa using c3 | (simp at c3 ⊢; omega)
  clear c3
  have H' := Aside0.mk H
  clear H
  go_enter Try.func52, Try.ntmps52
  go_wp2
  repeat (go_quiet (fail); try go_wp2)
  go_loopg [5] k (fun kq v5 w' => ∃ (x5_1 : Int), v5 = .int .i64 x5_1 ∧ Aside0 (laws_equalInts.l0 kq l0 l1 x5_1 = some r) ∧ Aside0 (kq ≤ k) ∧ Drawn0 w w')
  case atStart => exact ⟨(0), (by first | rfl | (simp; done) | (simp [*]; done)), H', ⟨Nat.le_refl _⟩, by repeat (first | exact Drawn0.refl _ | apply Drawn0.step)⟩
  case round =>
   clear H'
   try clear c1
   try clear p2
   try clear c3
   try clear c3b0
   try clear c3b1
   try clear c3b2
   obtain ⟨x5_1, rfl, HA, HK1, ⟨m1, rfl⟩⟩ := hrel
   cases gk with
   | zero => exact absurd HA.out (by simp [laws_equalInts.l0])
   | succ k1 =>
    have H := HA.out
    clear HA
    simp only [laws_equalInts.l0] at H
    by_cases c4 : x5_1 < (l0.length : Int)
    ·rw [if_pos c4] at H
     have c4b0 : decide (x5_1 < (l0.length : Int)) = true := decide_eq_true c4
     clear c4
     by_cases c5 : 0 ≤ x5_1
     ·rw [if_pos c5] at H
      have c5b0 : decide (0 ≤ x5_1) = true := decide_eq_true c5
      clear c5
      by_cases c6 : x5_1 < (l1.length : Int)
      ·rw [if_pos c6] at H
       have c6b0 : decide (x5_1 < (l1.length : Int)) = true := decide_eq_true c6
       clear c6
       by_cases c7 : (rd l0 x5_1) = (rd l1 x5_1)
       ·rw [if_pos c7] at H
        have c7b0 : ((rd l0 x5_1) == (rd l1 x5_1)) = true := beq_iff_eq.mpr c7
        have c7b1 : ((rd l0 x5_1) != (rd l1 x5_1)) = false := bne_eq_false_iff_eq.mpr c7
        clear c7
        have H' := Aside0.mk H
        clear H
        have p53001 : 0 ≤ (x5_1 : Int) := of_decide_eq_true (by first | (with_reducible assumption) | assumption)
        have q53001 : x5_1 < (l0.length : Int) := of_decide_eq_true (by first | (with_reducible assumption) | assumption)
        obtain ⟨ad53001, e53001, hx53001_0⟩ := Kd.at_int HR0.out x5_1 p53001 q53001
        cases e53001
        replace p53001 := eq_true p53001
        replace q53001 := eq_true q53001
        have p53002 : 0 ≤ (x5_1 : Int) := of_decide_eq_true (by first | (with_reducible assumption) | assumption)
        have q53002 : x5_1 < (l1.length : Int) := of_decide_eq_true (by first | (with_reducible assumption) | assumption)
        obtain ⟨ad53002, e53002, hx53002_0⟩ := Kd.at_int HR1.out x5_1 p53002 q53002
        cases e53002
        replace p53002 := eq_true p53002
        replace q53002 := eq_true q53002
        go_wp2
        repeat (go_quiet (fail); try go_wp2)
        go_roundg k1
        case measure => have := HK1.out; omega
        case rel => exact ⟨(wrap64 (x5_1 + 1)), (by first | rfl | (simp; done) | (simp [*]; done)), H', ⟨by have := HK1.out; omega⟩, by repeat (first | exact Drawn0.refl _ | apply Drawn0.step)⟩
       ·rw [if_neg c7] at H
        have c7b0 : ((rd l0 x5_1) == (rd l1 x5_1)) = false := beq_eq_false_iff_ne.mpr c7
        have c7b1 : ((rd l0 x5_1) != (rd l1 x5_1)) = true := bne_iff_ne.mpr c7
        obtain rfl := Option.some.inj H
        have p53001 : 0 ≤ (x5_1 : Int) := of_decide_eq_true (by first | (with_reducible assumption) | assumption)
        have q53001 : x5_1 < (l0.length : Int) := of_decide_eq_true (by first | (with_reducible assumption) | assumption)
        obtain ⟨ad53001, e53001, hx53001_0⟩ := Kd.at_int HR0.out x5_1 p53001 q53001
        cases e53001
        replace p53001 := eq_true p53001
        replace q53001 := eq_true q53001
        have p53002 : 0 ≤ (x5_1 : Int) := of_decide_eq_true (by first | (with_reducible assumption) | assumption)
        have q53002 : x5_1 < (l1.length : Int) := of_decide_eq_true (by first | (with_reducible assumption) | assumption)
        obtain ⟨ad53002, e53002, hx53002_0⟩ := Kd.at_int HR1.out x5_1 p53002 q53002
        cases e53002
        replace p53002 := eq_true p53002
        replace q53002 := eq_true q53002
        go_wp2
        repeat (go_quiet (fail); try go_wp2)
        go_ret
        exact ⟨by first | rfl | (simp; done) | (simp [*]; done), by repeat (first | exact Drawn0.refl _ | apply Drawn0.step)⟩
      ·rw [if_neg c6] at H
       exact absurd H (by simp)
     ·rw [if_neg c5] at H
      exact absurd H (by simp)
    ·rw [if_neg c4] at H
     have c4b0 : decide (x5_1 < (l0.length : Int)) = false := decide_eq_false c4
     clear c4
     obtain rfl := Option.some.inj H
     go_wp2
     repeat (go_quiet (fail); try go_wp2)
     go_ret
     exact ⟨by first | rfl | (simp; done) | (simp [*]; done), by repeat (first | exact Drawn0.refl _ | apply Drawn0.step)⟩
 ·rw [if_neg c3] at H
  have c3b0 : ((l0.length : Int) == (l1.length : Int)) = false := beq_eq_false_iff_ne.mpr c3
  have c3b1 : ((l0.length : Int) != (l1.length : Int)) = true := bne_iff_ne.mpr c3
  have c3b2 : (l0.length == l1.length) = false := by first | simpa using c3 | (simp at c3 ⊢; omega)
  obtain rfl := Option.some.inj H
  go_enter Try.func52, Try.ntmps52
  go_wp2
  repeat (go_quiet (fail); try go_wp2)
  go_ret
  exact ⟨by first | rfl | (simp; done) | (simp [*]; done), by repeat (first | exact Drawn0.refl _ | apply Drawn0.step)⟩

end Go.Proofs.Ytgccpcnakkioiaa.Q

namespace Go.Proofs.Ytgccpcnakkioiaa.Q
open Go.RowKit Go.Proofs.YtgccpcnakkioiaaW.PrintWords Go.Proofs.YtgccpcnakkioiaaW.PrintLast Go.Proofs.YtgccpcnakkioiaaW.PrintMore
open Go.Proofs.YtgccpcnakkioiaaW.PrintWords.Aside0 (mk)
attribute [local go_sem] max2_int min2_int max_two min_two max_three min_three max_four min_four
set_option linter.unusedVariables false
set_option linter.unusedSimpArgs false
def laws_equalImage.f (k : Nat) (a0_0 : Int) (a0_1 : Int) (a0_2 : Int) (l0_3 : List Int) (a1_0 : Int) (a1_1 : Int) (a1_2 : Int) (l1_3 : List Int) : Option Bool := if a0_0 = a1_0 then (if a0_1 = a1_1 then (if a0_2 = a1_2 then ((laws_equalInts.f k l0_3 l1_3).bind fun tz0 => (some tz0)) else (some false)) else (some false)) else (some false)
theorem laws_equalImage.mono : ∀ a0 a1 a2 a3 a4 a5 a6 a7 k, LeO (laws_equalImage.f k a0 a1 a2 a3 a4 a5 a6 a7) (laws_equalImage.f (k + 1) a0 a1 a2 a3 a4 a5 a6 a7) := by
 intro a0 a1 a2 a3 a4 a5 a6 a7 k
 unfold laws_equalImage.f
 repeat' first | (with_reducible exact laws_equalInts.mono _ _ _) | (with_reducible exact LeO.refl _) | (with_reducible refine LeO.ite ?_ ?_) | (with_reducible refine LeO.bind ?_ (fun _ => ?_))
set_option maxHeartbeats 8000000 in
set_option maxRecDepth 100000 in
theorem laws_equalImage.calls (k : Nat) (a0_0 : Int) (a0_1 : Int) (a0_2 : Int) (A0_3 : Option Addr) (c0_3 : Nat) (l0_3 : List Int) (a1_0 : Int) (a1_1 : Int) (a1_2 : Int) (A1_3 : Option Addr) (c1_3 : Nat) (l1_3 : List Int) (r : Bool) (w : World) (hr0_3 : Kd.C (Kd.int .i64) w A0_3 l0_3.length l0_3) (hc0_3 : l0_3.length ≤ c0_3) (hr1_3 : Kd.C (Kd.int .i64) w A1_3 l1_3.length l1_3) (hc1_3 : l1_3.length ≤ c1_3) (h : laws_equalImage.f k a0_0 a0_1 a0_2 l0_3 a1_0 a1_1 a1_2 l1_3 = some r) :
  Calls Try.prog 24 #[.agg #[.int .i64 a0_0, .int .i64 a0_1, .int .i64 a0_2, .slice A0_3 l0_3.length c0_3], .agg #[.int .i64 a1_0, .int .i64 a1_1, .int .i64 a1_2, .slice A1_3 l1_3.length c1_3]] w fun e w' => e = .returned (.bool r) ∧ Below w.heap.size w w' := by
 have hu28 := Try.underlying28
 have HR0_3 := mk hr0_3
 have HC0_3 := mk hc0_3
 clear hr0_3 hc0_3
 have HR1_3 := mk hr1_3
 have HC1_3 := mk hc1_3
 clear hr1_3 hc1_3
 have HB := mk (Below.refl w.heap.size w)
 have H : (if a0_0 = a1_0 then (if a0_1 = a1_1 then (if a0_2 = a1_2 then ((laws_equalInts.f k l0_3 l1_3).bind fun tz0 => (some tz0)) else (some false)) else (some false)) else (some false)) = some r := h
 clear h
 by_cases c3 : a0_0 = a1_0
 ·rw [if_pos c3] at H
  have c3b0 : (a0_0 == a1_0) = true := beq_iff_eq.mpr c3
  have c3b1 : (a0_0 != a1_0) = false := bne_eq_false_iff_eq.mpr c3
  clear c3
  by_cases c4 : a0_1 = a1_1
  ·rw [if_pos c4] at H
   have c4b0 : (a0_1 == a1_1) = true := beq_iff_eq.mpr c4
   have c4b1 : (a0_1 != a1_1) = false := bne_eq_false_iff_eq.mpr c4
   clear c4
   by_cases c5 : a0_2 = a1_2
   ·rw [if_pos c5] at H
    have c5b0 : (a0_2 == a1_2) = true := beq_iff_eq.mpr c5
    have c5b1 : (a0_2 != a1_2) = false := bne_eq_false_iff_eq.mpr c5
    clear c5
    replace H := Option.bind_eq_some_iff.mp H
    obtain ⟨tz0, A60, H⟩ := H
    replace H : (some tz0) = some r := H
    have A6 := mk A60
    clear A60
    obtain rfl := Option.some.inj H
    go_enter Try.func24, Try.ntmps24
    go_wp2_with (first | ((with_reducible refine gate_dst (N := 2) rfl ?_); refine box_event (by rfl) (N := 2) (by rfl) (cs := #[.int .i64 a0_0, .int .i64 a0_1, .int .i64 a0_2, .slice A0_3 l0_3.length c0_3]) (t := 28) (by go_simp; done) ?_; intro gbz0 hg w7 hbox hb; replace HB := mk (below_step HB.out hb); have BKz0 := mk (hbox); clear hb hbox hg) | ((with_reducible refine gate_dst (N := 3) rfl ?_); refine box_event (by rfl) (N := 3) (by rfl) (cs := #[.int .i64 a1_0, .int .i64 a1_1, .int .i64 a1_2, .slice A1_3 l1_3.length c1_3]) (t := 28) (by go_simp; done) ?_; intro gbz1 hg w8 hbox hb; replace BKz0 := mk (blk_below BKz0.out hb); replace HB := mk (below_step HB.out hb); have BKz1 := mk (hbox); clear hb hbox hg; have hcz10_0 : w8.cell? ⟨gbz0, 0, none⟩ = some (.int .i64 a0_0) := (blk_cell BKz0.out 0).trans rfl; have hcz10_1 : w8.cell? ⟨gbz0, 1, none⟩ = some (.int .i64 a0_1) := (blk_cell BKz0.out 1).trans rfl; have hcz10_2 : w8.cell? ⟨gbz0, 2, none⟩ = some (.int .i64 a0_2) := (blk_cell BKz0.out 2).trans rfl; have hcz10_3 : w8.cell? ⟨gbz0, 3, none⟩ = some (.slice A0_3 l0_3.length c0_3) := (blk_cell BKz0.out 3).trans rfl; have hcz11_0 : w8.cell? ⟨gbz1, 0, none⟩ = some (.int .i64 a1_0) := (blk_cell BKz1.out 0).trans rfl; have hcz11_1 : w8.cell? ⟨gbz1, 1, none⟩ = some (.int .i64 a1_1) := (blk_cell BKz1.out 1).trans rfl; have hcz11_2 : w8.cell? ⟨gbz1, 2, none⟩ = some (.int .i64 a1_2) := (blk_cell BKz1.out 2).trans rfl; have hcz11_3 : w8.cell? ⟨gbz1, 3, none⟩ = some (.slice A1_3 l1_3.length c1_3) := (blk_cell BKz1.out 3).trans rfl) | (go_at_call 52; (with_reducible refine (laws_equalInts.calls k _ _ l0_3 _ _ l1_3 tz0 _ ?side1 ?side2 ?side3 ?side4 A6.out).mono ?_); (case side1 => repeat (exact (Kd.C_below HR0_3.out HB.out))); (case side2 => exact HC0_3.out); (case side3 => repeat (exact (Kd.C_below HR1_3.out HB.out))); (case side4 => exact HC1_3.out); rintro e w' ⟨rfl, ⟨nd, rfl⟩⟩))
    go_ret
    exact ⟨by rfl, by repeat (with_reducible first | exact HB.out | apply pw_below_drewN)⟩
   rw [if_neg c5] at H
   have c5b0 : (a0_2 == a1_2) = false := beq_eq_false_iff_ne.mpr c5
   have c5b1 : (a0_2 != a1_2) = true := bne_iff_ne.mpr c5
   obtain rfl := Option.some.inj H
   go_enter Try.func24, Try.ntmps24
   go_wp2_with (first | ((with_reducible refine gate_dst (N := 2) rfl ?_); refine box_event (by rfl) (N := 2) (by rfl) (cs := #[.int .i64 a0_0, .int .i64 a0_1, .int .i64 a0_2, .slice A0_3 l0_3.length c0_3]) (t := 28) (by go_simp; done) ?_; intro gbz0 hg w12 hbox hb; replace HB := mk (below_step HB.out hb); have BKz0 := mk (hbox); clear hb hbox hg) | ((with_reducible refine gate_dst (N := 3) rfl ?_); refine box_event (by rfl) (N := 3) (by rfl) (cs := #[.int .i64 a1_0, .int .i64 a1_1, .int .i64 a1_2, .slice A1_3 l1_3.length c1_3]) (t := 28) (by go_simp; done) ?_; intro gbz1 hg w13 hbox hb; replace BKz0 := mk (blk_below BKz0.out hb); replace HB := mk (below_step HB.out hb); have BKz1 := mk (hbox); clear hb hbox hg; have hcz15_0 : w13.cell? ⟨gbz0, 0, none⟩ = some (.int .i64 a0_0) := (blk_cell BKz0.out 0).trans rfl; have hcz15_1 : w13.cell? ⟨gbz0, 1, none⟩ = some (.int .i64 a0_1) := (blk_cell BKz0.out 1).trans rfl; have hcz15_2 : w13.cell? ⟨gbz0, 2, none⟩ = some (.int .i64 a0_2) := (blk_cell BKz0.out 2).trans rfl; have hcz16_0 : w13.cell? ⟨gbz1, 0, none⟩ = some (.int .i64 a1_0) := (blk_cell BKz1.out 0).trans rfl; have hcz16_1 : w13.cell? ⟨gbz1, 1, none⟩ = some (.int .i64 a1_1) := (blk_cell BKz1.out 1).trans rfl; have hcz16_2 : w13.cell? ⟨gbz1, 2, none⟩ = some (.int .i64 a1_2) := (blk_cell BKz1.out 2).trans rfl))
   go_ret
   exact ⟨by rfl, by exact HB.out⟩
  rw [if_neg c4] at H
  have c4b0 : (a0_1 == a1_1) = false := beq_eq_false_iff_ne.mpr c4
  have c4b1 : (a0_1 != a1_1) = true := bne_iff_ne.mpr c4
  obtain rfl := Option.some.inj H
  go_enter Try.func24, Try.ntmps24
  go_wp2_with (first | ((with_reducible refine gate_dst (N := 2) rfl ?_); refine box_event (by rfl) (N := 2) (by rfl) (cs := #[.int .i64 a0_0, .int .i64 a0_1, .int .i64 a0_2, .slice A0_3 l0_3.length c0_3]) (t := 28) (by go_simp; done) ?_; intro gbz0 hg w17 hbox hb; replace HB := mk (below_step HB.out hb); have BKz0 := mk (hbox); clear hb hbox hg) | ((with_reducible refine gate_dst (N := 3) rfl ?_); refine box_event (by rfl) (N := 3) (by rfl) (cs := #[.int .i64 a1_0, .int .i64 a1_1, .int .i64 a1_2, .slice A1_3 l1_3.length c1_3]) (t := 28) (by go_simp; done) ?_; intro gbz1 hg w18 hbox hb; replace BKz0 := mk (blk_below BKz0.out hb); replace HB := mk (below_step HB.out hb); have BKz1 := mk (hbox); clear hb hbox hg; have hcz20_0 : w18.cell? ⟨gbz0, 0, none⟩ = some (.int .i64 a0_0) := (blk_cell BKz0.out 0).trans rfl; have hcz20_1 : w18.cell? ⟨gbz0, 1, none⟩ = some (.int .i64 a0_1) := (blk_cell BKz0.out 1).trans rfl; have hcz21_0 : w18.cell? ⟨gbz1, 0, none⟩ = some (.int .i64 a1_0) := (blk_cell BKz1.out 0).trans rfl; have hcz21_1 : w18.cell? ⟨gbz1, 1, none⟩ = some (.int .i64 a1_1) := (blk_cell BKz1.out 1).trans rfl))
  go_ret
  exact ⟨by rfl, by exact HB.out⟩
 rw [if_neg c3] at H
 have c3b0 : (a0_0 == a1_0) = false := beq_eq_false_iff_ne.mpr c3
 have c3b1 : (a0_0 != a1_0) = true := bne_iff_ne.mpr c3
 obtain rfl := Option.some.inj H
 go_enter Try.func24, Try.ntmps24
 go_wp2_with (first | ((with_reducible refine gate_dst (N := 2) rfl ?_); refine box_event (by rfl) (N := 2) (by rfl) (cs := #[.int .i64 a0_0, .int .i64 a0_1, .int .i64 a0_2, .slice A0_3 l0_3.length c0_3]) (t := 28) (by go_simp; done) ?_; intro gbz0 hg w22 hbox hb; replace HB := mk (below_step HB.out hb); have BKz0 := mk (hbox); clear hb hbox hg) | ((with_reducible refine gate_dst (N := 3) rfl ?_); refine box_event (by rfl) (N := 3) (by rfl) (cs := #[.int .i64 a1_0, .int .i64 a1_1, .int .i64 a1_2, .slice A1_3 l1_3.length c1_3]) (t := 28) (by go_simp; done) ?_; intro gbz1 hg w23 hbox hb; replace BKz0 := mk (blk_below BKz0.out hb); replace HB := mk (below_step HB.out hb); have BKz1 := mk (hbox); clear hb hbox hg; have hcz25_0 : w23.cell? ⟨gbz0, 0, none⟩ = some (.int .i64 a0_0) := (blk_cell BKz0.out 0).trans rfl; have hcz26_0 : w23.cell? ⟨gbz1, 0, none⟩ = some (.int .i64 a1_0) := (blk_cell BKz1.out 0).trans rfl))
 go_ret
 exact ⟨by rfl, by exact HB.out⟩

end Go.Proofs.Ytgccpcnakkioiaa.Q

/- impl.PasteImage's function value: a pixel of the part, or of the image. -/
namespace Go.Proofs.Ytgccpcnakkioiaa.Q
open Go.RowKit Go.Proofs.YtgccpcnakkioiaaW.PrintWords Go.Proofs.YtgccpcnakkioiaaW.PrintLast Go.Proofs.YtgccpcnakkioiaaW.PrintMore
attribute [local go_sem] max2_int min2_int max_two min_two max_three min_three max_four min_four
set_option linter.unusedVariables false
set_option linter.unusedSimpArgs false
open Go.Proofs.Ytgccpcnakkioiaa.Pure

def inPart (X Y lw lh : Int) (x y : Nat) : Bool := decide (X ≤ (x : Int) ∧ (x : Int) < X + lw ∧ Y ≤ (y : Int) ∧ (y : Int) < Y + lh)
def laidPx (a p : Int) (d : List Int) (lw lh : Int) (ld : List Int) (X Y : Int) (x y : Nat) : List Int :=
 if inPart X Y lw lh x y = true then pxAt lw p ld ((x : Int) - X).toNat ((y : Int) - Y).toNat else pxAt a p d x y
set_option maxHeartbeats 4000000 in
set_option maxRecDepth 100000 in
theorem paste1_out0 (a b p : Int) (A : Option Addr) (c : Nat) (d : List Int) (hv : validI a b p d = true) (hc : d.length ≤ c) (lw lh X Y : Int) (AL : Option Addr) (cl : Nat) (ld : List Int) (hvl : validI lw lh p ld = true) (hcl : ld.length ≤ cl) (hX : -16 ≤ X ∧ X ≤ 16) (hY : -16 ≤ Y ∧ Y ≤ 16) (x y : Nat) (hx : (x : Int) < a) (hy : (y : Int) < b) (B BX BY B3 : Nat) (w : World) (h1 : w.heap[B]? = some (.cells #[.int .i64 a, .int .i64 b, .int .i64 p, .slice A d.length c] 28 (0, 0))) (h3 : w.heap[B3]? = some (.cells #[.int .i64 lw, .int .i64 lh, .int .i64 p, .slice AL ld.length cl] 28 (0, 0))) (h5 : w.heap[BX]? = some (.cells #[.int .i64 X] 3 (0, 0))) (h6 : w.heap[BY]? = some (.cells #[.int .i64 Y] 3 (0, 0))) (hr : Kd.C (Kd.int .i64) w A d.length d) (hrl : Kd.C (Kd.int .i64) w AL ld.length ld) (t0 : ¬ (x : Int) ≥ X) :
  Calls Try.prog 61 (#[.int .i64 (x : Int), .int .i64 (y : Int)] ++ #[.pointer (some ⟨BX, 0, none⟩), .pointer (some ⟨B3, 0, none⟩), .pointer (some ⟨BY, 0, none⟩), .pointer (some ⟨B, 0, none⟩)]) w fun e w' => ∃ (A' : Option Addr) (c' : Nat), e = .returned (.slice A' (pxAt a p d x y).length c') ∧ Kd.C (Kd.int .i64) w' A' (pxAt a p d x y).length (pxAt a p d x y) ∧ (pxAt a p d x y).length ≤ c' ∧ Below w.heap.size w w' := by
 have hsl := ((validI_iff lw lh p ld).1 hvl).1
 have ww1 : wrap64 (X + lw) = X + lw := w64 (by omega) (by omega)
 have ww2 : wrap64 (Y + lh) = Y + lh := w64 (by omega) (by omega)
 have hd0 : decide ((x : Int) ≥ X) = false := decide_eq_false (by omega)
 clear ww1 ww2
 obtain ⟨A', c', hc', HA⟩ := at_px (x := x) (y := y) A c hv hc hx hy
 have HA' := HA w hr
 generalize pxAt a p d x y = px at *
 replace HA' := Aside0.mk HA'
 have kB_0 : w.cell? ⟨B, 0, none⟩ = some (.int .i64 a) := (blk_cell h1 0).trans rfl; have kB_1 : w.cell? ⟨B, 1, none⟩ = some (.int .i64 b) := (blk_cell h1 1).trans rfl; have kB_2 : w.cell? ⟨B, 2, none⟩ = some (.int .i64 p) := (blk_cell h1 2).trans rfl; have kB_3 : w.cell? ⟨B, 3, none⟩ = some (.slice A d.length c) := (blk_cell h1 3).trans rfl
 have kBX_0 : w.cell? ⟨BX, 0, none⟩ = some (.int .i64 X) := (blk_cell h5 0).trans rfl
 clear HA hr hrl h1 h3 h5 h6 hv hc hvl hcl hX hY hsl hx hy t0
 simp only [List.append_toArray, List.cons_append, List.nil_append]
 go_enter Try.func61, Try.ntmps61
 go_wp2_with (first | (go_at_call 55; (with_reducible refine (HA'.out.2).mono ?_); rintro e w2 ⟨rfl, hb⟩))
 go_ret
 exact ⟨A', c', rfl, Kd.C_below HA'.out.1 hb, hc', hb⟩
set_option maxHeartbeats 4000000 in
set_option maxRecDepth 100000 in
theorem paste1_out1 (a b p : Int) (A : Option Addr) (c : Nat) (d : List Int) (hv : validI a b p d = true) (hc : d.length ≤ c) (lw lh X Y : Int) (AL : Option Addr) (cl : Nat) (ld : List Int) (hvl : validI lw lh p ld = true) (hcl : ld.length ≤ cl) (hX : -16 ≤ X ∧ X ≤ 16) (hY : -16 ≤ Y ∧ Y ≤ 16) (x y : Nat) (hx : (x : Int) < a) (hy : (y : Int) < b) (B BX BY B3 : Nat) (w : World) (h1 : w.heap[B]? = some (.cells #[.int .i64 a, .int .i64 b, .int .i64 p, .slice A d.length c] 28 (0, 0))) (h3 : w.heap[B3]? = some (.cells #[.int .i64 lw, .int .i64 lh, .int .i64 p, .slice AL ld.length cl] 28 (0, 0))) (h5 : w.heap[BX]? = some (.cells #[.int .i64 X] 3 (0, 0))) (h6 : w.heap[BY]? = some (.cells #[.int .i64 Y] 3 (0, 0))) (hr : Kd.C (Kd.int .i64) w A d.length d) (hrl : Kd.C (Kd.int .i64) w AL ld.length ld) (t0 : (x : Int) ≥ X) (t1 : ¬ (x : Int) < X + lw) :
  Calls Try.prog 61 (#[.int .i64 (x : Int), .int .i64 (y : Int)] ++ #[.pointer (some ⟨BX, 0, none⟩), .pointer (some ⟨B3, 0, none⟩), .pointer (some ⟨BY, 0, none⟩), .pointer (some ⟨B, 0, none⟩)]) w fun e w' => ∃ (A' : Option Addr) (c' : Nat), e = .returned (.slice A' (pxAt a p d x y).length c') ∧ Kd.C (Kd.int .i64) w' A' (pxAt a p d x y).length (pxAt a p d x y) ∧ (pxAt a p d x y).length ≤ c' ∧ Below w.heap.size w w' := by
 have hsl := ((validI_iff lw lh p ld).1 hvl).1
 have ww1 : wrap64 (X + lw) = X + lw := w64 (by omega) (by omega)
 have ww2 : wrap64 (Y + lh) = Y + lh := w64 (by omega) (by omega)
 have hd0 : decide ((x : Int) ≥ X) = true := decide_eq_true (by omega)
 have hd1 : decide ((x : Int) < wrap64 (X + lw)) = false := decide_eq_false (by rw [ww1]; omega)
 clear ww1 ww2
 obtain ⟨A', c', hc', HA⟩ := at_px (x := x) (y := y) A c hv hc hx hy
 have HA' := HA w hr
 generalize pxAt a p d x y = px at *
 replace HA' := Aside0.mk HA'
 have kB_0 : w.cell? ⟨B, 0, none⟩ = some (.int .i64 a) := (blk_cell h1 0).trans rfl; have kB_1 : w.cell? ⟨B, 1, none⟩ = some (.int .i64 b) := (blk_cell h1 1).trans rfl; have kB_2 : w.cell? ⟨B, 2, none⟩ = some (.int .i64 p) := (blk_cell h1 2).trans rfl; have kB_3 : w.cell? ⟨B, 3, none⟩ = some (.slice A d.length c) := (blk_cell h1 3).trans rfl
 have kB3_0 : w.cell? ⟨B3, 0, none⟩ = some (.int .i64 lw) := (blk_cell h3 0).trans rfl
 have kBX_0 : w.cell? ⟨BX, 0, none⟩ = some (.int .i64 X) := (blk_cell h5 0).trans rfl
 clear HA hr hrl h1 h3 h5 h6 hv hc hvl hcl hX hY hsl hx hy t0 t1
 simp only [List.append_toArray, List.cons_append, List.nil_append]
 go_enter Try.func61, Try.ntmps61
 go_wp2_with (first | (go_at_call 55; (with_reducible refine (HA'.out.2).mono ?_); rintro e w2 ⟨rfl, hb⟩))
 go_ret
 exact ⟨A', c', rfl, Kd.C_below HA'.out.1 hb, hc', hb⟩
set_option maxHeartbeats 4000000 in
set_option maxRecDepth 100000 in
theorem paste1_out2 (a b p : Int) (A : Option Addr) (c : Nat) (d : List Int) (hv : validI a b p d = true) (hc : d.length ≤ c) (lw lh X Y : Int) (AL : Option Addr) (cl : Nat) (ld : List Int) (hvl : validI lw lh p ld = true) (hcl : ld.length ≤ cl) (hX : -16 ≤ X ∧ X ≤ 16) (hY : -16 ≤ Y ∧ Y ≤ 16) (x y : Nat) (hx : (x : Int) < a) (hy : (y : Int) < b) (B BX BY B3 : Nat) (w : World) (h1 : w.heap[B]? = some (.cells #[.int .i64 a, .int .i64 b, .int .i64 p, .slice A d.length c] 28 (0, 0))) (h3 : w.heap[B3]? = some (.cells #[.int .i64 lw, .int .i64 lh, .int .i64 p, .slice AL ld.length cl] 28 (0, 0))) (h5 : w.heap[BX]? = some (.cells #[.int .i64 X] 3 (0, 0))) (h6 : w.heap[BY]? = some (.cells #[.int .i64 Y] 3 (0, 0))) (hr : Kd.C (Kd.int .i64) w A d.length d) (hrl : Kd.C (Kd.int .i64) w AL ld.length ld) (t0 : (x : Int) ≥ X) (t1 : (x : Int) < X + lw) (t2 : ¬ (y : Int) ≥ Y) :
  Calls Try.prog 61 (#[.int .i64 (x : Int), .int .i64 (y : Int)] ++ #[.pointer (some ⟨BX, 0, none⟩), .pointer (some ⟨B3, 0, none⟩), .pointer (some ⟨BY, 0, none⟩), .pointer (some ⟨B, 0, none⟩)]) w fun e w' => ∃ (A' : Option Addr) (c' : Nat), e = .returned (.slice A' (pxAt a p d x y).length c') ∧ Kd.C (Kd.int .i64) w' A' (pxAt a p d x y).length (pxAt a p d x y) ∧ (pxAt a p d x y).length ≤ c' ∧ Below w.heap.size w w' := by
 have hsl := ((validI_iff lw lh p ld).1 hvl).1
 have ww1 : wrap64 (X + lw) = X + lw := w64 (by omega) (by omega)
 have ww2 : wrap64 (Y + lh) = Y + lh := w64 (by omega) (by omega)
 have hd0 : decide ((x : Int) ≥ X) = true := decide_eq_true (by omega)
 have hd1 : decide ((x : Int) < wrap64 (X + lw)) = true := decide_eq_true (by rw [ww1]; omega)
 have hd2 : decide ((y : Int) ≥ Y) = false := decide_eq_false (by omega)
 clear ww1 ww2
 obtain ⟨A', c', hc', HA⟩ := at_px (x := x) (y := y) A c hv hc hx hy
 have HA' := HA w hr
 generalize pxAt a p d x y = px at *
 replace HA' := Aside0.mk HA'
 have kB_0 : w.cell? ⟨B, 0, none⟩ = some (.int .i64 a) := (blk_cell h1 0).trans rfl; have kB_1 : w.cell? ⟨B, 1, none⟩ = some (.int .i64 b) := (blk_cell h1 1).trans rfl; have kB_2 : w.cell? ⟨B, 2, none⟩ = some (.int .i64 p) := (blk_cell h1 2).trans rfl; have kB_3 : w.cell? ⟨B, 3, none⟩ = some (.slice A d.length c) := (blk_cell h1 3).trans rfl
 have kB3_0 : w.cell? ⟨B3, 0, none⟩ = some (.int .i64 lw) := (blk_cell h3 0).trans rfl
 have kBX_0 : w.cell? ⟨BX, 0, none⟩ = some (.int .i64 X) := (blk_cell h5 0).trans rfl
 have kBY_0 : w.cell? ⟨BY, 0, none⟩ = some (.int .i64 Y) := (blk_cell h6 0).trans rfl
 clear HA hr hrl h1 h3 h5 h6 hv hc hvl hcl hX hY hsl hx hy t0 t1 t2
 simp only [List.append_toArray, List.cons_append, List.nil_append]
 go_enter Try.func61, Try.ntmps61
 go_wp2_with (first | (go_at_call 55; (with_reducible refine (HA'.out.2).mono ?_); rintro e w2 ⟨rfl, hb⟩))
 go_ret
 exact ⟨A', c', rfl, Kd.C_below HA'.out.1 hb, hc', hb⟩
set_option maxHeartbeats 4000000 in
set_option maxRecDepth 100000 in
theorem paste1_out3 (a b p : Int) (A : Option Addr) (c : Nat) (d : List Int) (hv : validI a b p d = true) (hc : d.length ≤ c) (lw lh X Y : Int) (AL : Option Addr) (cl : Nat) (ld : List Int) (hvl : validI lw lh p ld = true) (hcl : ld.length ≤ cl) (hX : -16 ≤ X ∧ X ≤ 16) (hY : -16 ≤ Y ∧ Y ≤ 16) (x y : Nat) (hx : (x : Int) < a) (hy : (y : Int) < b) (B BX BY B3 : Nat) (w : World) (h1 : w.heap[B]? = some (.cells #[.int .i64 a, .int .i64 b, .int .i64 p, .slice A d.length c] 28 (0, 0))) (h3 : w.heap[B3]? = some (.cells #[.int .i64 lw, .int .i64 lh, .int .i64 p, .slice AL ld.length cl] 28 (0, 0))) (h5 : w.heap[BX]? = some (.cells #[.int .i64 X] 3 (0, 0))) (h6 : w.heap[BY]? = some (.cells #[.int .i64 Y] 3 (0, 0))) (hr : Kd.C (Kd.int .i64) w A d.length d) (hrl : Kd.C (Kd.int .i64) w AL ld.length ld) (t0 : (x : Int) ≥ X) (t1 : (x : Int) < X + lw) (t2 : (y : Int) ≥ Y) (t3 : ¬ (y : Int) < Y + lh) :
  Calls Try.prog 61 (#[.int .i64 (x : Int), .int .i64 (y : Int)] ++ #[.pointer (some ⟨BX, 0, none⟩), .pointer (some ⟨B3, 0, none⟩), .pointer (some ⟨BY, 0, none⟩), .pointer (some ⟨B, 0, none⟩)]) w fun e w' => ∃ (A' : Option Addr) (c' : Nat), e = .returned (.slice A' (pxAt a p d x y).length c') ∧ Kd.C (Kd.int .i64) w' A' (pxAt a p d x y).length (pxAt a p d x y) ∧ (pxAt a p d x y).length ≤ c' ∧ Below w.heap.size w w' := by
 have hsl := ((validI_iff lw lh p ld).1 hvl).1
 have ww1 : wrap64 (X + lw) = X + lw := w64 (by omega) (by omega)
 have ww2 : wrap64 (Y + lh) = Y + lh := w64 (by omega) (by omega)
 have hd0 : decide ((x : Int) ≥ X) = true := decide_eq_true (by omega)
 have hd1 : decide ((x : Int) < wrap64 (X + lw)) = true := decide_eq_true (by rw [ww1]; omega)
 have hd2 : decide ((y : Int) ≥ Y) = true := decide_eq_true (by omega)
 have hd3 : decide ((y : Int) < wrap64 (Y + lh)) = false := decide_eq_false (by rw [ww2]; omega)
 clear ww1 ww2
 obtain ⟨A', c', hc', HA⟩ := at_px (x := x) (y := y) A c hv hc hx hy
 have HA' := HA w hr
 generalize pxAt a p d x y = px at *
 replace HA' := Aside0.mk HA'
 have kB_0 : w.cell? ⟨B, 0, none⟩ = some (.int .i64 a) := (blk_cell h1 0).trans rfl; have kB_1 : w.cell? ⟨B, 1, none⟩ = some (.int .i64 b) := (blk_cell h1 1).trans rfl; have kB_2 : w.cell? ⟨B, 2, none⟩ = some (.int .i64 p) := (blk_cell h1 2).trans rfl; have kB_3 : w.cell? ⟨B, 3, none⟩ = some (.slice A d.length c) := (blk_cell h1 3).trans rfl
 have kB3_0 : w.cell? ⟨B3, 0, none⟩ = some (.int .i64 lw) := (blk_cell h3 0).trans rfl; have kB3_1 : w.cell? ⟨B3, 1, none⟩ = some (.int .i64 lh) := (blk_cell h3 1).trans rfl
 have kBX_0 : w.cell? ⟨BX, 0, none⟩ = some (.int .i64 X) := (blk_cell h5 0).trans rfl
 have kBY_0 : w.cell? ⟨BY, 0, none⟩ = some (.int .i64 Y) := (blk_cell h6 0).trans rfl
 clear HA hr hrl h1 h3 h5 h6 hv hc hvl hcl hX hY hsl hx hy t0 t1 t2 t3
 simp only [List.append_toArray, List.cons_append, List.nil_append]
 go_enter Try.func61, Try.ntmps61
 go_wp2_with (first | (go_at_call 55; (with_reducible refine (HA'.out.2).mono ?_); rintro e w2 ⟨rfl, hb⟩))
 go_ret
 exact ⟨A', c', rfl, Kd.C_below HA'.out.1 hb, hc', hb⟩
set_option maxHeartbeats 4000000 in
set_option maxRecDepth 100000 in
theorem paste1_in (a b p : Int) (A : Option Addr) (c : Nat) (d : List Int) (hv : validI a b p d = true) (hc : d.length ≤ c) (lw lh X Y : Int) (AL : Option Addr) (cl : Nat) (ld : List Int) (hvl : validI lw lh p ld = true) (hcl : ld.length ≤ cl) (hX : -16 ≤ X ∧ X ≤ 16) (hY : -16 ≤ Y ∧ Y ≤ 16) (x y : Nat) (hx : (x : Int) < a) (hy : (y : Int) < b) (B BX BY B3 : Nat) (w : World) (h1 : w.heap[B]? = some (.cells #[.int .i64 a, .int .i64 b, .int .i64 p, .slice A d.length c] 28 (0, 0))) (h3 : w.heap[B3]? = some (.cells #[.int .i64 lw, .int .i64 lh, .int .i64 p, .slice AL ld.length cl] 28 (0, 0))) (h5 : w.heap[BX]? = some (.cells #[.int .i64 X] 3 (0, 0))) (h6 : w.heap[BY]? = some (.cells #[.int .i64 Y] 3 (0, 0))) (hr : Kd.C (Kd.int .i64) w A d.length d) (hrl : Kd.C (Kd.int .i64) w AL ld.length ld) (t0 : (x : Int) ≥ X) (t1 : (x : Int) < X + lw) (t2 : (y : Int) ≥ Y) (t3 : (y : Int) < Y + lh) :
  Calls Try.prog 61 (#[.int .i64 (x : Int), .int .i64 (y : Int)] ++ #[.pointer (some ⟨BX, 0, none⟩), .pointer (some ⟨B3, 0, none⟩), .pointer (some ⟨BY, 0, none⟩), .pointer (some ⟨B, 0, none⟩)]) w fun e w' => ∃ (A' : Option Addr) (c' : Nat), e = .returned (.slice A' (pxAt lw p ld ((x : Int) - X).toNat ((y : Int) - Y).toNat).length c') ∧ Kd.C (Kd.int .i64) w' A' (pxAt lw p ld ((x : Int) - X).toNat ((y : Int) - Y).toNat).length (pxAt lw p ld ((x : Int) - X).toNat ((y : Int) - Y).toNat) ∧ (pxAt lw p ld ((x : Int) - X).toNat ((y : Int) - Y).toNat).length ≤ c' ∧ Below w.heap.size w w' := by
 have hsl := ((validI_iff lw lh p ld).1 hvl).1
 have ww1 : wrap64 (X + lw) = X + lw := w64 (by omega) (by omega)
 have ww2 : wrap64 (Y + lh) = Y + lh := w64 (by omega) (by omega)
 have hd0 : decide ((x : Int) ≥ X) = true := decide_eq_true (by omega)
 have hd1 : decide ((x : Int) < wrap64 (X + lw)) = true := decide_eq_true (by rw [ww1]; omega)
 have hd2 : decide ((y : Int) ≥ Y) = true := decide_eq_true (by omega)
 have hd3 : decide ((y : Int) < wrap64 (Y + lh)) = true := decide_eq_true (by rw [ww2]; omega)
 clear ww1 ww2
 obtain ⟨i', hi'⟩ := Int.eq_ofNat_of_zero_le (show 0 ≤ (x : Int) - X by omega)
 obtain ⟨j', hj'⟩ := Int.eq_ofNat_of_zero_le (show 0 ≤ (y : Int) - Y by omega)
 have hs := ((validI_iff a b p d).1 hv).1
 rw [hi', hj', Int.toNat_natCast, Int.toNat_natCast]
 obtain ⟨A', c', hc', HA⟩ := at_px (x := i') (y := j') AL cl hvl hcl (by omega) (by omega)
 have hwi : wrap64 ((x : Int) - X) = (i' : Int) := by rw [w64 (by omega) (by omega)]; exact hi'
 have hwj : wrap64 ((y : Int) - Y) = (j' : Int) := by rw [w64 (by omega) (by omega)]; exact hj'
 rw [← hwi, ← hwj] at HA
 have HA' := HA w hrl
 generalize pxAt lw p ld i' j' = px at *
 clear hwi hwj hi' hj' hs
 replace HA' := Aside0.mk HA'
 have kB3_0 : w.cell? ⟨B3, 0, none⟩ = some (.int .i64 lw) := (blk_cell h3 0).trans rfl; have kB3_1 : w.cell? ⟨B3, 1, none⟩ = some (.int .i64 lh) := (blk_cell h3 1).trans rfl; have kB3_2 : w.cell? ⟨B3, 2, none⟩ = some (.int .i64 p) := (blk_cell h3 2).trans rfl; have kB3_3 : w.cell? ⟨B3, 3, none⟩ = some (.slice AL ld.length cl) := (blk_cell h3 3).trans rfl
 have kBX_0 : w.cell? ⟨BX, 0, none⟩ = some (.int .i64 X) := (blk_cell h5 0).trans rfl
 have kBY_0 : w.cell? ⟨BY, 0, none⟩ = some (.int .i64 Y) := (blk_cell h6 0).trans rfl
 clear HA hr hrl h1 h3 h5 h6 hv hc hvl hcl hX hY hsl hx hy t0 t1 t2 t3
 simp only [List.append_toArray, List.cons_append, List.nil_append]
 go_enter Try.func61, Try.ntmps61
 go_wp2_with (first | (go_at_call 55; (with_reducible refine (HA'.out.2).mono ?_); rintro e w2 ⟨rfl, hb⟩))
 go_ret
 exact ⟨A', c', rfl, Kd.C_below HA'.out.1 hb, hc', hb⟩
theorem paste1_calls (a b p : Int) (A : Option Addr) (c : Nat) (d : List Int) (hv : validI a b p d = true) (hc : d.length ≤ c) (lw lh X Y : Int) (AL : Option Addr) (cl : Nat) (ld : List Int) (hvl : validI lw lh p ld = true) (hcl : ld.length ≤ cl) (hX : -16 ≤ X ∧ X ≤ 16) (hY : -16 ≤ Y ∧ Y ≤ 16) (x y : Nat) (hx : (x : Int) < a) (hy : (y : Int) < b) (B BX BY B3 : Nat) (w : World) (h1 : w.heap[B]? = some (.cells #[.int .i64 a, .int .i64 b, .int .i64 p, .slice A d.length c] 28 (0, 0))) (h3 : w.heap[B3]? = some (.cells #[.int .i64 lw, .int .i64 lh, .int .i64 p, .slice AL ld.length cl] 28 (0, 0))) (h5 : w.heap[BX]? = some (.cells #[.int .i64 X] 3 (0, 0))) (h6 : w.heap[BY]? = some (.cells #[.int .i64 Y] 3 (0, 0))) (hr : Kd.C (Kd.int .i64) w A d.length d) (hrl : Kd.C (Kd.int .i64) w AL ld.length ld) :
  Calls Try.prog 61 (#[.int .i64 (x : Int), .int .i64 (y : Int)] ++ #[.pointer (some ⟨BX, 0, none⟩), .pointer (some ⟨B3, 0, none⟩), .pointer (some ⟨BY, 0, none⟩), .pointer (some ⟨B, 0, none⟩)]) w fun e w' => ∃ (A' : Option Addr) (c' : Nat), e = .returned (.slice A' (laidPx a p d lw lh ld X Y x y).length c') ∧ Kd.C (Kd.int .i64) w' A' (laidPx a p d lw lh ld X Y x y).length (laidPx a p d lw lh ld X Y x y) ∧ (laidPx a p d lw lh ld X Y x y).length ≤ c' ∧ Below w.heap.size w w' := by
 unfold laidPx inPart
 by_cases t0 : (x : Int) ≥ X
 ·by_cases t1 : (x : Int) < X + lw
  ·by_cases t2 : (y : Int) ≥ Y
   ·by_cases t3 : (y : Int) < Y + lh
    ·rw [if_pos (decide_eq_true ⟨t0, t1, t2, t3⟩)]
     exact paste1_in a b p A c d hv hc lw lh X Y AL cl ld hvl hcl hX hY x y hx hy B BX BY B3 w h1 h3 h5 h6 hr hrl t0 t1 t2 t3
    rw [if_neg (by rw [decide_eq_false (by omega)]; decide)]
    exact paste1_out3 a b p A c d hv hc lw lh X Y AL cl ld hvl hcl hX hY x y hx hy B BX BY B3 w h1 h3 h5 h6 hr hrl t0 t1 t2 t3
   rw [if_neg (by rw [decide_eq_false (by omega)]; decide)]
   exact paste1_out2 a b p A c d hv hc lw lh X Y AL cl ld hvl hcl hX hY x y hx hy B BX BY B3 w h1 h3 h5 h6 hr hrl t0 t1 t2
  rw [if_neg (by rw [decide_eq_false (by omega)]; decide)]
  exact paste1_out1 a b p A c d hv hc lw lh X Y AL cl ld hvl hcl hX hY x y hx hy B BX BY B3 w h1 h3 h5 h6 hr hrl t0 t1
 rw [if_neg (by rw [decide_eq_false (by omega)]; decide)]
 exact paste1_out0 a b p A c d hv hc lw lh X Y AL cl ld hvl hcl hX hY x y hx hy B BX BY B3 w h1 h3 h5 h6 hr hrl t0
theorem laidPx_le {a b p : Int} {d : List Int} (hv : validI a b p d = true) {lw lh : Int} {ld : List Int} (hvl : validI lw lh p ld = true) (X Y : Int) {x y : Nat} (hx : (x : Int) < a) (hy : (y : Int) < b) : (laidPx a p d lw lh ld X Y x y).length ≤ 4 := by
 have h := pxAt_le hv hx hy
 unfold laidPx inPart
 split
 ·rename_i hc
  have hc := of_decide_eq_true hc
  exact pxAt_le hvl (by omega) (by omega)
 exact h
end Go.Proofs.Ytgccpcnakkioiaa.Q

/- impl.PasteImage, of valid arguments. -/
namespace Go.Proofs.Ytgccpcnakkioiaa.Q
open Go.RowKit Go.Proofs.YtgccpcnakkioiaaW.PrintWords Go.Proofs.YtgccpcnakkioiaaW.PrintLast Go.Proofs.YtgccpcnakkioiaaW.PrintMore
open Go.Proofs.YtgccpcnakkioiaaW.PrintWords.Aside0 (mk)
attribute [local go_sem] max2_int min2_int max_two min_two max_three min_three max_four min_four
set_option linter.unusedVariables false
set_option linter.unusedSimpArgs false
open Go.Proofs.Ytgccpcnakkioiaa.Pure

def impl_PasteImage.f (a b p : Int) (d : List Int) (X Y : Int) (lw lh lp : Int) (ld : List Int) : Option (Int × Int × Int × List Int × Bool) :=
 if validI a b p d = true ∧ validI lw lh lp ld = true ∧ lp = p ∧ (-16 ≤ X ∧ X ≤ 16) ∧ (-16 ≤ Y ∧ Y ≤ 16) then some (a, b, p, imgD (laidPx a p d lw lh ld X Y) a.toNat b.toNat, true) else none
set_option maxHeartbeats 4000000 in
set_option maxRecDepth 100000 in
theorem paste_yes (a b : Nat) (p : Int) (A : Option Addr) (c : Nat) (d : List Int) (X Y : Int) (lw lh : Int) (AL : Option Addr) (cl : Nat) (ld : List Int) (w : World) (hr0_3 : Kd.C (Kd.int .i64) w A d.length d) (hc0_3 : d.length ≤ c) (hr1_3 : Kd.C (Kd.int .i64) w AL ld.length ld) (hc1_3 : ld.length ≤ cl) (hv1 : validI a b p d = true) (hvl : validI lw lh p ld = true) (hX : -16 ≤ X ∧ X ≤ 16) (hY : -16 ≤ Y ∧ Y ≤ 16) :
  Calls Try.prog 30 #[.agg #[.int .i64 (a : Int), .int .i64 (b : Int), .int .i64 p, .slice A d.length c], .int .i64 X, .int .i64 Y, .agg #[.int .i64 lw, .int .i64 lh, .int .i64 p, .slice AL ld.length cl]] w fun e w' => ∃ v3_ : Value, e = .returned (.tuple #[.agg #[.int .i64 (a : Int), .int .i64 (b : Int), .int .i64 p, v3_], .bool true]) ∧ Kd.R (Kd.int .i64) 3 w' w.heap.size (fun _ => True) v3_ (imgD (laidPx a p d lw lh ld X Y) a b) ∧ Below w.heap.size w w' := by
 have HC := mk hc0_3
 have HR := mk hr0_3
 have HCL := mk hc1_3
 have HRL := mk hr1_3
 have HB0 := mk (Below.refl w.heap.size w)
 have E1 := mk (impl_isImage_eq a b p d)
 have E2 := mk (impl_isImage_eq lw lh p ld)
 rw [hv1] at E1
 rw [hvl] at E2
 have HV := mk hv1
 have HVL := mk hvl
 have HXY := mk (And.intro hX hY)
 have hu := Try.underlying28
 have hs := ((validI_iff a b p d).1 hv1).1
 have hd1 : decide (X < -16) = false := decide_eq_false (by omega)
 have hd2 : decide (X > 16) = false := decide_eq_false (by omega)
 have hd3 : decide (Y < -16) = false := decide_eq_false (by omega)
 have hd4 : decide (Y > 16) = false := decide_eq_false (by omega)
 have HPL := mk (show ∀ x y, x < a → y < b → (laidPx a p d lw lh ld X Y x y).length ≤ 4 from fun x y hx hy => laidPx_le hv1 hvl X Y (by omega) (by omega))
 clear hr0_3 hc0_3 hr1_3 hc1_3 hv1 hvl hX hY
 go_enter Try.func30, Try.ntmps30
 go_wp2_with (first | ((with_reducible refine gate_dst (N := 4) rfl ?_); refine box_event (by rfl) (N := 4) (by rfl) (cs := #[.int .i64 (a : Int), .int .i64 (b : Int), .int .i64 p, .slice A d.length c]) (t := 28) (by go_simp; done) ?_; intro g1 hg_ w1 hbox hb; have HB1 := mk (below_then HB0.out HB0.out.size hb); have Kg1_1 := mk hbox; clear hbox hb hg_) | ((with_reducible refine gate_dst (N := 5) rfl ?_); refine box_event (by rfl) (N := 5) (by rfl) (cs := #[.int .i64 X]) (t := 3) (by go_simp; done) ?_; intro gx hg_ w2 hbox hb; have HB2 := mk (below_then HB1.out HB1.out.size hb); have Kg1_2 := mk (blk_below Kg1_1.out hb); have Kgx_2 := mk hbox; clear hbox hb hg_) | ((with_reducible refine gate_dst (N := 6) rfl ?_); refine box_event (by rfl) (N := 6) (by rfl) (cs := #[.int .i64 Y]) (t := 3) (by go_simp; done) ?_; intro gy hg_ w3 hbox hb; have HB3 := mk (below_then HB2.out HB2.out.size hb); have Kg1_3 := mk (blk_below Kg1_2.out hb); have Kgx_3 := mk (blk_below Kgx_2.out hb); have Kgy_3 := mk hbox; clear hbox hb hg_) | ((with_reducible refine gate_dst (N := 7) rfl ?_); refine box_event (by rfl) (N := 7) (by rfl) (cs := #[.int .i64 lw, .int .i64 lh, .int .i64 p, .slice AL ld.length cl]) (t := 28) (by go_simp; done) ?_; intro g3 hg_ w4 hbox hb; have HB4 := mk (below_then HB3.out HB3.out.size hb); have Kg1_4 := mk (blk_below Kg1_3.out hb); have Kgx_4 := mk (blk_below Kgx_3.out hb); have Kgy_4 := mk (blk_below Kgy_3.out hb); have Kg3_4 := mk hbox; clear hbox hb hg_) | ((with_reducible refine gate_dst (N := 8) rfl ?_); refine box_event (by rfl) (N := 8) (by rfl) (cs := #[.int .i64 0, .int .i64 0, .int .i64 0, .slice none 0 0]) (t := 28) (by go_simp; done) ?_; intro g2 hg_ w5 hbox hb; have HB5 := mk (below_then HB4.out HB4.out.size hb); have Gg2 := mk (show w.heap.size ≤ g2 from by rw [hg_]; exact HB4.out.size); have Kg1_5 := mk (blk_below Kg1_4.out hb); have Kgx_5 := mk (blk_below Kgx_4.out hb); have Kgy_5 := mk (blk_below Kgy_4.out hb); have Kg3_5 := mk (blk_below Kg3_4.out hb); have Kg2_5 := mk hbox; have fg1_0 : w5.cell? ⟨g1, 0, none⟩ = some (.int .i64 (a : Int)) := (blk_cell Kg1_5.out 0).trans rfl; have fg1_1 : w5.cell? ⟨g1, 1, none⟩ = some (.int .i64 (b : Int)) := (blk_cell Kg1_5.out 1).trans rfl; have fg1_2 : w5.cell? ⟨g1, 2, none⟩ = some (.int .i64 p) := (blk_cell Kg1_5.out 2).trans rfl; have fg1_3 : w5.cell? ⟨g1, 3, none⟩ = some (.slice A d.length c) := (blk_cell Kg1_5.out 3).trans rfl; clear hbox hb hg_) | (go_at_call 43; (with_reducible refine (impl_isImage.calls a b p A c d _ w5 (Kd.C_below HR.out HB5.out) HC.out E1.out).mono ?_); rintro e w6 ⟨rfl, hb_⟩; have HB6 := mk (below_then HB5.out HB5.out.size hb_); have Kg1_6 := mk (blk_below Kg1_5.out hb_); have Kgx_6 := mk (blk_below Kgx_5.out hb_); have Kgy_6 := mk (blk_below Kgy_5.out hb_); have Kg3_6 := mk (blk_below Kg3_5.out hb_); have eg3_6_0 : w6.cell? ⟨g3, 0, none⟩ = some (.int .i64 lw) := (blk_cell Kg3_6.out 0).trans rfl; have eg3_6_1 : w6.cell? ⟨g3, 1, none⟩ = some (.int .i64 lh) := (blk_cell Kg3_6.out 1).trans rfl; have eg3_6_2 : w6.cell? ⟨g3, 2, none⟩ = some (.int .i64 p) := (blk_cell Kg3_6.out 2).trans rfl; have eg3_6_3 : w6.cell? ⟨g3, 3, none⟩ = some (.slice AL ld.length cl) := (blk_cell Kg3_6.out 3).trans rfl; have Kg2_6 := mk (blk_below Kg2_5.out hb_); clear hb_) | (go_at_call 43; (with_reducible refine (impl_isImage.calls lw lh p AL cl ld _ w6 (Kd.C_below HRL.out HB6.out) HCL.out E2.out).mono ?_); rintro e w7 ⟨rfl, hb_⟩; have HB7 := mk (below_then HB6.out HB6.out.size hb_); have Kg1_7 := mk (blk_below Kg1_6.out hb_); have eg1_7_0 : w7.cell? ⟨g1, 0, none⟩ = some (.int .i64 (a : Int)) := (blk_cell Kg1_7.out 0).trans rfl; have eg1_7_1 : w7.cell? ⟨g1, 1, none⟩ = some (.int .i64 (b : Int)) := (blk_cell Kg1_7.out 1).trans rfl; have eg1_7_2 : w7.cell? ⟨g1, 2, none⟩ = some (.int .i64 p) := (blk_cell Kg1_7.out 2).trans rfl; have Kgx_7 := mk (blk_below Kgx_6.out hb_); have egx_7_0 : w7.cell? ⟨gx, 0, none⟩ = some (.int .i64 X) := (blk_cell Kgx_7.out 0).trans rfl; have Kgy_7 := mk (blk_below Kgy_6.out hb_); have egy_7_0 : w7.cell? ⟨gy, 0, none⟩ = some (.int .i64 Y) := (blk_cell Kgy_7.out 0).trans rfl; have Kg3_7 := mk (blk_below Kg3_6.out hb_); have eg3_7_2 : w7.cell? ⟨g3, 2, none⟩ = some (.int .i64 p) := (blk_cell Kg3_7.out 2).trans rfl; have Kg2_7 := mk (blk_below Kg2_6.out hb_); clear hb_) | (go_at_call 53; refine (imageBy_calls 61 #[.pointer (some ⟨gx, 0, none⟩), .pointer (some ⟨g3, 0, none⟩), .pointer (some ⟨gy, 0, none⟩), .pointer (some ⟨g1, 0, none⟩)] (laidPx a p d lw lh ld X Y) a b p (by omega) (by omega) w7 (enters_of Try.func61 (by kernel_rfl) rfl) HPL.out (fun W x y hx hy hW => paste1_calls a b p A c d HV.out HC.out lw lh X Y AL cl ld HVL.out HCL.out HXY.out.1 HXY.out.2 x y (by omega) (by omega) g1 gx gy g3 W (blk_below Kg1_7.out hW) (blk_below Kg3_7.out hW) (blk_below Kgx_7.out hW) (blk_below Kgy_7.out hW) (Kd.C_below (Kd.C_below HR.out HB7.out) hW) (Kd.C_below (Kd.C_below HRL.out HB7.out) hW))).mono ?_; rintro e w8 ⟨v8, rfl, hr8, hb_⟩; have HB8 := mk (below_then HB7.out HB7.out.size hb_); have Kg2_8 := mk (blk_below Kg2_7.out hb_); have eg2_8_0 : w8.cell? ⟨g2, 0, none⟩ = some (.int .i64 0) := (blk_cell Kg2_8.out 0).trans rfl; have eg2_8_1 : w8.cell? ⟨g2, 1, none⟩ = some (.int .i64 0) := (blk_cell Kg2_8.out 1).trans rfl; have eg2_8_2 : w8.cell? ⟨g2, 2, none⟩ = some (.int .i64 0) := (blk_cell Kg2_8.out 2).trans rfl; have eg2_8_3 : w8.cell? ⟨g2, 3, none⟩ = some (.slice none 0 0) := (blk_cell Kg2_8.out 3).trans rfl; have yg2_8_0 := blk_frozen Kg2_8.out 0; have yg2_8_1 := blk_frozen Kg2_8.out 1; have yg2_8_2 := blk_frozen Kg2_8.out 2; have yg2_8_3 := blk_frozen Kg2_8.out 3; have HR8 := mk (Kd.R_lower hr8 HB7.out.size); obtain ⟨A8, c8, ev8⟩ := Kd.R_slice HR8.out; subst ev8; clear hr8 hb_))
 have G2 := Gg2.out
 have RR := Kd.R_types HR8.out Kg2_8.out (by decide)
 refine bodyPost_ret (results_ct rfl _ _ g2 28 #[.int .i64 (a : Int), .int .i64 (b : Int), .int .i64 p, .slice A8 (imgD (laidPx a p d lw lh ld X Y) a b).length c8] (0, 0) _ rfl (by
  refine blk_put (cs := #[.int .i64 (a : Int), .int .i64 (b : Int), .int .i64 p, .slice none 0 0]) ?_ 3 _ rfl
  refine blk_put (cs := #[.int .i64 (a : Int), .int .i64 (b : Int), .int .i64 0, .slice none 0 0]) ?_ 2 _ rfl
  refine blk_put (cs := #[.int .i64 (a : Int), .int .i64 0, .int .i64 0, .slice none 0 0]) ?_ 1 _ rfl
  refine blk_put (cs := #[.int .i64 0, .int .i64 0, .int .i64 0, .slice none 0 0]) ?_ 0 _ rfl
  exact Kg2_8.out
  ) hu rfl (by kernel_rfl)) rfl ?_
 exact ⟨_, rfl, Kd.R_mono (Kd.R_far (Kd.R_far (Kd.R_far (Kd.R_far RR (fun k hk => hk.2) _) (fun k hk => hk.2) _) (fun k hk => hk.2) _) (fun k hk => hk.2) _) (fun _ _ => trivial), below_set (below_set (below_set (below_set HB8.out (by omega)) (by omega)) (by omega)) (by omega)⟩
theorem impl_PasteImage.calls (a b p : Int) (A : Option Addr) (c : Nat) (d : List Int) (X Y : Int) (lw lh lp : Int) (AL : Option Addr) (cl : Nat) (ld : List Int) (r1 r2 r3 : Int) (r4 : List Int) (r5 : Bool) (w : World) (hr0_3 : Kd.C (Kd.int .i64) w A d.length d) (hc0_3 : d.length ≤ c) (hr3_3 : Kd.C (Kd.int .i64) w AL ld.length ld) (hc3_3 : ld.length ≤ cl) (h : impl_PasteImage.f a b p d X Y lw lh lp ld = some (r1, r2, r3, r4, r5)) :
  Calls Try.prog 30 #[.agg #[.int .i64 a, .int .i64 b, .int .i64 p, .slice A d.length c], .int .i64 X, .int .i64 Y, .agg #[.int .i64 lw, .int .i64 lh, .int .i64 lp, .slice AL ld.length cl]] w fun e w' => ∃ v3_ : Value, e = .returned (.tuple #[.agg #[.int .i64 r1, .int .i64 r2, .int .i64 r3, v3_], .bool r5]) ∧ Kd.R (Kd.int .i64) 3 w' w.heap.size (fun _ => True) v3_ r4 ∧ Below w.heap.size w w' := by
 unfold impl_PasteImage.f at h
 by_cases hc : validI a b p d = true ∧ validI lw lh lp ld = true ∧ lp = p ∧ (-16 ≤ X ∧ X ≤ 16) ∧ (-16 ≤ Y ∧ Y ≤ 16)
 ·rw [if_pos hc] at h
  obtain ⟨hv1, hvl, rfl, hX, hY⟩ := hc
  have hs := ((validI_iff a b lp d).1 hv1).1
  obtain ⟨an, rfl⟩ := Int.eq_ofNat_of_zero_le (show 0 ≤ a by omega)
  obtain ⟨bn, rfl⟩ := Int.eq_ofNat_of_zero_le (show 0 ≤ b by omega)
  obtain ⟨rfl, rfl, rfl, rfl, rfl⟩ : (an : Int) = r1 ∧ (bn : Int) = r2 ∧ lp = r3 ∧ imgD (laidPx an lp d lw lh ld X Y) an bn = r4 ∧ true = r5 := by simpa using h
  exact paste_yes an bn lp A c d X Y lw lh AL cl ld w hr0_3 hc0_3 hr3_3 hc3_3 hv1 hvl hX hY
 rw [if_neg hc] at h; cases h
end Go.Proofs.Ytgccpcnakkioiaa.Q

namespace Go.Proofs.Ytgccpcnakkioiaa.Q
open Go.RowKit Go.Proofs.YtgccpcnakkioiaaW.PrintWords Go.Proofs.YtgccpcnakkioiaaW.PrintLast Go.Proofs.YtgccpcnakkioiaaW.PrintMore
open Go.Proofs.YtgccpcnakkioiaaW.PrintWords.Aside0 (mk)
attribute [local go_sem] max2_int min2_int max_two min_two max_three min_three max_four min_four
set_option linter.unusedVariables false
set_option linter.unusedSimpArgs false
mutual
def impl_FillImage.j0 : Nat → Int → Int → List Int → Bool → Int → Int → Int → Option (Int × Int × Int × List Int)
 | 0, _, _, _, _, _, _, _ => none
 | k + 1, x0, x1, x2, x35, xz1, xz2, xz3 => if x35 = true then (some (0, 0, 0, ([] : List Int))) else (impl_FillImage.l0 k x2 (wrap64 (x0 * x1)) 0 xz1 xz2 xz3 ([] : List Int))
def impl_FillImage.l0 : Nat → List Int → Int → Int → Int → Int → Int → List Int → Option (Int × Int × Int × List Int)
 | 0, _, _, _, _, _, _, _ => none
 | k + 1, x2, x39, x40, xz1, xz2, xz3, xz4 => if x40 < x39 then (if xz4.length + x2.length < 17592186044416 then (impl_FillImage.l0 k x2 x39 (wrap64 (x40 + 1)) xz1 xz2 xz3 (xz4 ++ x2)) else none) else (some (xz1, xz2, xz3, xz4))
end
def impl_FillImage.f (k : Nat) (a0 : Int) (a1 : Int) (l2 : List Int) : Option (Int × Int × Int × List Int) := (impl_isSide.f a0).bind fun tz2 => (if tz2 = true then ((impl_isSide.f a1).bind fun tz1 => (if tz1 = true then (if (l2.length : Int) < 1 then (impl_FillImage.j0 k a0 a1 l2 true a0 a1 (l2.length : Int)) else (if (l2.length : Int) > 4 then (impl_FillImage.j0 k a0 a1 l2 true a0 a1 (l2.length : Int)) else ((impl_areBytes.f l2).bind fun tz0 => (impl_FillImage.j0 k a0 a1 l2 (!tz0) a0 a1 (l2.length : Int))))) else (impl_FillImage.j0 k a0 a1 l2 true a0 a1 (l2.length : Int)))) else (impl_FillImage.j0 k a0 a1 l2 true a0 a1 (l2.length : Int)))
theorem impl_FillImage.mono_l : ∀ k, (∀ y0 y1 y2 y3 y4 y5 y6, LeO (impl_FillImage.j0 k y0 y1 y2 y3 y4 y5 y6) (impl_FillImage.j0 (k + 1) y0 y1 y2 y3 y4 y5 y6)) ∧ (∀ y0 y1 y2 y3 y4 y5 y6, LeO (impl_FillImage.l0 k y0 y1 y2 y3 y4 y5 y6) (impl_FillImage.l0 (k + 1) y0 y1 y2 y3 y4 y5 y6))
 | 0 => ⟨fun _ _ _ _ _ _ _ r h => by simp [impl_FillImage.j0] at h, fun _ _ _ _ _ _ _ r h => by simp [impl_FillImage.l0] at h⟩
 | k + 1 => by
  obtain ⟨ih0, ih1⟩ := impl_FillImage.mono_l k
  refine ⟨?_, ?_⟩
  ·intro y0 y1 y2 y3 y4 y5 y6
   unfold impl_FillImage.j0
   repeat' first | (with_reducible exact ih1 _ _ _ _ _ _ _) | (with_reducible exact LeO.refl _) | (with_reducible refine LeO.ite ?_ ?_)
  intro y0 y1 y2 y3 y4 y5 y6
  unfold impl_FillImage.l0
  repeat' first | (with_reducible exact ih1 _ _ _ _ _ _ _) | (with_reducible exact LeO.refl _) | (with_reducible refine LeO.ite ?_ ?_)
theorem impl_FillImage.mono : ∀ a0 a1 a2 k, LeO (impl_FillImage.f k a0 a1 a2) (impl_FillImage.f (k + 1) a0 a1 a2) := by
 intro a0 a1 a2 k
 obtain ⟨ih0, ih1⟩ := impl_FillImage.mono_l k
 unfold impl_FillImage.f
 repeat' first | (with_reducible exact ih0 _ _ _ _ _ _ _) | (with_reducible exact LeO.refl _) | (with_reducible refine LeO.ite ?_ ?_) | (with_reducible refine LeO.bind ?_ (fun _ => ?_))
set_option maxHeartbeats 8000000 in
set_option maxRecDepth 100000 in
theorem impl_FillImage.calls (k : Nat) (a0 : Int) (a1 : Int) (A2 : Option Addr) (c2 : Nat) (l2 : List Int) (r1 : Int) (r2 : Int) (r3 : Int) (r4 : List Int) (w : World) (hr2 : Kd.C (Kd.int .i64) w A2 l2.length l2) (hc2 : l2.length ≤ c2) (h : impl_FillImage.f k a0 a1 l2 = some (r1, r2, r3, r4)) :
  Calls Try.prog 31 #[.int .i64 a0, .int .i64 a1, .slice A2 l2.length c2] w fun e w' => ∃ v3_ : Value, e = .returned (.agg #[.int .i64 r1, .int .i64 r2, .int .i64 r3, v3_]) ∧ Kd.R (Kd.int .i64) 3 w' w.heap.size (fun _ => True) v3_ r4 ∧ Below w.heap.size w w' := by
 have HR2 := mk hr2
 have HC2 := mk hc2
 clear hr2 hc2
 have HB := mk (Below.refl w.heap.size w)
 have H : ((impl_isSide.f a0).bind fun tz2 => (if tz2 = true then ((impl_isSide.f a1).bind fun tz1 => (if tz1 = true then (if (l2.length : Int) < 1 then (impl_FillImage.j0 k a0 a1 l2 true a0 a1 (l2.length : Int)) else (if (l2.length : Int) > 4 then (impl_FillImage.j0 k a0 a1 l2 true a0 a1 (l2.length : Int)) else ((impl_areBytes.f l2).bind fun tz0 => (impl_FillImage.j0 k a0 a1 l2 (!tz0) a0 a1 (l2.length : Int))))) else (impl_FillImage.j0 k a0 a1 l2 true a0 a1 (l2.length : Int)))) else (impl_FillImage.j0 k a0 a1 l2 true a0 a1 (l2.length : Int)))) = some (r1, r2, r3, r4) := h
 clear h
 have HC4 := mk H
 clear H
 go_enter Try.func31, Try.ntmps31
 go_upto_region 2 with (first | ((with_reducible refine gate_dst (N := 6) rfl ?_); (try (refine gate_guard (by rfl) ?_; dsimp only)); refine box_event (by rfl) (N := 6) (by rfl) (cs := #[.int .i64 0, .int .i64 0, .int .i64 0, .slice none 0 0]) (t := 28) (by go_simp; done) ?_; intro gbz0 hg w5 hbox hb; have BKz0 := mk (hbox); have GEz1 := mk ((by rw [hg]; exact (below_size HB.out) : w.heap.size ≤ gbz0)); replace HB := mk (below_step HB.out hb); clear hb hbox hg) | ((with_reducible refine gate_dst (N := 7) rfl ?_); (try (refine gate_guard (by rfl) ?_; dsimp only)); refine box_event (by rfl) (N := 7) (by rfl) (cs := #[.int .i64 0, .int .i64 0, .int .i64 0, .slice none 0 0]) (t := 28) (by go_simp; done) ?_; intro gbz1 hg w6 hbox hb; have BKz1 := mk (hbox); have GEz0 := mk ((by rw [hg]; exact (below_size HB.out) : w.heap.size ≤ gbz1)); replace HB := mk (below_step HB.out hb); have NBz0 := mk ((by rw [hg]; exact Nat.ne_of_lt (blk_lt BKz0.out) : gbz0 ≠ gbz1)); replace BKz0 := mk (blk_below BKz0.out hb); clear hb hbox hg; have hcz8_0 : w6.cell? ⟨gbz1, 0, none⟩ = some (.int .i64 0) := (blk_cell BKz1.out 0).trans rfl; have hcz8_1 : w6.cell? ⟨gbz1, 1, none⟩ = some (.int .i64 0) := (blk_cell BKz1.out 1).trans rfl; have hcz8_2 : w6.cell? ⟨gbz1, 2, none⟩ = some (.int .i64 0) := (blk_cell BKz1.out 2).trans rfl; have hcz8_3 : w6.cell? ⟨gbz1, 3, none⟩ = some (.slice none 0 0) := (blk_cell BKz1.out 3).trans rfl; have hfz8_0 := blk_frozen BKz1.out 0; have hfz8_1 := blk_frozen BKz1.out 1; have hfz8_2 := blk_frozen BKz1.out 2; have hfz8_3 := blk_frozen BKz1.out 3))
 go_cut [35] (fun v35 wc => ∃ (kq : Nat) (x35_3 : Bool), v35 = .bool x35_3 ∧ Aside0 (impl_FillImage.j0 kq a0 a1 l2 x35_3 a0 a1 (l2.length : Int) = some (r1, r2, r3, r4)) ∧ Aside0 (kq ≤ k) ∧ Aside0 (wc.heap[gbz0]? = some (.cells #[.int .i64 0, .int .i64 0, .int .i64 0, (.slice none 0 0)] 28 (0, 0))) ∧ Aside0 (wc.heap[gbz1]? = some (.cells #[.int .i64 a0, .int .i64 a1, .int .i64 (l2.length : Int), (.slice none 0 0)] 28 (0, 0))) ∧ Aside0 (Below w.heap.size w wc))
 case first =>
  have H := HC4.out
  clear HC4
  replace H := Option.bind_eq_some_iff.mp H
  obtain ⟨tz2, A90, H⟩ := H
  replace H : (if tz2 = true then ((impl_isSide.f a1).bind fun tz1 => (if tz1 = true then (if (l2.length : Int) < 1 then (impl_FillImage.j0 k a0 a1 l2 true a0 a1 (l2.length : Int)) else (if (l2.length : Int) > 4 then (impl_FillImage.j0 k a0 a1 l2 true a0 a1 (l2.length : Int)) else ((impl_areBytes.f l2).bind fun tz0 => (impl_FillImage.j0 k a0 a1 l2 (!tz0) a0 a1 (l2.length : Int))))) else (impl_FillImage.j0 k a0 a1 l2 true a0 a1 (l2.length : Int)))) else (impl_FillImage.j0 k a0 a1 l2 true a0 a1 (l2.length : Int))) = some (r1, r2, r3, r4) := H
  have A9 := mk A90
  clear A90
  by_cases c10 : tz2 = true
  ·subst c10
   have H1 : ((impl_isSide.f a1).bind fun tz1 => (if tz1 = true then (if (l2.length : Int) < 1 then (impl_FillImage.j0 k a0 a1 l2 true a0 a1 (l2.length : Int)) else (if (l2.length : Int) > 4 then (impl_FillImage.j0 k a0 a1 l2 true a0 a1 (l2.length : Int)) else ((impl_areBytes.f l2).bind fun tz0 => (impl_FillImage.j0 k a0 a1 l2 (!tz0) a0 a1 (l2.length : Int))))) else (impl_FillImage.j0 k a0 a1 l2 true a0 a1 (l2.length : Int)))) = some (r1, r2, r3, r4) := by rw [if_pos rfl] at H; exact H
   clear H
   have H := H1
   clear H1
   replace H := Option.bind_eq_some_iff.mp H
   obtain ⟨tz1, A110, H⟩ := H
   replace H : (if tz1 = true then (if (l2.length : Int) < 1 then (impl_FillImage.j0 k a0 a1 l2 true a0 a1 (l2.length : Int)) else (if (l2.length : Int) > 4 then (impl_FillImage.j0 k a0 a1 l2 true a0 a1 (l2.length : Int)) else ((impl_areBytes.f l2).bind fun tz0 => (impl_FillImage.j0 k a0 a1 l2 (!tz0) a0 a1 (l2.length : Int))))) else (impl_FillImage.j0 k a0 a1 l2 true a0 a1 (l2.length : Int))) = some (r1, r2, r3, r4) := H
   have A11 := mk A110
   clear A110
   by_cases c12 : tz1 = true
   ·subst c12
    have H1 : (if (l2.length : Int) < 1 then (impl_FillImage.j0 k a0 a1 l2 true a0 a1 (l2.length : Int)) else (if (l2.length : Int) > 4 then (impl_FillImage.j0 k a0 a1 l2 true a0 a1 (l2.length : Int)) else ((impl_areBytes.f l2).bind fun tz0 => (impl_FillImage.j0 k a0 a1 l2 (!tz0) a0 a1 (l2.length : Int))))) = some (r1, r2, r3, r4) := by rw [if_pos rfl] at H; exact H
    clear H
    have H := H1
    clear H1
    by_cases c13 : (l2.length : Int) < 1
    ·rw [if_pos c13] at H
     have c13b0 : decide ((l2.length : Int) < 1) = true := decide_eq_true c13
     clear c13
     (skip)
     have H' := mk H
     clear H
     go_wp2_with (first | ((with_reducible refine gate_callee (f := 62) rfl ?_); refine goesL_ (some 14) rfl rfl Try.func62 (by kernel_rfl) rfl #[.int .i64 a0] rfl (by (try simp only [List.map_toArray, List.map_cons, List.map_nil]); rfl) ?_; (with_reducible refine (impl_isSide.calls a0 true _ A9.out).mono ?_); rintro e w' ⟨rfl, ⟨nd, rfl⟩⟩; refine ⟨_, rfl, ?_⟩) | (go_at_call 62; (with_reducible refine (impl_isSide.calls a1 true _ A11.out).mono ?_); rintro e w' ⟨rfl, ⟨nd, rfl⟩⟩))
     go_meet
     case rel => exact ⟨_, (true), (by rfl), H', ⟨by omega⟩, ⟨by (with_reducible repeat (refine blk_drewN ?_ _)); refine blk_far ?_ NBz0.out _; refine blk_far ?_ NBz0.out _; refine blk_far ?_ NBz0.out _; refine blk_far ?_ NBz0.out _; (with_reducible repeat (first | refine blk_drewN ?_ _ | refine blk_drew ?_ | refine blk_alloc ?_ _)); exact BKz0.out⟩, ⟨by (with_reducible repeat (refine blk_drewN ?_ _)); refine blk_put (cs := #[.int .i64 a0, .int .i64 a1, .int .i64 (l2.length : Int), .slice none 0 0]) ?_ 3 _ rfl; refine blk_put (cs := #[.int .i64 a0, .int .i64 a1, .int .i64 0, .slice none 0 0]) ?_ 2 _ rfl; refine blk_put (cs := #[.int .i64 a0, .int .i64 0, .int .i64 0, .slice none 0 0]) ?_ 1 _ rfl; refine blk_put (cs := #[.int .i64 0, .int .i64 0, .int .i64 0, .slice none 0 0]) ?_ 0 _ rfl; (with_reducible repeat (first | refine blk_drewN ?_ _ | refine blk_drew ?_ | refine blk_alloc ?_ _)); exact BKz1.out⟩, ⟨by repeat (with_reducible first | exact HB.out | apply pw_below_drewN | refine below_set ?_ GEz0.out)⟩⟩
    rw [if_neg c13] at H
    have c13b0 : decide ((l2.length : Int) < 1) = false := decide_eq_false c13
    have c13b1 : decide (l2.length < 1) = false := decide_eq_false (by omega)
    clear c13
    (skip)
    by_cases c14 : (l2.length : Int) > 4
    ·rw [if_pos c14] at H
     have c14b0 : decide (4 < (l2.length : Int)) = true := decide_eq_true c14
     clear c14
     have H' := mk H
     clear H
     go_wp2_with (first | ((with_reducible refine gate_callee (f := 62) rfl ?_); refine goesL_ (some 14) rfl rfl Try.func62 (by kernel_rfl) rfl #[.int .i64 a0] rfl (by (try simp only [List.map_toArray, List.map_cons, List.map_nil]); rfl) ?_; (with_reducible refine (impl_isSide.calls a0 true _ A9.out).mono ?_); rintro e w' ⟨rfl, ⟨nd, rfl⟩⟩; refine ⟨_, rfl, ?_⟩) | (go_at_call 62; (with_reducible refine (impl_isSide.calls a1 true _ A11.out).mono ?_); rintro e w' ⟨rfl, ⟨nd, rfl⟩⟩))
     go_meet
     case rel => exact ⟨_, (true), (by rfl), H', ⟨by omega⟩, ⟨by (with_reducible repeat (refine blk_drewN ?_ _)); refine blk_far ?_ NBz0.out _; refine blk_far ?_ NBz0.out _; refine blk_far ?_ NBz0.out _; refine blk_far ?_ NBz0.out _; (with_reducible repeat (first | refine blk_drewN ?_ _ | refine blk_drew ?_ | refine blk_alloc ?_ _)); exact BKz0.out⟩, ⟨by (with_reducible repeat (refine blk_drewN ?_ _)); refine blk_put (cs := #[.int .i64 a0, .int .i64 a1, .int .i64 (l2.length : Int), .slice none 0 0]) ?_ 3 _ rfl; refine blk_put (cs := #[.int .i64 a0, .int .i64 a1, .int .i64 0, .slice none 0 0]) ?_ 2 _ rfl; refine blk_put (cs := #[.int .i64 a0, .int .i64 0, .int .i64 0, .slice none 0 0]) ?_ 1 _ rfl; refine blk_put (cs := #[.int .i64 0, .int .i64 0, .int .i64 0, .slice none 0 0]) ?_ 0 _ rfl; (with_reducible repeat (first | refine blk_drewN ?_ _ | refine blk_drew ?_ | refine blk_alloc ?_ _)); exact BKz1.out⟩, ⟨by repeat (with_reducible first | exact HB.out | apply pw_below_drewN | refine below_set ?_ GEz0.out)⟩⟩
    rw [if_neg c14] at H
    have c14b0 : decide (4 < (l2.length : Int)) = false := decide_eq_false c14
    clear c14
    replace H := Option.bind_eq_some_iff.mp H
    obtain ⟨tz0, A150, H⟩ := H
    replace H : (impl_FillImage.j0 k a0 a1 l2 (!tz0) a0 a1 (l2.length : Int)) = some (r1, r2, r3, r4) := H
    have A15 := mk A150
    clear A150
    have H' := mk H
    clear H
    go_wp2_with (first | ((with_reducible refine gate_callee (f := 62) rfl ?_); refine goesL_ (some 14) rfl rfl Try.func62 (by kernel_rfl) rfl #[.int .i64 a0] rfl (by (try simp only [List.map_toArray, List.map_cons, List.map_nil]); rfl) ?_; (with_reducible refine (impl_isSide.calls a0 true _ A9.out).mono ?_); rintro e w' ⟨rfl, ⟨nd, rfl⟩⟩; refine ⟨_, rfl, ?_⟩) | (go_at_call 62; (with_reducible refine (impl_isSide.calls a1 true _ A11.out).mono ?_); rintro e w' ⟨rfl, ⟨nd, rfl⟩⟩) | (go_at_call 63; (with_reducible refine (impl_areBytes.calls _ _ l2 tz0 _ ?side1 ?side2 A15.out).mono ?_); (case side1 => exact Kd.C_below HR2.out (by repeat (with_reducible first | exact HB.out | apply pw_below_drewN | refine below_set ?_ GEz0.out))); (case side2 => exact HC2.out); rintro e w' ⟨rfl, ⟨nd, rfl⟩⟩))
    go_meet
    case rel => exact ⟨_, (!tz0), (by rfl), H', ⟨by omega⟩, ⟨by (with_reducible repeat (refine blk_drewN ?_ _)); refine blk_far ?_ NBz0.out _; refine blk_far ?_ NBz0.out _; refine blk_far ?_ NBz0.out _; refine blk_far ?_ NBz0.out _; (with_reducible repeat (first | refine blk_drewN ?_ _ | refine blk_drew ?_ | refine blk_alloc ?_ _)); exact BKz0.out⟩, ⟨by (with_reducible repeat (refine blk_drewN ?_ _)); refine blk_put (cs := #[.int .i64 a0, .int .i64 a1, .int .i64 (l2.length : Int), .slice none 0 0]) ?_ 3 _ rfl; refine blk_put (cs := #[.int .i64 a0, .int .i64 a1, .int .i64 0, .slice none 0 0]) ?_ 2 _ rfl; refine blk_put (cs := #[.int .i64 a0, .int .i64 0, .int .i64 0, .slice none 0 0]) ?_ 1 _ rfl; refine blk_put (cs := #[.int .i64 0, .int .i64 0, .int .i64 0, .slice none 0 0]) ?_ 0 _ rfl; (with_reducible repeat (first | refine blk_drewN ?_ _ | refine blk_drew ?_ | refine blk_alloc ?_ _)); exact BKz1.out⟩, ⟨by repeat (with_reducible first | exact HB.out | apply pw_below_drewN | refine below_set ?_ GEz0.out)⟩⟩
   replace c12 := Bool.eq_false_iff.mpr c12
   subst c12
   have H1 : (impl_FillImage.j0 k a0 a1 l2 true a0 a1 (l2.length : Int)) = some (r1, r2, r3, r4) := by rw [if_neg (show ¬ (false = true) by decide)] at H; exact H
   clear H
   have H := H1
   clear H1
   have H' := mk H
   clear H
   go_wp2_with (first | ((with_reducible refine gate_callee (f := 62) rfl ?_); refine goesL_ (some 14) rfl rfl Try.func62 (by kernel_rfl) rfl #[.int .i64 a0] rfl (by (try simp only [List.map_toArray, List.map_cons, List.map_nil]); rfl) ?_; (with_reducible refine (impl_isSide.calls a0 true _ A9.out).mono ?_); rintro e w' ⟨rfl, ⟨nd, rfl⟩⟩; refine ⟨_, rfl, ?_⟩) | (go_at_call 62; (with_reducible refine (impl_isSide.calls a1 false _ A11.out).mono ?_); rintro e w' ⟨rfl, ⟨nd, rfl⟩⟩))
   go_meet
   case rel => exact ⟨_, (true), (by rfl), H', ⟨by omega⟩, ⟨by (with_reducible repeat (refine blk_drewN ?_ _)); refine blk_far ?_ NBz0.out _; refine blk_far ?_ NBz0.out _; refine blk_far ?_ NBz0.out _; refine blk_far ?_ NBz0.out _; (with_reducible repeat (first | refine blk_drewN ?_ _ | refine blk_drew ?_ | refine blk_alloc ?_ _)); exact BKz0.out⟩, ⟨by (with_reducible repeat (refine blk_drewN ?_ _)); refine blk_put (cs := #[.int .i64 a0, .int .i64 a1, .int .i64 (l2.length : Int), .slice none 0 0]) ?_ 3 _ rfl; refine blk_put (cs := #[.int .i64 a0, .int .i64 a1, .int .i64 0, .slice none 0 0]) ?_ 2 _ rfl; refine blk_put (cs := #[.int .i64 a0, .int .i64 0, .int .i64 0, .slice none 0 0]) ?_ 1 _ rfl; refine blk_put (cs := #[.int .i64 0, .int .i64 0, .int .i64 0, .slice none 0 0]) ?_ 0 _ rfl; (with_reducible repeat (first | refine blk_drewN ?_ _ | refine blk_drew ?_ | refine blk_alloc ?_ _)); exact BKz1.out⟩, ⟨by repeat (with_reducible first | exact HB.out | apply pw_below_drewN | refine below_set ?_ GEz0.out)⟩⟩
  replace c10 := Bool.eq_false_iff.mpr c10
  subst c10
  have H1 : (impl_FillImage.j0 k a0 a1 l2 true a0 a1 (l2.length : Int)) = some (r1, r2, r3, r4) := by rw [if_neg (show ¬ (false = true) by decide)] at H; exact H
  clear H
  have H := H1
  clear H1
  have H' := mk H
  clear H
  go_wp2_with (first | ((with_reducible refine gate_callee (f := 62) rfl ?_); refine goesL_ (some 14) rfl rfl Try.func62 (by kernel_rfl) rfl #[.int .i64 a0] rfl (by (try simp only [List.map_toArray, List.map_cons, List.map_nil]); rfl) ?_; (with_reducible refine (impl_isSide.calls a0 false _ A9.out).mono ?_); rintro e w' ⟨rfl, ⟨nd, rfl⟩⟩; refine ⟨_, rfl, ?_⟩))
  go_meet
  case rel => exact ⟨_, (true), (by rfl), H', ⟨by omega⟩, ⟨by (with_reducible repeat (refine blk_drewN ?_ _)); refine blk_far ?_ NBz0.out _; refine blk_far ?_ NBz0.out _; refine blk_far ?_ NBz0.out _; refine blk_far ?_ NBz0.out _; (with_reducible repeat (first | refine blk_drewN ?_ _ | refine blk_drew ?_ | refine blk_alloc ?_ _)); exact BKz0.out⟩, ⟨by (with_reducible repeat (refine blk_drewN ?_ _)); refine blk_put (cs := #[.int .i64 a0, .int .i64 a1, .int .i64 (l2.length : Int), .slice none 0 0]) ?_ 3 _ rfl; refine blk_put (cs := #[.int .i64 a0, .int .i64 a1, .int .i64 0, .slice none 0 0]) ?_ 2 _ rfl; refine blk_put (cs := #[.int .i64 a0, .int .i64 0, .int .i64 0, .slice none 0 0]) ?_ 1 _ rfl; refine blk_put (cs := #[.int .i64 0, .int .i64 0, .int .i64 0, .slice none 0 0]) ?_ 0 _ rfl; (with_reducible repeat (first | refine blk_drewN ?_ _ | refine blk_drew ?_ | refine blk_alloc ?_ _)); exact BKz1.out⟩, ⟨by repeat (with_reducible first | exact HB.out | apply pw_below_drewN | refine below_set ?_ GEz0.out)⟩⟩
 case rest =>
  clear HC4
  try clear c1
  try clear c2
  try clear p2
  try clear c3
  try clear c6
  try clear c7
  try clear c10
  try clear c12
  try clear c13
  try clear c13b0
  try clear c13b1
  try clear c14
  try clear c14b0
  try clear c14b1
  try clear hcz8_0
  try clear hcz8_1
  try clear hcz8_2
  try clear hcz8_3
  try clear hfz8_0
  try clear hfz8_1
  try clear hfz8_2
  try clear hfz8_3
  obtain ⟨kq, x35_3, rfl, HA, HJ3, BKz0, BKz1, HB⟩ := hcut
  cases kq with
  | zero => exact absurd HA.out (by simp [impl_FillImage.j0])
  | succ kj3 =>
   have H := HA.out
   clear HA
   simp only [impl_FillImage.j0] at H
   by_cases c16 : x35_3 = true
   ·subst c16
    have H1 : (some (0, 0, 0, ([] : List Int))) = some (r1, r2, r3, r4) := by rw [if_pos rfl] at H; exact H
    clear H
    have H := H1
    clear H1
    simp only [Option.some.injEq, Prod.mk.injEq] at H
    obtain ⟨rfl, rfl, rfl, rfl⟩ := H
    have hcz18_0 : wc.cell? ⟨gbz0, 0, none⟩ = some (.int .i64 0) := (blk_cell BKz0.out 0).trans rfl
    have hcz18_1 : wc.cell? ⟨gbz0, 1, none⟩ = some (.int .i64 0) := (blk_cell BKz0.out 1).trans rfl
    have hcz18_2 : wc.cell? ⟨gbz0, 2, none⟩ = some (.int .i64 0) := (blk_cell BKz0.out 2).trans rfl
    have hcz18_3 : wc.cell? ⟨gbz0, 3, none⟩ = some (.slice none 0 0) := (blk_cell BKz0.out 3).trans rfl
    have hfz18_0 := blk_frozen BKz0.out 0
    have hfz18_1 := blk_frozen BKz0.out 1
    have hfz18_2 := blk_frozen BKz0.out 2
    have hfz18_3 := blk_frozen BKz0.out 3
    go_wp2
    refine bodyPost_ret (results_cell_row rfl _ _ gbz0 28 #[.int .i64 0, .int .i64 0, .int .i64 0, .slice none 0 0] (0, 0) _ rfl (by refine blk_put (cs := #[.int .i64 0, .int .i64 0, .int .i64 0, .slice none 0 0]) ?_ 3 _ rfl; refine blk_put (cs := #[.int .i64 0, .int .i64 0, .int .i64 0, .slice none 0 0]) ?_ 2 _ rfl; refine blk_put (cs := #[.int .i64 0, .int .i64 0, .int .i64 0, .slice none 0 0]) ?_ 1 _ rfl; refine blk_put (cs := #[.int .i64 0, .int .i64 0, .int .i64 0, .slice none 0 0]) ?_ 0 _ rfl; (with_reducible repeat (first | refine blk_drewN ?_ _ | refine blk_drew ?_ | refine blk_alloc ?_ _)); exact BKz0.out) Try.underlying28 rfl (by kernel_rfl)) rfl ?_
    exact ⟨_, by rfl, by exact Kd.R_nil _ _ _ _ _, by repeat (with_reducible first | exact HB.out | refine below_set ?_ GEz1.out)⟩
   replace c16 := Bool.eq_false_iff.mpr c16
   subst c16
   have H1 : (impl_FillImage.l0 kj3 l2 (wrap64 (a0 * a1)) 0 a0 a1 (l2.length : Int) ([] : List Int)) = some (r1, r2, r3, r4) := by rw [if_neg (show ¬ (false = true) by decide)] at H; exact H
   clear H
   have H := H1
   clear H1
   have H' := mk H
   clear H
   go_wp2
   go_loopg [40] kj3 (fun kq v40 w' => ∃ (x40_2 : Int) (xz0 : List Int) (u32003003 : Value), v40 = .int .i64 x40_2 ∧ Aside0 (impl_FillImage.l0 kq l2 (wrap64 (a0 * a1)) x40_2 a0 a1 (l2.length : Int) xz0 = some (r1, r2, r3, r4)) ∧ Aside0 (kq ≤ kj3) ∧ Aside0 (Kd.R (Kd.int .i64) 3 w' w.heap.size (fun _ => True) u32003003 xz0) ∧ Aside0 (w'.heap[gbz0]? = some (.cells #[.int .i64 0, .int .i64 0, .int .i64 0, (.slice none 0 0)] 28 (0, 0))) ∧ Aside0 (w'.heap[gbz1]? = some (.cells #[.int .i64 a0, .int .i64 a1, .int .i64 (l2.length : Int), u32003003] 28 (0, 0))) ∧ Aside0 (Below w.heap.size w w'))
   case atStart => exact ⟨(0), ([] : List Int), (.slice none 0 0), (by rfl), H', ⟨Nat.le_refl _⟩, ⟨by exact Kd.R_nil _ _ _ _ _⟩, ⟨by (with_reducible repeat (first | refine blk_drewN ?_ _ | refine blk_drew ?_ | refine blk_alloc ?_ _)); exact BKz0.out⟩, ⟨by (with_reducible repeat (first | refine blk_drewN ?_ _ | refine blk_drew ?_ | refine blk_alloc ?_ _)); exact BKz1.out⟩, ⟨by exact HB.out⟩⟩
   case round =>
    clear H'
    try clear c1
    try clear c2
    try clear p2
    try clear c3
    try clear c6
    try clear p6
    try clear c7
    try clear c10
    try clear c12
    try clear c13
    try clear c13b0
    try clear c13b1
    try clear c14
    try clear c14b0
    try clear c14b1
    try clear c16
    try clear c17
    try clear hcz18_0
    try clear hcz18_1
    try clear hcz18_2
    try clear hcz18_3
    try clear hcz8_0
    try clear hcz8_1
    try clear hcz8_2
    try clear hcz8_3
    try clear hfz18_0
    try clear hfz18_1
    try clear hfz18_2
    try clear hfz18_3
    try clear hfz8_0
    try clear hfz8_1
    try clear hfz8_2
    try clear hfz8_3
    try clear p2
    obtain ⟨x40_2, xz0, u32003003, rfl, HA, HK2, HOz0, BKz0, BKz1, HB⟩ := hrel
    cases gk with
    | zero => exact absurd HA.out (by simp [impl_FillImage.l0])
    | succ k2 =>
     have H := HA.out
     clear HA
     simp only [impl_FillImage.l0] at H
     by_cases c19 : x40_2 < (wrap64 (a0 * a1))
     ·rw [if_pos c19] at H
      have c19b0 : decide (x40_2 < (wrap64 (a0 * a1))) = true := decide_eq_true c19
      clear c19
      by_cases c20 : xz0.length + l2.length < 17592186044416
      ·rw [if_pos c20] at H
       have LMc20 := mk c20
       clear c20
       obtain ⟨yz0, hyz0⟩ : ∃ y_ : List Int, y_ = (xz0 ++ l2) := ⟨_, rfl⟩
       replace H : (impl_FillImage.l0 k2 l2 (wrap64 (a0 * a1)) (wrap64 (x40_2 + 1)) a0 a1 (l2.length : Int) yz0) = some (r1, r2, r3, r4) := by (rw [hyz0]; with_reducible exact H)
       have Nyz0 := mk hyz0
       clear hyz0
       have H' := mk H
       clear H
       have hcz22_3 : wr.cell? ⟨gbz1, 3, none⟩ = some u32003003 := (blk_cell BKz1.out 3).trans rfl
       go_wp2_with (first | ((with_reducible refine gate_builtin (b := .append) (xs := #[.tmp 43, .tmp 44]) rfl ?_); (try (refine gate_guard (by rfl) ?_; dsimp only)); at_builtin; refine Kd.R_append_rows (Kd.int .i64) (w0 := w) w.heap.size rfl (.tmp 43) (.tmp 44) 22 3 (.int .i64 0) 8 rfl Try.underlying22 info3 rfl (by decide) (by omega) u32003003 xz0 l2 _ _ _ (fun _ => True) (fun _ => False) rfl rfl ?aO ?aR (fun _ _ h => h) (fun _ h => h.elim) ?aF ?aB ?aS ?aL ?_; (case aR => repeat (exact (Kd.C_below HR2.out HB.out))); (case aB => exact HB.out); (case aF => exact (fun _ _ => trivial)); (case aO => exact HOz0.out); (case aS => exact (below_size HB.out)); (case aL => have := LMc20.out; omega); intro vz0 w23 ho hb hg hat; rw [← Nyz0.out] at ho; have n0_ := mk (blk_grown (g := gbz0) (o := .cells #[.int .i64 0, .int .i64 0, .int .i64 0, .slice none 0 0] 28 (0, 0)) BKz0.out hg (Kd.R_ne HOz0.out BKz0.out (by decide))); have n1_ := mk (blk_grown (g := gbz1) (o := .cells #[.int .i64 a0, .int .i64 a1, .int .i64 (l2.length : Int), u32003003] 28 (0, 0)) BKz1.out hg (Kd.R_ne HOz0.out BKz1.out (by decide))); have n2_ := mk (hb); have n3_ := mk (ho); clear BKz0; clear BKz1; clear HB; clear HOz0; have BKz0 := n0_; have BKz1 := n1_; have HB := n2_; have HOz1 := n3_; clear ho hb hg hat; obtain ⟨Ao24, co24, eo24⟩ := Kd.R_slice HOz1.out; subst eo24; have hcz25_3 : w23.cell? ⟨gbz1, 3, none⟩ = some u32003003 := (blk_cell BKz1.out 3).trans rfl; have hfz25_3 := blk_frozen BKz1.out 3))
       go_roundg k2
       case measure => have := HJ3.out; have := HK2.out; omega
       case rel => exact ⟨(wrap64 (x40_2 + 1)), (yz0), (.slice Ao24 yz0.length co24), (by rfl), H', ⟨by have := HJ3.out; have := HK2.out; omega⟩, ⟨by (with_reducible repeat (first | apply Kd.R_alloc | apply Kd.R_drewN | apply Kd.R_drew)); exact Kd.R_mono (Kd.R_far (p := ⟨gbz1, 3, none⟩) (Kd.R_types HOz1.out BKz1.out (by decide)) (fun _ hk => hk.2) (.slice Ao24 yz0.length co24)) (fun _ hk => trivial)⟩, ⟨by refine blk_far ?_ NBz0.out _; (with_reducible repeat (first | refine blk_drewN ?_ _ | refine blk_drew ?_ | refine blk_alloc ?_ _)); exact BKz0.out⟩, ⟨by refine blk_put (cs := #[.int .i64 a0, .int .i64 a1, .int .i64 (l2.length : Int), u32003003]) ?_ 3 _ rfl; (with_reducible repeat (first | refine blk_drewN ?_ _ | refine blk_drew ?_ | refine blk_alloc ?_ _)); exact BKz1.out⟩, ⟨by repeat (with_reducible first | exact HB.out | refine below_set ?_ GEz0.out)⟩⟩
      rw [if_neg c20] at H
      exact absurd H (by simp)
     rw [if_neg c19] at H
     have c19b0 : decide (x40_2 < (wrap64 (a0 * a1))) = false := decide_eq_false c19
     clear c19
     simp only [Option.some.injEq, Prod.mk.injEq] at H
     obtain ⟨rfl, rfl, rfl, rfl⟩ := H
     have hcz27_0 : wr.cell? ⟨gbz1, 0, none⟩ = some (.int .i64 a0) := (blk_cell BKz1.out 0).trans rfl
     have hcz27_1 : wr.cell? ⟨gbz1, 1, none⟩ = some (.int .i64 a1) := (blk_cell BKz1.out 1).trans rfl
     have hcz27_2 : wr.cell? ⟨gbz1, 2, none⟩ = some (.int .i64 (l2.length : Int)) := (blk_cell BKz1.out 2).trans rfl
     have hcz27_3 : wr.cell? ⟨gbz1, 3, none⟩ = some u32003003 := (blk_cell BKz1.out 3).trans rfl
     have hcz28_0 : wr.cell? ⟨gbz0, 0, none⟩ = some (.int .i64 0) := (blk_cell BKz0.out 0).trans rfl
     have hcz28_1 : wr.cell? ⟨gbz0, 1, none⟩ = some (.int .i64 0) := (blk_cell BKz0.out 1).trans rfl
     have hcz28_2 : wr.cell? ⟨gbz0, 2, none⟩ = some (.int .i64 0) := (blk_cell BKz0.out 2).trans rfl
     have hcz28_3 : wr.cell? ⟨gbz0, 3, none⟩ = some (.slice none 0 0) := (blk_cell BKz0.out 3).trans rfl
     have hfz28_0 := blk_frozen BKz0.out 0
     have hfz28_1 := blk_frozen BKz0.out 1
     have hfz28_2 := blk_frozen BKz0.out 2
     have hfz28_3 := blk_frozen BKz0.out 3
     obtain ⟨Ao29, co29, eo29⟩ := Kd.R_slice HOz0.out
     subst eo29
     go_wp2
     refine bodyPost_ret (results_cell_row rfl _ _ gbz0 28 #[.int .i64 a0, .int .i64 a1, .int .i64 (l2.length : Int), .slice Ao29 xz0.length co29] (0, 0) _ rfl (by refine blk_put (cs := #[.int .i64 a0, .int .i64 a1, .int .i64 (l2.length : Int), .slice none 0 0]) ?_ 3 _ rfl; refine blk_put (cs := #[.int .i64 a0, .int .i64 a1, .int .i64 0, .slice none 0 0]) ?_ 2 _ rfl; refine blk_put (cs := #[.int .i64 a0, .int .i64 0, .int .i64 0, .slice none 0 0]) ?_ 1 _ rfl; refine blk_put (cs := #[.int .i64 0, .int .i64 0, .int .i64 0, .slice none 0 0]) ?_ 0 _ rfl; (with_reducible repeat (first | refine blk_drewN ?_ _ | refine blk_drew ?_ | refine blk_alloc ?_ _)); exact BKz0.out) Try.underlying28 rfl (by kernel_rfl)) rfl ?_
     exact ⟨_, by rfl, by (with_reducible repeat (first | apply Kd.R_alloc | apply Kd.R_drewN | apply Kd.R_drew)); exact Kd.R_mono (Kd.R_far (p := ⟨gbz0, 3, none⟩) (Kd.R_far (p := ⟨gbz0, 2, none⟩) (Kd.R_far (p := ⟨gbz0, 1, none⟩) (Kd.R_far (p := ⟨gbz0, 0, none⟩) (Kd.R_types HOz0.out BKz0.out (by decide)) (fun _ hk => hk.2) (.int .i64 a0)) (fun _ hk => hk.2) (.int .i64 a1)) (fun _ hk => hk.2) (.int .i64 (l2.length : Int))) (fun _ hk => hk.2) (.slice Ao29 xz0.length co29)) (fun _ hk => trivial), by repeat (with_reducible first | exact HB.out | refine below_set ?_ GEz1.out)⟩

end Go.Proofs.Ytgccpcnakkioiaa.Q
