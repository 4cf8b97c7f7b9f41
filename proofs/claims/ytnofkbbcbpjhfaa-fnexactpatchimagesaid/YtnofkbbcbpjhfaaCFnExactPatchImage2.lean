/- A part of the proof that the statement FnExactPatchImageSaid holds, under no condition of its own: The program's PatchImage and the reference's return the same, and what is returned is held by nobody else: over lists of numbers alone. -/
import Derived.Test.YtnofkbbcbpjhfaaCFnExactPatchImage1
import Derived.Shelf.Abstract
namespace Go.Proofs.Ytnofkbbcbpjhfaa.Q
open Go.RowKit Go.Proofs.YtnofkbbcbpjhfaaW.PrintWords Go.Proofs.YtnofkbbcbpjhfaaW.PrintLast Go.Proofs.YtnofkbbcbpjhfaaW.PrintMore
attribute [local go_sem] max2_int min2_int max_two min_two max_three min_three max_four min_four
set_option linter.unusedVariables false
set_option linter.unusedSimpArgs false
mutual
def spec_paste.l0 : Nat → Int → Int → Int → Int → Int → Int → List Int → Int → Int → Int → List Int → Option (List Int)
  | 0, _, _, _, _, _, _, _, _, _, _, _ => none
  | k + 1, x1, x2, x8, x123002000, x123002001, x123002002, x123002003, x123003000, x123003001, x123003002, x123003003 => if x8 < x123003001 then (spec_paste.l1 k x1 x2 x8 0 x123002000 x123002001 x123002002 x123002003 x123003000 x123003001 x123003002 x123003003) else (some x123002003)
def spec_paste.l1 : Nat → Int → Int → Int → Int → Int → Int → Int → List Int → Int → Int → Int → List Int → Option (List Int)
  | 0, _, _, _, _, _, _, _, _, _, _, _, _ => none
  | k + 1, x1, x2, x8, x9, x123002000, x123002001, x123002002, x123002003, x123003000, x123003001, x123003002, x123003003 => if x9 < x123003000 then ((spec_onImage.f x123002000 x123002001 x123002002 x123002003 (wrap64 (x1 + x9)) (wrap64 (x2 + x8))).bind fun t123003 => (if t123003 = true then ((spec_pixelAt.f x123003000 x123003001 x123003002 x123003003 x9 x8).bind fun t123004 => ((spec_setPixel.f k x123002000 x123002001 x123002002 x123002003 (wrap64 (x1 + x9)) (wrap64 (x2 + x8)) t123004).bind fun t123007 => (spec_paste.l1 k x1 x2 x8 (wrap64 (x9 + 1)) x123002000 x123002001 x123002002 t123007 x123003000 x123003001 x123003002 x123003003))) else (spec_paste.l1 k x1 x2 x8 (wrap64 (x9 + 1)) x123002000 x123002001 x123002002 x123002003 x123003000 x123003001 x123003002 x123003003))) else (spec_paste.l0 k x1 x2 (wrap64 (x8 + 1)) x123002000 x123002001 x123002002 x123002003 x123003000 x123003001 x123003002 x123003003)
end
def spec_paste.f (k : Nat) (a0_0 : Int) (a0_1 : Int) (a0_2 : Int) (l0_3 : List Int) (a1 : Int) (a2 : Int) (a3_0 : Int) (a3_1 : Int) (a3_2 : Int) (l3_3 : List Int) : Option (List Int) := spec_paste.l0 k a1 a2 0 a0_0 a0_1 a0_2 l0_3 a3_0 a3_1 a3_2 l3_3
theorem spec_paste.mono_l : ∀ k, (∀ y0 y1 y2 y3 y4 y5 y6 y7 y8 y9 y10, LeO (spec_paste.l0 k y0 y1 y2 y3 y4 y5 y6 y7 y8 y9 y10) (spec_paste.l0 (k + 1) y0 y1 y2 y3 y4 y5 y6 y7 y8 y9 y10)) ∧ (∀ y0 y1 y2 y3 y4 y5 y6 y7 y8 y9 y10 y11, LeO (spec_paste.l1 k y0 y1 y2 y3 y4 y5 y6 y7 y8 y9 y10 y11) (spec_paste.l1 (k + 1) y0 y1 y2 y3 y4 y5 y6 y7 y8 y9 y10 y11))
  | 0 => ⟨fun _ _ _ _ _ _ _ _ _ _ _ r h => by simp [spec_paste.l0] at h, fun _ _ _ _ _ _ _ _ _ _ _ _ r h => by simp [spec_paste.l1] at h⟩
  | k + 1 => by
    obtain ⟨ih0, ih1⟩ := spec_paste.mono_l k
    refine ⟨?_, ?_⟩
    · intro y0 y1 y2 y3 y4 y5 y6 y7 y8 y9 y10
      unfold spec_paste.l0
      repeat' first
      | (with_reducible exact ih0 _ _ _ _ _ _ _ _ _ _ _)
      | (with_reducible exact ih1 _ _ _ _ _ _ _ _ _ _ _ _)
      | (with_reducible exact spec_setPixel.mono _ _ _ _ _ _ _ _)
      | (with_reducible exact LeO.refl _)
      | (with_reducible exact LeO.none _)
      | (with_reducible refine LeO.ite ?_ ?_)
      | (with_reducible refine LeO.bind ?_ (fun _ => ?_))
      | exact ih0 _ _ _ _ _ _ _ _ _ _ _
      | exact ih1 _ _ _ _ _ _ _ _ _ _ _ _
      | exact spec_setPixel.mono _ _ _ _ _ _ _ _
      | exact LeO.none _
      | refine LeO.ite ?_ ?_
      | refine LeO.bind ?_ (fun _ => ?_)
    · intro y0 y1 y2 y3 y4 y5 y6 y7 y8 y9 y10 y11
      unfold spec_paste.l1
      repeat' first
      | (with_reducible exact ih0 _ _ _ _ _ _ _ _ _ _ _)
      | (with_reducible exact ih1 _ _ _ _ _ _ _ _ _ _ _ _)
      | (with_reducible exact spec_setPixel.mono _ _ _ _ _ _ _ _)
      | (with_reducible exact LeO.refl _)
      | (with_reducible exact LeO.none _)
      | (with_reducible refine LeO.ite ?_ ?_)
      | (with_reducible refine LeO.bind ?_ (fun _ => ?_))
      | exact ih0 _ _ _ _ _ _ _ _ _ _ _
      | exact ih1 _ _ _ _ _ _ _ _ _ _ _ _
      | exact spec_setPixel.mono _ _ _ _ _ _ _ _
      | exact LeO.none _
      | refine LeO.ite ?_ ?_
      | refine LeO.bind ?_ (fun _ => ?_)
theorem spec_paste.mono : ∀ a0 a1 a2 a3 a4 a5 a6 a7 a8 a9 k, LeO (spec_paste.f k a0 a1 a2 a3 a4 a5 a6 a7 a8 a9) (spec_paste.f (k + 1) a0 a1 a2 a3 a4 a5 a6 a7 a8 a9) := by
  intro a0 a1 a2 a3 a4 a5 a6 a7 a8 a9 k
  obtain ⟨ih0, ih1⟩ := spec_paste.mono_l k
  unfold spec_paste.f
  repeat' first
      | (with_reducible exact ih0 _ _ _ _ _ _ _ _ _ _ _)
      | (with_reducible exact ih1 _ _ _ _ _ _ _ _ _ _ _ _)
      | (with_reducible exact spec_setPixel.mono _ _ _ _ _ _ _ _)
      | (with_reducible exact LeO.refl _)
      | (with_reducible exact LeO.none _)
      | (with_reducible refine LeO.ite ?_ ?_)
      | (with_reducible refine LeO.bind ?_ (fun _ => ?_))
      | exact ih0 _ _ _ _ _ _ _ _ _ _ _
      | exact ih1 _ _ _ _ _ _ _ _ _ _ _ _
      | exact spec_setPixel.mono _ _ _ _ _ _ _ _
      | exact LeO.none _
      | refine LeO.ite ?_ ?_
      | refine LeO.bind ?_ (fun _ => ?_)
def spec_paste.T8 : Bool × List (List Nat × List Nat) := (true, [([], []), ([], []), ([], []), ([1, 2], [1, 2]), ([], []), ([], []), ([4, 5], [4, 5]), ([], []), ([], []), ([], []), ([7, 8, 9], [7, 8, 9]), ([0, 3, 6, 10, 10], [0, 3, 6, 10])])
def spec_paste.B8 : List Nat := [0, 0, 0, 6, 0, 0, 48, 0, 0, 0, 896, 2047]
theorem spec_paste.tab8 : rtab .any (opsOf Try.f122 8) = spec_paste.T8 := by kernel_rfl
theorem spec_paste.bits8 : waitsOk spec_paste.T8.2 spec_paste.B8 = true := by kernel_rfl
set_option maxHeartbeats 8000000 in
set_option maxRecDepth 100000 in
theorem spec_paste.calls (k : Nat) (a0_0 : Int) (a0_1 : Int) (a0_2 : Int) (P0_3_ : Nat → Prop) (u9000_ : Value) (l0_3 : List Int) (a1 : Int) (a2 : Int) (a3_0 : Int) (a3_1 : Int) (a3_2 : Int) (A3_3 : Option Addr) (c3_3 : Nat) (l3_3 : List Int) (r : List Int) (w0 w : World) (hB : Below w0.heap.size w0 w) (ho0_3 : Kd.R (Kd.int .i64) 3 w w0.heap.size P0_3_ u9000_ l0_3) (hr3_3 : ∀ W_, Kept w W_ (fun k_ => P0_3_ k_) → Kd.C (Kd.int .i64) W_ A3_3 l3_3.length l3_3) (hc3_3 : l3_3.length ≤ c3_3) (h : spec_paste.f k a0_0 a0_1 a0_2 l0_3 a1 a2 a3_0 a3_1 a3_2 l3_3 = some r) :
    Calls Try.prog 122 #[.agg #[.int .i64 a0_0, .int .i64 a0_1, .int .i64 a0_2, u9000_], .int .i64 a1, .int .i64 a2, .agg #[.int .i64 a3_0, .int .i64 a3_1, .int .i64 a3_2, .slice A3_3 l3_3.length c3_3]] w fun e w' => e = .returned (.tuple #[]) ∧ Kd.R (Kd.int .i64) 3 w' w0.heap.size (fun k_ => (P0_3_ k_ ∨ w.heap.size ≤ k_)) u9000_ r ∧ Below w0.heap.size w0 w' ∧ Kept w w' (fun k_ => P0_3_ k_) := by
  have hu27 := Try.underlying27
  have HO0_3 := Aside0.mk (show Kd.R (Kd.int .i64) 3 w w0.heap.size (fun k_ => (P0_3_ k_ ∨ w.heap.size ≤ k_)) u9000_ l0_3 from Kd.R_mono ho0_3 (fun k_ hk => (.inl hk)))
  have HR3_3 := Aside0.mk hr3_3
  have HC3_3 := Aside0.mk hc3_3
  clear hr3_3 hc3_3
  have HK := Aside0.mk (Kept.refl w (fun k_ => P0_3_ k_))
  have HW0 := Aside0.mk hB.size
  have HB := Aside0.mk hB
  clear hB
  have H : (spec_paste.l0 k a1 a2 0 a0_0 a0_1 a0_2 l0_3 a3_0 a3_1 a3_2 l3_3) = some r := h
  clear h
  have H' := Aside0.mk H
  clear H
  obtain ⟨Ao5, co5, eo5⟩ := Kd.R_slice HO0_3.out
  subst eo5
  go_enter Try.func122, Try.ntmps122
  go_wp2_with (first | ((with_reducible refine gate_dst (N := 4) rfl ?_); refine box_event ?hg (N := 4) ?hd (cs := #[.int .i64 a0_0, .int .i64 a0_1, .int .i64 a0_2, .slice Ao5 l0_3.length co5]) (t := 27) ?hr ?_; (case hd => rfl); (case hg => rfl); (case hr => first | (go_simp; done) | (go_simp; rfl)); intro gb123001 hg w6 hbox hb; have n0_ := Aside0.mk (Kd.R_below (by (with_reducible repeat (first | apply Kd.R_alloc | apply Kd.R_drewN | apply Kd.R_drew)); exact HO0_3.out) hb); have n1_ := Aside0.mk (Kept.below (S := (fun k_ => P0_3_ k_)) (by repeat (first | (with_reducible first | exact HK.out | apply Kept.alloc | apply Kept.drewN | apply Kept.drew) | exact HK.out)) hb); have n2_ := Aside0.mk (below_step (by repeat (first | (with_reducible first | exact HB.out | apply below_alloc | apply pw_below_drewN | apply below_drew1) | exact HB.out)) hb); have n3_ := Aside0.mk (hbox); have n4_ := Aside0.mk ((by rw [hg]; exact (by first | exact HK.out.1 | exact (show Kept w _ (fun k_ => P0_3_ k_) from by repeat (first | (with_reducible first | exact HK.out | apply Kept.alloc | apply Kept.drewN | apply Kept.drew) | exact HK.out)).1) : w.heap.size ≤ gb123001)); have n5_ := Aside0.mk ((by rw [hg]; exact (below_size (by repeat (first | (with_reducible first | exact HB.out | apply below_alloc | apply pw_below_drewN | apply below_drew1) | exact HB.out))) : w0.heap.size ≤ gb123001)); clear HO0_3; clear HK; clear HB; have HO0_3 := n0_; have HK := n1_; have HB := n2_; have BK123001 := n3_; have GW123001 := n4_; have GE123001 := n5_; clear n0_ n1_ n2_ n3_ n4_ n5_; clear hb hbox hg) | ((with_reducible refine gate_dst (N := 7) rfl ?_); refine box_event ?hg (N := 7) ?hd (cs := #[.int .i64 a3_0, .int .i64 a3_1, .int .i64 a3_2, .slice A3_3 l3_3.length c3_3]) (t := 27) ?hr ?_; (case hd => rfl); (case hg => rfl); (case hr => first | (go_simp; done) | (go_simp; rfl)); intro gb123002 hg w7 hbox hb; have n0_ := Aside0.mk (Kd.R_below (by (with_reducible repeat (first | apply Kd.R_alloc | apply Kd.R_drewN | apply Kd.R_drew)); exact HO0_3.out) hb); have n1_ := Aside0.mk (blk_below (g := gb123001) (o := .cells #[.int .i64 a0_0, .int .i64 a0_1, .int .i64 a0_2, .slice Ao5 l0_3.length co5] 27 (0, 0)) (by (with_reducible repeat (first | refine blk_drewN ?_ _ | refine blk_drew ?_ | refine blk_alloc ?_ _)); exact BK123001.out) hb); have n2_ := Aside0.mk (Kept.below (S := (fun k_ => P0_3_ k_)) (by repeat (first | (with_reducible first | exact HK.out | apply Kept.alloc | apply Kept.drewN | apply Kept.drew | refine Kept.setCell ?_ (.inr GW123001.out) _) | exact HK.out)) hb); have n3_ := Aside0.mk (below_step (by repeat (first | (with_reducible first | exact HB.out | apply below_alloc | apply pw_below_drewN | apply below_drew1 | refine below_set ?_ GE123001.out) | exact HB.out)) hb); have n4_ := Aside0.mk (hbox); have n5_ := Aside0.mk ((by rw [hg]; exact (by first | exact HK.out.1 | exact (show Kept w _ (fun k_ => P0_3_ k_) from by repeat (first | (with_reducible first | exact HK.out | apply Kept.alloc | apply Kept.drewN | apply Kept.drew | refine Kept.setCell ?_ (.inr GW123001.out) _) | exact HK.out)).1) : w.heap.size ≤ gb123002)); have n6_ := Aside0.mk ((by rw [hg]; exact (below_size (by repeat (first | (with_reducible first | exact HB.out | apply below_alloc | apply pw_below_drewN | apply below_drew1 | refine below_set ?_ GE123001.out) | exact HB.out))) : w0.heap.size ≤ gb123002)); have n7_ := Aside0.mk ((by rw [hg]; exact Nat.ne_of_lt (blk_lt (g := gb123001) (o := .cells #[.int .i64 a0_0, .int .i64 a0_1, .int .i64 a0_2, .slice Ao5 l0_3.length co5] 27 (0, 0)) (by (with_reducible repeat (first | refine blk_drewN ?_ _ | refine blk_drew ?_ | refine blk_alloc ?_ _)); exact BK123001.out)) : gb123001 ≠ gb123002)); have n8_ := Aside0.mk ((by rw [hg]; exact Nat.ne_of_gt (blk_lt (g := gb123001) (o := .cells #[.int .i64 a0_0, .int .i64 a0_1, .int .i64 a0_2, .slice Ao5 l0_3.length co5] 27 (0, 0)) (by (with_reducible repeat (first | refine blk_drewN ?_ _ | refine blk_drew ?_ | refine blk_alloc ?_ _)); exact BK123001.out)) : gb123002 ≠ gb123001)); clear HO0_3; clear BK123001; clear HK; clear HB; have HO0_3 := n0_; have BK123001 := n1_; have HK := n2_; have HB := n3_; have BK123002 := n4_; have GW123002 := n5_; have GE123002 := n6_; have NB123001_123002 := n7_; have NB123002_123001 := n8_; clear n0_ n1_ n2_ n3_ n4_ n5_ n6_ n7_ n8_; clear hb hbox hg))
  go_loopg [8] k (fun kq v8 w' => ∃ (x8_1 : Int) (x123002003_1 : List Int), v8 = .int .i64 x8_1 ∧ Aside0 (spec_paste.l0 kq a1 a2 x8_1 a0_0 a0_1 a0_2 x123002003_1 a3_0 a3_1 a3_2 l3_3 = some r) ∧ Aside0 (kq ≤ k) ∧ Aside0 (Kd.R (Kd.int .i64) 3 w' w0.heap.size (fun k_ => (P0_3_ k_ ∨ w.heap.size ≤ k_)) (.slice Ao5 l0_3.length co5) x123002003_1) ∧ Aside0 (w'.heap[gb123001]? = some (.cells #[.int .i64 a0_0, .int .i64 a0_1, .int .i64 a0_2, (.slice Ao5 l0_3.length co5)] 27 (0, 0))) ∧ Aside0 (w'.heap[gb123002]? = some (.cells #[.int .i64 a3_0, .int .i64 a3_1, .int .i64 a3_2, (.slice A3_3 l3_3.length c3_3)] 27 (0, 0))) ∧ Aside0 (Kept w w' (fun k_ => P0_3_ k_)) ∧ Aside0 (Below w0.heap.size w0 w'))
  case atStart => exact ⟨(0), (l0_3), (by first | rfl | (simp; done) | (simp [*]; done)), H', ⟨Nat.le_refl _⟩, ⟨by (with_reducible repeat (first | apply Kd.R_alloc | apply Kd.R_drewN | apply Kd.R_drew)); exact HO0_3.out⟩, ⟨by (with_reducible repeat (first | refine blk_drewN ?_ _ | refine blk_drew ?_ | refine blk_alloc ?_ _)); exact BK123001.out⟩, ⟨by (with_reducible repeat (first | refine blk_drewN ?_ _ | refine blk_drew ?_ | refine blk_alloc ?_ _)); exact BK123002.out⟩, ⟨by repeat (first | (with_reducible first | exact HK.out | apply Kept.alloc | apply Kept.drewN | apply Kept.drew | refine Kept.setCell ?_ (.inr GW123001.out) _ | refine Kept.setCell ?_ (.inr GW123002.out) _) | exact HK.out)⟩, ⟨by repeat (first | (with_reducible first | exact HB.out | apply below_alloc | apply pw_below_drewN | apply below_drew1 | refine below_set ?_ GE123001.out | refine below_set ?_ GE123002.out) | exact HB.out)⟩⟩
  case round =>
    clear H'
    try clear c1
    try clear p2
    try clear c3
    obtain ⟨x8_1, x123002003_1, rfl, HA, HK1, HO_123002003, BK123001, BK123002, HK, HB⟩ := hrel
    have hl123002003_1 := (Kd.R_reads' HO_123002003.out).1
    rw [hl123002003_1] at HO_123002003
    (try simp only [hl123002003_1])
    (try simp only [hl123002003_1] at BK123001)
    (try simp only [hl123002003_1] at BK123002)
    cases gk with
    | zero => exact absurd HA.out (by simp [spec_paste.l0])
    | succ k1 =>
      have H := HA.out
      clear HA
      simp only [spec_paste.l0] at H
      by_cases c8 : x8_1 < a3_1
      · rw [if_pos c8] at H
        have c8b0 : decide (x8_1 < a3_1) = true := decide_eq_true c8
        clear c8
        have H' := Aside0.mk H
        clear H
        have hnb9 := NB123002_123001.out
        have hnc9 := NB123001_123002.out
        have hcz10_0 : wr.cell? ⟨gb123002, 0, none⟩ = some (.int .i64 a3_0) := (blk_cell BK123002.out 0).trans rfl
        have hcz10_1 : wr.cell? ⟨gb123002, 1, none⟩ = some (.int .i64 a3_1) := (blk_cell BK123002.out 1).trans rfl
        have hcz10_2 : wr.cell? ⟨gb123002, 2, none⟩ = some (.int .i64 a3_2) := (blk_cell BK123002.out 2).trans rfl
        have hcz10_3 : wr.cell? ⟨gb123002, 3, none⟩ = some (.slice A3_3 l3_3.length c3_3) := (blk_cell BK123002.out 3).trans rfl
        have hfz10_0 := blk_frozen BK123002.out 0
        have hfz10_1 := blk_frozen BK123002.out 1
        have hfz10_2 := blk_frozen BK123002.out 2
        have hfz10_3 := blk_frozen BK123002.out 3
        go_wp2
        go_loopg [9] k1 (fun kq v9 w' => ∃ (x9_2 : Int) (x123002003_2 : List Int), v9 = .int .i64 x9_2 ∧ Aside0 (spec_paste.l1 kq a1 a2 x8_1 x9_2 a0_0 a0_1 a0_2 x123002003_2 a3_0 a3_1 a3_2 l3_3 = some r) ∧ Aside0 (kq ≤ k1) ∧ Aside0 (Kd.R (Kd.int .i64) 3 w' w0.heap.size (fun k_ => (P0_3_ k_ ∨ w.heap.size ≤ k_)) (.slice Ao5 x123002003_1.length co5) x123002003_2) ∧ Aside0 (w'.heap[gb123001]? = some (.cells #[.int .i64 a0_0, .int .i64 a0_1, .int .i64 a0_2, (.slice Ao5 x123002003_1.length co5)] 27 (0, 0))) ∧ Aside0 (w'.heap[gb123002]? = some (.cells #[.int .i64 a3_0, .int .i64 a3_1, .int .i64 a3_2, (.slice A3_3 l3_3.length c3_3)] 27 (0, 0))) ∧ Aside0 (Kept w w' (fun k_ => P0_3_ k_)) ∧ Aside0 (Below w0.heap.size w0 w'))
        case atStart => exact ⟨(0), (x123002003_1), (by first | rfl | (simp; done) | (simp [*]; done)), H', ⟨Nat.le_refl _⟩, ⟨by (try simp only [hl123002003_1]); (with_reducible repeat (first | apply Kd.R_alloc | apply Kd.R_drewN | apply Kd.R_drew)); exact HO_123002003.out⟩, ⟨by (try simp only [hl123002003_1]); (with_reducible repeat (first | refine blk_drewN ?_ _ | refine blk_drew ?_ | refine blk_alloc ?_ _)); exact BK123001.out⟩, ⟨by (try simp only [hl123002003_1]); (with_reducible repeat (first | refine blk_drewN ?_ _ | refine blk_drew ?_ | refine blk_alloc ?_ _)); exact BK123002.out⟩, ⟨by repeat (first | (with_reducible first | exact HK.out | apply Kept.alloc | apply Kept.drewN | apply Kept.drew | refine Kept.setCell ?_ (.inr GW123001.out) _ | refine Kept.setCell ?_ (.inr GW123002.out) _) | exact HK.out)⟩, ⟨by repeat (first | (with_reducible first | exact HB.out | apply below_alloc | apply pw_below_drewN | apply below_drew1 | refine below_set ?_ GE123001.out | refine below_set ?_ GE123002.out) | exact HB.out)⟩⟩
        case round =>
          clear H'
          try clear c1
          try clear p2
          try clear c3
          try clear c8
          try clear c8b0
          try clear c9
          try clear hcz10_0
          try clear hcz10_1
          try clear hcz10_2
          try clear hcz10_3
          try clear hfz10_0
          try clear hfz10_1
          try clear hfz10_2
          try clear hfz10_3
          try clear p2
          obtain ⟨x9_2, x123002003_2, rfl, HA, HK2, HO_123002003, BK123001, BK123002, HK, HB⟩ := hrel
          have hl123002003_2 := (Kd.R_reads' HO_123002003.out).1
          rw [hl123002003_2] at HO_123002003
          (try simp only [hl123002003_2])
          (try simp only [hl123002003_2] at BK123001)
          (try simp only [hl123002003_2] at BK123002)
          cases gk with
          | zero => exact absurd HA.out (by simp [spec_paste.l1])
          | succ k2 =>
            have H := HA.out
            clear HA
            simp only [spec_paste.l1] at H
            by_cases c11 : x9_2 < a3_0
            · rw [if_pos c11] at H
              have c11b0 : decide (x9_2 < a3_0) = true := decide_eq_true c11
              clear c11
              replace H := Option.bind_eq_some_iff.mp H
              obtain ⟨t123003, A120, H⟩ := H
              replace H : (if t123003 = true then ((spec_pixelAt.f a3_0 a3_1 a3_2 l3_3 x9_2 x8_1).bind fun t123004 => ((spec_setPixel.f k2 a0_0 a0_1 a0_2 x123002003_2 (wrap64 (a1 + x9_2)) (wrap64 (a2 + x8_1)) t123004).bind fun t123007 => (spec_paste.l1 k2 a1 a2 x8_1 (wrap64 (x9_2 + 1)) a0_0 a0_1 a0_2 t123007 a3_0 a3_1 a3_2 l3_3))) else (spec_paste.l1 k2 a1 a2 x8_1 (wrap64 (x9_2 + 1)) a0_0 a0_1 a0_2 x123002003_2 a3_0 a3_1 a3_2 l3_3)) = some r := H
              have A12 := Aside0.mk A120
              clear A120
              by_cases c13 : t123003 = true
              · subst c13
                have H1 : ((spec_pixelAt.f a3_0 a3_1 a3_2 l3_3 x9_2 x8_1).bind fun t123004 => ((spec_setPixel.f k2 a0_0 a0_1 a0_2 x123002003_2 (wrap64 (a1 + x9_2)) (wrap64 (a2 + x8_1)) t123004).bind fun t123007 => (spec_paste.l1 k2 a1 a2 x8_1 (wrap64 (x9_2 + 1)) a0_0 a0_1 a0_2 t123007 a3_0 a3_1 a3_2 l3_3))) = some r := by rw [if_pos rfl] at H; exact H
                clear H
                have H := H1
                clear H1
                replace H := Option.bind_eq_some_iff.mp H
                obtain ⟨t123004, A140, H⟩ := H
                replace H : ((spec_setPixel.f k2 a0_0 a0_1 a0_2 x123002003_2 (wrap64 (a1 + x9_2)) (wrap64 (a2 + x8_1)) t123004).bind fun t123007 => (spec_paste.l1 k2 a1 a2 x8_1 (wrap64 (x9_2 + 1)) a0_0 a0_1 a0_2 t123007 a3_0 a3_1 a3_2 l3_3)) = some r := H
                have A14 := Aside0.mk A140
                clear A140
                replace H := Option.bind_eq_some_iff.mp H
                obtain ⟨t123007, A150, H⟩ := H
                replace H : (spec_paste.l1 k2 a1 a2 x8_1 (wrap64 (x9_2 + 1)) a0_0 a0_1 a0_2 t123007 a3_0 a3_1 a3_2 l3_3) = some r := H
                have A15 := Aside0.mk A150
                clear A150
                have H' := Aside0.mk H
                clear H
                have hnb16 := NB123002_123001.out
                have hnc16 := NB123001_123002.out
                have hcz17_0 : wr.cell? ⟨gb123002, 0, none⟩ = some (.int .i64 a3_0) := (blk_cell BK123002.out 0).trans rfl
                have hcz17_1 : wr.cell? ⟨gb123002, 1, none⟩ = some (.int .i64 a3_1) := (blk_cell BK123002.out 1).trans rfl
                have hcz17_2 : wr.cell? ⟨gb123002, 2, none⟩ = some (.int .i64 a3_2) := (blk_cell BK123002.out 2).trans rfl
                have hcz17_3 : wr.cell? ⟨gb123002, 3, none⟩ = some (.slice A3_3 l3_3.length c3_3) := (blk_cell BK123002.out 3).trans rfl
                have hfz17_0 := blk_frozen BK123002.out 0
                have hfz17_1 := blk_frozen BK123002.out 1
                have hfz17_2 := blk_frozen BK123002.out 2
                have hfz17_3 := blk_frozen BK123002.out 3
                have hcz18_0 : wr.cell? ⟨gb123001, 0, none⟩ = some (.int .i64 a0_0) := (blk_cell BK123001.out 0).trans rfl
                have hcz18_1 : wr.cell? ⟨gb123001, 1, none⟩ = some (.int .i64 a0_1) := (blk_cell BK123001.out 1).trans rfl
                have hcz18_2 : wr.cell? ⟨gb123001, 2, none⟩ = some (.int .i64 a0_2) := (blk_cell BK123001.out 2).trans rfl
                have hcz18_3 : wr.cell? ⟨gb123001, 3, none⟩ = some (.slice Ao5 x123002003_2.length co5) := (blk_cell BK123001.out 3).trans rfl
                have hfz18_0 := blk_frozen BK123001.out 0
                have hfz18_1 := blk_frozen BK123001.out 1
                have hfz18_2 := blk_frozen BK123001.out 2
                have hfz18_3 := blk_frozen BK123001.out 3
                try go_wp2_with (first | ((with_reducible refine gate_callee (f := 144) rfl ?_); refine goesL_ (some 29) rfl rfl Try.func144 (by kernel_rfl) rfl #[.agg #[.int .i64 a0_0, .int .i64 a0_1, .int .i64 a0_2, .slice Ao5 x123002003_2.length co5], .int .i64 (wrap64 (a1 + x9_2)), .int .i64 (wrap64 (a2 + x8_1))] rfl (by (try simp only [List.map_toArray, List.map_cons, List.map_nil]); first | done | rfl | (simp only [List.length_drop, List.length_take]; rfl)) ?_; (with_reducible refine (spec_onImage.calls a0_0 a0_1 a0_2 _ _ x123002003_2 (wrap64 (a1 + x9_2)) (wrap64 (a2 + x8_1)) true _ ?side1 ?side2 A12.out).mono ?_); (case side1 => repeat (first | exact (Kd.R_reads' HO_123002003.out).2.2 | (with_reducible refine Kd.C_alloc ?_ _) | (with_reducible refine Kd.C_drewN ?_ _) | (with_reducible refine Kd.C_drew ?_))); (case side2 => exact (Kd.R_reads' HO_123002003.out).2.1); rintro e w19 ⟨rfl, hb⟩; refine ⟨_, rfl, ?_⟩; have n0_ := Aside0.mk (Kd.R_below (by (with_reducible repeat (first | apply Kd.R_alloc | apply Kd.R_drewN | apply Kd.R_drew)); exact HO_123002003.out) hb); have n1_ := Aside0.mk (blk_below (g := gb123001) (o := .cells #[.int .i64 a0_0, .int .i64 a0_1, .int .i64 a0_2, .slice Ao5 x123002003_2.length co5] 27 (0, 0)) (by (with_reducible repeat (first | refine blk_drewN ?_ _ | refine blk_drew ?_ | refine blk_alloc ?_ _)); exact BK123001.out) hb); have n2_ := Aside0.mk (blk_below (g := gb123002) (o := .cells #[.int .i64 a3_0, .int .i64 a3_1, .int .i64 a3_2, .slice A3_3 l3_3.length c3_3] 27 (0, 0)) (by (with_reducible repeat (first | refine blk_drewN ?_ _ | refine blk_drew ?_ | refine blk_alloc ?_ _)); exact BK123002.out) hb); have n3_ := Aside0.mk (Kept.below (S := (fun k_ => P0_3_ k_)) (by repeat (first | (with_reducible first | exact HK.out | apply Kept.alloc | apply Kept.drewN | apply Kept.drew | refine Kept.setCell ?_ (.inr GW123001.out) _ | refine Kept.setCell ?_ (.inr GW123002.out) _) | exact HK.out)) hb); have n4_ := Aside0.mk (below_step (by repeat (first | (with_reducible first | exact HB.out | apply below_alloc | apply pw_below_drewN | apply below_drew1 | refine below_set ?_ GE123001.out | refine below_set ?_ GE123002.out) | exact HB.out)) hb); clear HO_123002003; clear BK123001; clear BK123002; clear HK; clear HB; have HO_123002003 := n0_; have BK123001 := n1_; have BK123002 := n2_; have HK := n3_; have HB := n4_; clear n0_ n1_ n2_ n3_ n4_; (try clear hb); (try clear hb2); (try clear hk); (try clear hi)))
                have n0_ := Aside0.mk (Kd.R_drew HO_123002003.out)
                have n1_ := Aside0.mk (blk_drew BK123001.out)
                have n2_ := Aside0.mk (blk_drew BK123002.out)
                have n3_ := Aside0.mk (Kept.drew HK.out)
                have n4_ := Aside0.mk (below_drew1 HB.out)
                clear HO_123002003
                clear BK123001
                clear BK123002
                clear HK
                clear HB
                have HO_123002003 := n0_
                have BK123001 := n1_
                have BK123002 := n2_
                have HK := n3_
                have HB := n4_
                clear n0_ n1_ n2_ n3_ n4_
                refine start_ (n := 12) (S := fun w' => w'.cell? ⟨gb123001, 0, none⟩ = some (.int .i64 a0_0) ∧ w'.cell? ⟨gb123001, 1, none⟩ = some (.int .i64 a0_1) ∧ w'.cell? ⟨gb123001, 2, none⟩ = some (.int .i64 a0_2) ∧ w'.cell? ⟨gb123001, 3, none⟩ = some (.slice Ao5 x123002003_2.length co5) ∧ w'.cell? ⟨gb123002, 0, none⟩ = some (.int .i64 a3_0) ∧ w'.cell? ⟨gb123002, 1, none⟩ = some (.int .i64 a3_1) ∧ w'.cell? ⟨gb123002, 2, none⟩ = some (.int .i64 a3_2) ∧ w'.cell? ⟨gb123002, 3, none⟩ = some (.slice A3_3 l3_3.length c3_3)) (ds := []) #[false, false, false, false, false, false, false, false, false, false, false, false] (by kernel_rfl) rfl rfl ⟨(blk_cell BK123001.out 0).trans rfl, (blk_cell BK123001.out 1).trans rfl, (blk_cell BK123001.out 2).trans rfl, (blk_cell BK123001.out 3).trans rfl, (blk_cell BK123002.out 0).trans rfl, (blk_cell BK123002.out 1).trans rfl, (blk_cell BK123002.out 2).trans rfl, (blk_cell BK123002.out 3).trans rfl⟩ (fun hHeld => ?_); refine with_tabW spec_paste.tab8 spec_paste.bits8 (fun HT_ HW_ => ?_)
                generalize w19.drew = w20 at HO_123002003 BK123001 BK123002 HK HB hHeld ⊢
                refine pure_ (i := 1) (N := some 31) (v := ?_) (a' := ?_) #[false, true, false, false, false, false, false, false, false, false, false, false] rfl rfl (any_of HT_.out (by kernel_rfl)) (fun _ _ _ h => h) (Or.inl ⟨by rfl, ?_⟩) ?_ ?_
                rotate_left
                · intro w'
                  go_simp
                  with_reducible rfl
                rotate_left
                · simp only [Act.put, List.setIfInBounds_toArray, List.set_cons_zero, List.set_cons_succ, i64_w, i32_w]
                  rfl
                refine pure_ (i := 2) (N := some 32) (v := ?_) (a' := ?_) #[false, true, true, false, false, false, false, false, false, false, false, false] rfl rfl (any_of HT_.out (by kernel_rfl)) (fun _ _ _ h => h) (Or.inl ⟨by rfl, ?_⟩) ?_ ?_
                rotate_left
                · intro w'
                  go_simp
                  with_reducible rfl
                rotate_left
                · simp only [Act.put, List.setIfInBounds_toArray, List.set_cons_zero, List.set_cons_succ, i64_w, i32_w]
                  rfl
                refine pure_ (i := 3) (N := some 33) (v := ?_) (a' := ?_) #[false, true, true, true, false, false, false, false, false, false, false, false] rfl rfl (any_of HT_.out (by kernel_rfl)) (fun _ _ _ h => h) (Or.inl ⟨by rfl, ?_⟩) ?_ ?_
                rotate_left
                · intro w'
                  go_simp
                  with_reducible rfl
                rotate_left
                · simp only [Act.put, List.setIfInBounds_toArray, List.set_cons_zero, List.set_cons_succ, i64_w, i32_w]
                  rfl
                refine pure_ (i := 4) (N := some 34) (v := ?_) (a' := ?_) #[false, true, true, true, true, false, false, false, false, false, false, false] rfl rfl (any_of HT_.out (by kernel_rfl)) (fun _ _ _ h => h) (Or.inl ⟨by rfl, ?_⟩) ?_ ?_
                rotate_left
                · intro w'
                  go_simp
                  with_reducible rfl
                rotate_left
                · simp only [Act.put, List.setIfInBounds_toArray, List.set_cons_zero, List.set_cons_succ, i64_w, i32_w]
                  rfl
                refine pure_ (i := 5) (N := some 35) (v := ?_) (a' := ?_) #[false, true, true, true, true, true, false, false, false, false, false, false] rfl rfl (any_of HT_.out (by kernel_rfl)) (fun _ _ _ h => h) (Or.inl ⟨by rfl, ?_⟩) ?_ ?_
                rotate_left
                · intro w'
                  go_simp
                  with_reducible rfl
                rotate_left
                · simp only [Act.put, List.setIfInBounds_toArray, List.set_cons_zero, List.set_cons_succ, i64_w, i32_w]
                  rfl
                refine pure_ (i := 6) (N := some 36) (v := ?_) (a' := ?_) #[false, true, true, true, true, true, true, false, false, false, false, false] rfl rfl (any_of HT_.out (by kernel_rfl)) (fun _ _ _ h => h) (Or.inl ⟨by rfl, ?_⟩) ?_ ?_
                rotate_left
                · intro w'
                  go_simp
                  with_reducible rfl
                rotate_left
                · simp only [Act.put, List.setIfInBounds_toArray, List.set_cons_zero, List.set_cons_succ, i64_w, i32_w]
                  rfl
                refine pure_ (i := 8) (N := some 38) (v := ?_) (a' := ?_) #[false, true, true, true, true, true, true, false, true, false, false, false] rfl rfl (any_of HT_.out (by kernel_rfl)) (fun _ _ _ h => h) (Or.inl ⟨by rfl, ?_⟩) ?_ ?_
                rotate_left
                · intro w'
                  go_simp
                  with_reducible rfl
                rotate_left
                · simp only [Act.put, List.setIfInBounds_toArray, List.set_cons_zero, List.set_cons_succ, i64_w, i32_w]
                  rfl
                refine pure_ (i := 9) (N := some 39) (v := ?_) (a' := ?_) #[false, true, true, true, true, true, true, false, true, true, false, false] rfl rfl (any_of HT_.out (by kernel_rfl)) (fun _ _ _ h => h) (Or.inl ⟨by rfl, ?_⟩) ?_ ?_
                rotate_left
                · intro w'
                  go_simp
                  with_reducible rfl
                rotate_left
                · simp only [Act.put, List.setIfInBounds_toArray, List.set_cons_zero, List.set_cons_succ, i64_w, i32_w]
                  rfl
                refine take_ (i := 0) (N := some 30) (v := ?_) (a' := ?_) #[true, true, true, true, true, true, true, false, true, true, false, false] rfl rfl (take_ofW HT_.out HW_.out (by kernel_rfl)) (fun _ _ _ h => h) (Or.inl ⟨by rfl, ?_⟩) hHeld ?_ ?_
                rotate_left
                · rintro w' ⟨s0, s1, s2, s3, s4, s5, s6, s7⟩
                  go_simp
                  with_reducible rfl
                rotate_left
                · simp only [Act.put, List.setIfInBounds_toArray, List.set_cons_zero, List.set_cons_succ, i64_w, i32_w]
                  rfl
                refine take_ (i := 7) (N := some 37) (v := ?_) (a' := ?_) #[true, true, true, true, true, true, true, true, true, true, false, false] rfl rfl (take_ofW HT_.out HW_.out (by kernel_rfl)) (fun _ _ _ h => h) (Or.inl ⟨by rfl, ?_⟩) hHeld ?_ ?_
                rotate_left
                · rintro w' ⟨s0, s1, s2, s3, s4, s5, s6, s7⟩
                  go_simp
                  with_reducible rfl
                rotate_left
                · simp only [Act.put, List.setIfInBounds_toArray, List.set_cons_zero, List.set_cons_succ, i64_w, i32_w]
                  rfl
                refine one_ (i := 10) (N := some 40) #[true, true, true, true, true, true, true, true, true, true, true, false] rfl rfl (one_of HT_.out (by kernel_rfl)) (by decide) (fun K hK => ?_)
                refine goes_ Try.func149 (by kernel_rfl) rfl #[.agg #[.int .i64 a3_0, .int .i64 a3_1, .int .i64 a3_2, .slice A3_3 l3_3.length c3_3], .int .i64 x9_2, .int .i64 x8_1] (by rfl) rfl rfl (by (try simp only [List.map_toArray, List.map_cons, List.map_nil]); first | done | rfl | (simp only [List.length_drop, List.length_take]; rfl)) ?_
                with_reducible refine (spec_pixelAt.calls a3_0 a3_1 a3_2 _ _ l3_3 x9_2 x8_1 t123004 _ ?side1 ?side2 A14.out).mono ?_
                (case side1 => exact Kd.C_kept_now HR3_3.out (by repeat (first | (with_reducible first | exact HK.out | apply Kept.alloc | apply Kept.drewN | apply Kept.drew | refine Kept.setCell ?_ (.inr GW123001.out) _ | refine Kept.setCell ?_ (.inr GW123002.out) _) | exact HK.out)))
                (case side2 => exact HC3_3.out)
                rintro e w21 ⟨v123005, rfl, ho0, hb⟩
                refine ⟨_, rfl, ?_⟩
                have n0_ := Aside0.mk (Kd.R_elder' (by (with_reducible repeat (first | apply Kd.R_alloc | apply Kd.R_drewN | apply Kd.R_drew)); exact HO_123002003.out) (Kd.R_base ho0) hb)
                have n1_ := Aside0.mk (Kd.R_lower (Kd.R_new' (Kd.R_newM (M := fun k_ => (P0_3_ k_ ∨ w.heap.size ≤ k_)) ho0 (by first | exact HK.out.1 | exact (show Kept w _ (fun k_ => P0_3_ k_) from by repeat (first | (with_reducible first | exact HK.out | apply Kept.alloc | apply Kept.drewN | apply Kept.drew | refine Kept.setCell ?_ (.inr GW123001.out) _ | refine Kept.setCell ?_ (.inr GW123002.out) _) | exact HK.out)).1) (fun k_ h_ => .inr h_)) (Kd.R_lt (by (with_reducible repeat (first | apply Kd.R_alloc | apply Kd.R_drewN | apply Kd.R_drew)); exact HO_123002003.out))) (below_size (by repeat (first | (with_reducible first | exact HB.out | apply below_alloc | apply pw_below_drewN | apply below_drew1 | refine below_set ?_ GE123001.out | refine below_set ?_ GE123002.out) | exact HB.out))))
                have n2_ := Aside0.mk (blk_below (g := gb123001) (o := .cells #[.int .i64 a0_0, .int .i64 a0_1, .int .i64 a0_2, .slice Ao5 x123002003_2.length co5] 27 (0, 0)) (by (with_reducible repeat (first | refine blk_drewN ?_ _ | refine blk_drew ?_ | refine blk_alloc ?_ _)); exact BK123001.out) hb)
                have n3_ := Aside0.mk (blk_below (g := gb123002) (o := .cells #[.int .i64 a3_0, .int .i64 a3_1, .int .i64 a3_2, .slice A3_3 l3_3.length c3_3] 27 (0, 0)) (by (with_reducible repeat (first | refine blk_drewN ?_ _ | refine blk_drew ?_ | refine blk_alloc ?_ _)); exact BK123002.out) hb)
                have n4_ := Aside0.mk (Kept.below (S := (fun k_ => P0_3_ k_)) (by repeat (first | (with_reducible first | exact HK.out | apply Kept.alloc | apply Kept.drewN | apply Kept.drew | refine Kept.setCell ?_ (.inr GW123001.out) _ | refine Kept.setCell ?_ (.inr GW123002.out) _) | exact HK.out)) hb)
                have n5_ := Aside0.mk (below_step (by repeat (first | (with_reducible first | exact HB.out | apply below_alloc | apply pw_below_drewN | apply below_drew1 | refine below_set ?_ GE123001.out | refine below_set ?_ GE123002.out) | exact HB.out)) hb)
                clear HO_123002003
                clear BK123001
                clear BK123002
                clear HK
                clear HB
                have HO_123002003 := n0_
                have HO123006 := n1_
                have BK123001 := n2_
                have BK123002 := n3_
                have HK := n4_
                have HB := n5_
                clear n0_ n1_ n2_ n3_ n4_ n5_
                (try clear hb)
                (try clear hb2)
                (try clear hk)
                (try clear hi)
                (try clear ho0)
                obtain ⟨Ao22, co22, eo22⟩ := Kd.R_slice HO123006.out
                (first | subst eo22 | (injection eo22 with f1_ f2_ f3_; have f4_ := f1_.symm; have f5_ := f3_.symm; clear f1_ f2_ f3_; subst f4_; subst f5_))
                refine hK.out _ _ ⟨(blk_cell BK123001.out 0).trans rfl, (blk_cell BK123001.out 1).trans rfl, (blk_cell BK123001.out 2).trans rfl, (blk_cell BK123001.out 3).trans rfl, (blk_cell BK123002.out 0).trans rfl, (blk_cell BK123002.out 1).trans rfl, (blk_cell BK123002.out 2).trans rfl, (blk_cell BK123002.out 3).trans rfl⟩ (fun hHeld => ?_)
                clear hK K
                refine norm_ (a' := ?_) ?_ ?_
                rotate_left
                · show Act.put _ (some 40) _ = _
                  simp only [Act.put, List.setIfInBounds_toArray, List.set_cons_zero, List.set_cons_succ, i64_w, i32_w]
                  rfl
                refine one_ (i := 11) (N := some 41) #[true, true, true, true, true, true, true, true, true, true, true, true] rfl rfl (one_of HT_.out (by kernel_rfl)) (by decide) (fun K hK => ?_)
                refine goes_ Try.func148 (by kernel_rfl) rfl #[.agg #[.int .i64 a0_0, .int .i64 a0_1, .int .i64 a0_2, .slice Ao5 x123002003_2.length co5], .int .i64 (wrap64 (a1 + x9_2)), .int .i64 (wrap64 (a2 + x8_1)), .slice Ao22 t123004.length co22] (by rfl) rfl rfl (by (try simp only [List.map_toArray, List.map_cons, List.map_nil]); first | done | rfl | (simp only [List.length_drop, List.length_take]; rfl)) ?_
                with_reducible refine (spec_setPixel.calls k2 a0_0 a0_1 a0_2 (fun k_ => some k_ = (.slice Ao5 x123002003_2.length co5 : Value).ownBlock) (.slice Ao5 x123002003_2.length co5) x123002003_2 (wrap64 (a1 + x9_2)) (wrap64 (a2 + x8_1)) _ _ t123004 t123007 w0 _ ?side1 ?side2 ?side3 ?side4 A15.out).mono ?_
                (case side1 => repeat (first | (with_reducible first | exact HB.out | apply below_alloc | apply pw_below_drewN | apply below_drew1 | refine below_set ?_ GE123001.out | refine below_set ?_ GE123002.out) | exact HB.out))
                (case side2 => exact Kd.R_tight rfl HO_123002003.out)
                (case side3 => exact Kd.C_kept_own (HO123006.out) (fun k_ hk_ hs_ => (hk_.2) hs_))
                (case side4 => exact (Kd.R_reads' HO123006.out).2.1)
                rintro e w23 ⟨rfl, hy0, hb, hkp⟩
                refine ⟨_, rfl, ?_⟩
                have n0_ := Aside0.mk (Kd.R_reok rfl hy0 (fun k_ e_ => HO_123002003.out.1 k_ e_))
                have n1_ := Aside0.mk (blk_kept (by (with_reducible repeat (first | refine blk_drewN ?_ _ | refine blk_drew ?_ | refine blk_alloc ?_ _)); exact BK123001.out) hkp (fun hs_ => (fun e_ => (Kd.R_ne HO_123002003.out BK123001.out (by decide)) e_) hs_))
                have n2_ := Aside0.mk (blk_kept (by (with_reducible repeat (first | refine blk_drewN ?_ _ | refine blk_drew ?_ | refine blk_alloc ?_ _)); exact BK123002.out) hkp (fun hs_ => (fun e_ => (Kd.R_ne HO_123002003.out BK123002.out (by decide)) e_) hs_))
                have n3_ := Aside0.mk (Kd.R_mono (ok' := fun k_ => (P0_3_ k_ ∨ w.heap.size ≤ k_) ∧ some k_ ≠ (.slice Ao5 x123002003_2.length co5 : Value).ownBlock) (Kd.R_keptB (HO123006.out) hkp (fun k_ hk_ hs_ => (hk_.2) hs_)) (fun k_ hk_ => ⟨hk_.1.1.1, hk_.1.2⟩))
                have n4_ := Aside0.mk (Kept.then_ (S := (fun k_ => P0_3_ k_)) (by repeat (first | (with_reducible first | exact HK.out | apply Kept.alloc | apply Kept.drewN | apply Kept.drew | refine Kept.setCell ?_ (.inr GW123001.out) _ | refine Kept.setCell ?_ (.inr GW123002.out) _) | exact HK.out)) hkp (fun k_ hs_ => (fun e_ => (HO_123002003.out.1 k_ e_.symm).1) hs_))
                have n5_ := Aside0.mk (hb)
                clear HO_123002003
                clear BK123001
                clear BK123002
                clear HO123006
                clear HK
                clear HB
                have HO_123002003 := n0_
                have BK123001 := n1_
                have BK123002 := n2_
                have HO123006 := n3_
                have HK := n4_
                have HB := n5_
                clear n0_ n1_ n2_ n3_ n4_ n5_
                (try clear hb)
                (try clear hkp)
                (try clear hy0)
                refine hK.out _ _ ⟨(blk_cell BK123001.out 0).trans rfl, (blk_cell BK123001.out 1).trans rfl, (blk_cell BK123001.out 2).trans rfl, (blk_cell BK123001.out 3).trans rfl, (blk_cell BK123002.out 0).trans rfl, (blk_cell BK123002.out 1).trans rfl, (blk_cell BK123002.out 2).trans rfl, (blk_cell BK123002.out 3).trans rfl⟩ (fun hHeld => ?_)
                clear hK K
                refine norm_ (a' := ?_) ?_ ?_
                rotate_left
                · show Act.put _ (some 41) _ = _
                  simp only [Act.put, List.setIfInBounds_toArray, List.set_cons_zero, List.set_cons_succ, i64_w, i32_w]
                  rfl
                refine done_ (done_of HT_.out (by kernel_rfl)) ?_
                try go_wp2
                (try simp only [← hl123002003_2])
                go_roundg k2
                case measure => have := HK1.out; have := HK2.out; omega
                case rel => exact ⟨(wrap64 (x9_2 + 1)), (t123007), (by first | rfl | (simp; done) | (simp [*]; done)), H', ⟨by have := HK1.out; have := HK2.out; omega⟩, ⟨by (try simp only [hl123002003_1]); (try simp only [hl123002003_2]); (with_reducible repeat (first | apply Kd.R_alloc | apply Kd.R_drewN | apply Kd.R_drew)); exact Kd.R_mono HO_123002003.out (fun _ hk => hk.1)⟩, ⟨by (try simp only [hl123002003_1]); (try simp only [hl123002003_2]); (with_reducible repeat (first | refine blk_drewN ?_ _ | refine blk_drew ?_ | refine blk_alloc ?_ _)); exact BK123001.out⟩, ⟨by (try simp only [hl123002003_1]); (try simp only [hl123002003_2]); (with_reducible repeat (first | refine blk_drewN ?_ _ | refine blk_drew ?_ | refine blk_alloc ?_ _)); exact BK123002.out⟩, ⟨by repeat (first | (with_reducible first | exact HK.out | apply Kept.alloc | apply Kept.drewN | apply Kept.drew | refine Kept.setCell ?_ (.inr GW123001.out) _ | refine Kept.setCell ?_ (.inr GW123002.out) _) | exact HK.out)⟩, ⟨by repeat (first | (with_reducible first | exact HB.out | apply below_alloc | apply pw_below_drewN | apply below_drew1 | refine below_set ?_ GE123001.out | refine below_set ?_ GE123002.out) | exact HB.out)⟩⟩
              · replace c13 := Bool.eq_false_iff.mpr c13
                subst c13
                have H1 : (spec_paste.l1 k2 a1 a2 x8_1 (wrap64 (x9_2 + 1)) a0_0 a0_1 a0_2 x123002003_2 a3_0 a3_1 a3_2 l3_3) = some r := by rw [if_neg (show ¬ (false = true) by decide)] at H; exact H
                clear H
                have H := H1
                clear H1
                have H' := Aside0.mk H
                clear H
                have hnb24 := NB123002_123001.out
                have hnc24 := NB123001_123002.out
                have hcz25_0 : wr.cell? ⟨gb123002, 0, none⟩ = some (.int .i64 a3_0) := (blk_cell BK123002.out 0).trans rfl
                have hcz25_1 : wr.cell? ⟨gb123002, 1, none⟩ = some (.int .i64 a3_1) := (blk_cell BK123002.out 1).trans rfl
                have hcz25_2 : wr.cell? ⟨gb123002, 2, none⟩ = some (.int .i64 a3_2) := (blk_cell BK123002.out 2).trans rfl
                have hcz25_3 : wr.cell? ⟨gb123002, 3, none⟩ = some (.slice A3_3 l3_3.length c3_3) := (blk_cell BK123002.out 3).trans rfl
                have hfz25_0 := blk_frozen BK123002.out 0
                have hfz25_1 := blk_frozen BK123002.out 1
                have hfz25_2 := blk_frozen BK123002.out 2
                have hfz25_3 := blk_frozen BK123002.out 3
                have hcz26_0 : wr.cell? ⟨gb123001, 0, none⟩ = some (.int .i64 a0_0) := (blk_cell BK123001.out 0).trans rfl
                have hcz26_1 : wr.cell? ⟨gb123001, 1, none⟩ = some (.int .i64 a0_1) := (blk_cell BK123001.out 1).trans rfl
                have hcz26_2 : wr.cell? ⟨gb123001, 2, none⟩ = some (.int .i64 a0_2) := (blk_cell BK123001.out 2).trans rfl
                have hcz26_3 : wr.cell? ⟨gb123001, 3, none⟩ = some (.slice Ao5 x123002003_2.length co5) := (blk_cell BK123001.out 3).trans rfl
                have hfz26_0 := blk_frozen BK123001.out 0
                have hfz26_1 := blk_frozen BK123001.out 1
                have hfz26_2 := blk_frozen BK123001.out 2
                have hfz26_3 := blk_frozen BK123001.out 3
                go_wp2_with (first | ((with_reducible refine gate_callee (f := 144) rfl ?_); refine goesL_ (some 29) rfl rfl Try.func144 (by kernel_rfl) rfl #[.agg #[.int .i64 a0_0, .int .i64 a0_1, .int .i64 a0_2, .slice Ao5 x123002003_2.length co5], .int .i64 (wrap64 (a1 + x9_2)), .int .i64 (wrap64 (a2 + x8_1))] rfl (by (try simp only [List.map_toArray, List.map_cons, List.map_nil]); first | done | rfl | (simp only [List.length_drop, List.length_take]; rfl)) ?_; (with_reducible refine (spec_onImage.calls a0_0 a0_1 a0_2 _ _ x123002003_2 (wrap64 (a1 + x9_2)) (wrap64 (a2 + x8_1)) false _ ?side1 ?side2 A12.out).mono ?_); (case side1 => repeat (first | exact (Kd.R_reads' HO_123002003.out).2.2 | (with_reducible refine Kd.C_alloc ?_ _) | (with_reducible refine Kd.C_drewN ?_ _) | (with_reducible refine Kd.C_drew ?_))); (case side2 => exact (Kd.R_reads' HO_123002003.out).2.1); rintro e w27 ⟨rfl, hb⟩; refine ⟨_, rfl, ?_⟩; have n0_ := Aside0.mk (Kd.R_below (by (with_reducible repeat (first | apply Kd.R_alloc | apply Kd.R_drewN | apply Kd.R_drew)); exact HO_123002003.out) hb); have n1_ := Aside0.mk (blk_below (g := gb123001) (o := .cells #[.int .i64 a0_0, .int .i64 a0_1, .int .i64 a0_2, .slice Ao5 x123002003_2.length co5] 27 (0, 0)) (by (with_reducible repeat (first | refine blk_drewN ?_ _ | refine blk_drew ?_ | refine blk_alloc ?_ _)); exact BK123001.out) hb); have n2_ := Aside0.mk (blk_below (g := gb123002) (o := .cells #[.int .i64 a3_0, .int .i64 a3_1, .int .i64 a3_2, .slice A3_3 l3_3.length c3_3] 27 (0, 0)) (by (with_reducible repeat (first | refine blk_drewN ?_ _ | refine blk_drew ?_ | refine blk_alloc ?_ _)); exact BK123002.out) hb); have n3_ := Aside0.mk (Kept.below (S := (fun k_ => P0_3_ k_)) (by repeat (first | (with_reducible first | exact HK.out | apply Kept.alloc | apply Kept.drewN | apply Kept.drew | refine Kept.setCell ?_ (.inr GW123001.out) _ | refine Kept.setCell ?_ (.inr GW123002.out) _) | exact HK.out)) hb); have n4_ := Aside0.mk (below_step (by repeat (first | (with_reducible first | exact HB.out | apply below_alloc | apply pw_below_drewN | apply below_drew1 | refine below_set ?_ GE123001.out | refine below_set ?_ GE123002.out) | exact HB.out)) hb); clear HO_123002003; clear BK123001; clear BK123002; clear HK; clear HB; have HO_123002003 := n0_; have BK123001 := n1_; have BK123002 := n2_; have HK := n3_; have HB := n4_; clear n0_ n1_ n2_ n3_ n4_; (try clear hb); (try clear hb2); (try clear hk); (try clear hi)))
                (try simp only [← hl123002003_2])
                go_roundg k2
                case measure => have := HK1.out; have := HK2.out; omega
                case rel => exact ⟨(wrap64 (x9_2 + 1)), (x123002003_2), (by first | rfl | (simp; done) | (simp [*]; done)), H', ⟨by have := HK1.out; have := HK2.out; omega⟩, ⟨by (try simp only [hl123002003_1]); (try simp only [hl123002003_2]); (with_reducible repeat (first | apply Kd.R_alloc | apply Kd.R_drewN | apply Kd.R_drew)); exact HO_123002003.out⟩, ⟨by (try simp only [hl123002003_1]); (try simp only [hl123002003_2]); (with_reducible repeat (first | refine blk_drewN ?_ _ | refine blk_drew ?_ | refine blk_alloc ?_ _)); exact BK123001.out⟩, ⟨by (try simp only [hl123002003_1]); (try simp only [hl123002003_2]); (with_reducible repeat (first | refine blk_drewN ?_ _ | refine blk_drew ?_ | refine blk_alloc ?_ _)); exact BK123002.out⟩, ⟨by repeat (first | (with_reducible first | exact HK.out | apply Kept.alloc | apply Kept.drewN | apply Kept.drew | refine Kept.setCell ?_ (.inr GW123001.out) _ | refine Kept.setCell ?_ (.inr GW123002.out) _) | exact HK.out)⟩, ⟨by repeat (first | (with_reducible first | exact HB.out | apply below_alloc | apply pw_below_drewN | apply below_drew1 | refine below_set ?_ GE123001.out | refine below_set ?_ GE123002.out) | exact HB.out)⟩⟩
            · rw [if_neg c11] at H
              have c11b0 : decide (x9_2 < a3_0) = false := decide_eq_false c11
              clear c11
              have H' := Aside0.mk H
              clear H
              have hnb28 := NB123002_123001.out
              have hnc28 := NB123001_123002.out
              have hcz29_0 : wr.cell? ⟨gb123002, 0, none⟩ = some (.int .i64 a3_0) := (blk_cell BK123002.out 0).trans rfl
              have hcz29_1 : wr.cell? ⟨gb123002, 1, none⟩ = some (.int .i64 a3_1) := (blk_cell BK123002.out 1).trans rfl
              have hcz29_2 : wr.cell? ⟨gb123002, 2, none⟩ = some (.int .i64 a3_2) := (blk_cell BK123002.out 2).trans rfl
              have hcz29_3 : wr.cell? ⟨gb123002, 3, none⟩ = some (.slice A3_3 l3_3.length c3_3) := (blk_cell BK123002.out 3).trans rfl
              have hfz29_0 := blk_frozen BK123002.out 0
              have hfz29_1 := blk_frozen BK123002.out 1
              have hfz29_2 := blk_frozen BK123002.out 2
              have hfz29_3 := blk_frozen BK123002.out 3
              go_wp2
              (try simp only [← hl123002003_1, ← hl123002003_2])
              go_roundg k2
              case measure => have := HK1.out; have := HK2.out; omega
              case rel => exact ⟨(wrap64 (x8_1 + 1)), (x123002003_2), (by first | rfl | (simp; done) | (simp [*]; done)), H', ⟨by have := HK1.out; have := HK2.out; omega⟩, ⟨by (try simp only [hl123002003_1]); (try simp only [hl123002003_2]); (with_reducible repeat (first | apply Kd.R_alloc | apply Kd.R_drewN | apply Kd.R_drew)); exact HO_123002003.out⟩, ⟨by (try simp only [hl123002003_1]); (try simp only [hl123002003_2]); (with_reducible repeat (first | refine blk_drewN ?_ _ | refine blk_drew ?_ | refine blk_alloc ?_ _)); exact BK123001.out⟩, ⟨by (try simp only [hl123002003_1]); (try simp only [hl123002003_2]); (with_reducible repeat (first | refine blk_drewN ?_ _ | refine blk_drew ?_ | refine blk_alloc ?_ _)); exact BK123002.out⟩, ⟨by repeat (first | (with_reducible first | exact HK.out | apply Kept.alloc | apply Kept.drewN | apply Kept.drew | refine Kept.setCell ?_ (.inr GW123001.out) _ | refine Kept.setCell ?_ (.inr GW123002.out) _) | exact HK.out)⟩, ⟨by repeat (first | (with_reducible first | exact HB.out | apply below_alloc | apply pw_below_drewN | apply below_drew1 | refine below_set ?_ GE123001.out | refine below_set ?_ GE123002.out) | exact HB.out)⟩⟩
      · rw [if_neg c8] at H
        have c8b0 : decide (x8_1 < a3_1) = false := decide_eq_false c8
        clear c8
        obtain rfl := Option.some.inj H
        have hnb30 := NB123002_123001.out
        have hnc30 := NB123001_123002.out
        have hcz31_0 : wr.cell? ⟨gb123002, 0, none⟩ = some (.int .i64 a3_0) := (blk_cell BK123002.out 0).trans rfl
        have hcz31_1 : wr.cell? ⟨gb123002, 1, none⟩ = some (.int .i64 a3_1) := (blk_cell BK123002.out 1).trans rfl
        have hcz31_2 : wr.cell? ⟨gb123002, 2, none⟩ = some (.int .i64 a3_2) := (blk_cell BK123002.out 2).trans rfl
        have hcz31_3 : wr.cell? ⟨gb123002, 3, none⟩ = some (.slice A3_3 l3_3.length c3_3) := (blk_cell BK123002.out 3).trans rfl
        have hfz31_0 := blk_frozen BK123002.out 0
        have hfz31_1 := blk_frozen BK123002.out 1
        have hfz31_2 := blk_frozen BK123002.out 2
        have hfz31_3 := blk_frozen BK123002.out 3
        go_wp2
        first | go_end0 | ((try simp only [Exit.inBlock, Exit.then]); refine bodyPost_ret (results_none rfl _ _ _) rfl ?_)
        exact ⟨by first | rfl | (simp [errW_none, errW_some] <;> rfl) | (simp [*, errW_none, errW_some] <;> rfl), (by first | exact (by (with_reducible repeat (first | apply Kd.R_alloc | apply Kd.R_drewN | apply Kd.R_drew)); exact HO_123002003.out) | (simp only [hl123002003_1]; exact (by (with_reducible repeat (first | apply Kd.R_alloc | apply Kd.R_drewN | apply Kd.R_drew)); exact HO_123002003.out))), by repeat (first | (with_reducible first | exact HB.out | apply below_alloc | apply pw_below_drewN | apply below_drew1 | refine below_set ?_ GE123001.out | refine below_set ?_ GE123002.out) | exact HB.out), by repeat (first | (with_reducible first | exact HK.out | apply Kept.alloc | apply Kept.drewN | apply Kept.drew | refine Kept.setCell ?_ (.inr GW123001.out) _ | refine Kept.setCell ?_ (.inr GW123002.out) _) | exact HK.out)⟩


def spec_newImage.f (a0 : Int) (a1 : Int) (a2 : Int) : Option (Int × Int × Int × List Int) := if 0 ≤ (wrap64 ((wrap64 (a0 * a1)) * a2)) then (if (wrap64 ((wrap64 (a0 * a1)) * a2) : Int).toNat ≤ 35184372088832 then (some (a0, a1, a2, (List.replicate (wrap64 ((wrap64 (a0 * a1)) * a2) : Int).toNat 0))) else (none)) else (none)
set_option maxHeartbeats 8000000 in
set_option maxRecDepth 100000 in
theorem spec_newImage.calls (a0 : Int) (a1 : Int) (a2 : Int) (r1 : Int) (r2 : Int) (r3 : Int) (r4 : List Int) (w : World) (h : spec_newImage.f a0 a1 a2 = some (r1, r2, r3, r4)) :
    Calls Try.prog 111 #[.int .i64 a0, .int .i64 a1, .int .i64 a2] w fun e w' => ∃ v3_ : Value, e = .returned (.agg #[.int .i64 r1, .int .i64 r2, .int .i64 r3, v3_]) ∧ Kd.R (Kd.int .i64) 3 w' w.heap.size (fun _ => True) v3_ r4 ∧ Below w.heap.size w w' := by
  have hu27 := Try.underlying27
  have HB := Aside0.mk (Below.refl w.heap.size w)
  have H : (if 0 ≤ (wrap64 ((wrap64 (a0 * a1)) * a2)) then (if (wrap64 ((wrap64 (a0 * a1)) * a2) : Int).toNat ≤ 35184372088832 then (some (a0, a1, a2, (List.replicate (wrap64 ((wrap64 (a0 * a1)) * a2) : Int).toNat 0))) else (none)) else (none)) = some (r1, r2, r3, r4) := h
  clear h
  obtain ⟨ji4, hji4⟩ : ∃ j_ : Int, (wrap64 ((wrap64 (a0 * a1)) * a2)) = j_ := ⟨_, rfl⟩
  replace H : (if 0 ≤ (ji4) then (if (ji4 : Int).toNat ≤ 35184372088832 then (some (a0, a1, a2, (List.replicate (ji4 : Int).toNat 0))) else (none)) else (none)) = some (r1, r2, r3, r4) := by first | (rw [hji4] at H; exact H) | (simp only [hji4] at H ⊢; exact H)
  have hji4w : (IntKind.i64.wrap ((wrap64 (a0 * a1)) * a2)) = ji4 := (i64_w _).trans hji4
  by_cases c5 : 0 ≤ (ji4)
  · rw [if_pos c5] at H
    have c5b0 := eq_true c5
    have c5b1 : decide (0 ≤ (ji4)) = true := decide_eq_true c5
    clear c5
    by_cases c6 : (ji4 : Int).toNat ≤ 35184372088832
    · rw [if_pos c6] at H
      have c6b0 := eq_true c6
      have c6b1 : decide ((ji4 : Int).toNat ≤ 35184372088832) = true := decide_eq_true c6
      clear c6
      obtain ⟨y112002, hy112002⟩ : ∃ y_ : List Int, y_ = (List.replicate (ji4 : Int).toNat 0) := ⟨_, rfl⟩
      replace H : (some (a0, a1, a2, y112002)) = some (r1, r2, r3, r4) := by first | (rw [hy112002]; with_reducible exact H) | (have H2_ := (Option.bind_some _ _).symm.trans H; rw [hy112002]; with_reducible exact H2_) | (have H2_ := (Option.bind_some _ _).symm.trans H; with_reducible exact H2_) | with_reducible exact H | (rw [hy112002]; exact H) | exact H
      have Ny112002 := Aside0.mk hy112002
      clear hy112002
      simp only [Option.some.injEq, Prod.mk.injEq] at H
      obtain ⟨rfl, rfl, rfl, rfl⟩ := H
      go_enter Try.func111, Try.ntmps111
      go_wp2_with (first | ((with_reducible refine gate_dst (N := 6) rfl ?_); refine box_event ?hg (N := 6) ?hd (cs := #[.int .i64 0, .int .i64 0, .int .i64 0, .slice none 0 0]) (t := 27) ?hr ?_; (case hd => rfl); (case hg => rfl); (case hr => first | (go_simp; done) | (go_simp; rfl)); intro gb112001 hg w7 hbox hb; have n0_ := Aside0.mk (below_step (by repeat (first | (with_reducible first | exact HB.out | apply below_alloc | apply pw_below_drewN | apply below_drew1) | exact HB.out)) hb); have n1_ := Aside0.mk (hbox); have n2_ := Aside0.mk ((by rw [hg]; exact (below_size (by repeat (first | (with_reducible first | exact HB.out | apply below_alloc | apply pw_below_drewN | apply below_drew1) | exact HB.out))) : w.heap.size ≤ gb112001)); have n3_ := Aside0.mk ((by rw [hg]; exact (below_size (by repeat (first | (with_reducible first | exact HB.out | apply below_alloc | apply pw_below_drewN | apply below_drew1) | exact HB.out))) : w.heap.size ≤ gb112001)); clear HB; have HB := n0_; have BK112001 := n1_; have GW112001 := n2_; have GE112001 := n3_; clear n0_ n1_ n2_ n3_; clear hb hbox hg) | ((with_reducible refine gate_dst (N := 15) rfl ?_); refine Kd.R_make (Kd.int .i64) _ 3 rfl (N := 15) rfl 22 _ _ rfl ji4 rfl rfl Try.underlying22 (.int .i64 0) 8 info3 rfl (by decide) (by omega) 0 (ok := fun _ => True) (okp := fun _ => True) rfl (fun _ hk => hk) trivial (of_decide_eq_true (by first | (with_reducible assumption) | assumption)) (Nat.le_trans (Nat.mul_le_mul_right _ (of_decide_eq_true (by first | (with_reducible assumption) | assumption) : ji4.toNat ≤ 35184372088832)) (by omega)) (Below.refl _ _) (Nat.le_refl _) ?_; intro v112003 w8 ho9 hb hg_ hnew_; clear hg_ hnew_; (first | rw [← Ny112002.out] at ho9 | (simp only [Int.reduceToNat] at ho9; rw [← Ny112002.out] at ho9)); have n0_ := Aside0.mk (Kd.R_lower ho9 (below_size (by repeat (first | (with_reducible first | exact HB.out | apply below_alloc | apply pw_below_drewN | apply below_drew1 | refine below_set ?_ GE112001.out) | exact HB.out)))); have n1_ := Aside0.mk (blk_below (g := gb112001) (o := .cells #[.int .i64 0, .int .i64 0, .int .i64 0, .slice none 0 0] 27 (0, 0)) (by (with_reducible repeat (first | refine blk_drewN ?_ _ | refine blk_drew ?_ | refine blk_alloc ?_ _)); exact BK112001.out) hb); have n2_ := Aside0.mk (below_step (by repeat (first | (with_reducible first | exact HB.out | apply below_alloc | apply pw_below_drewN | apply below_drew1 | refine below_set ?_ GE112001.out) | exact HB.out)) hb); clear BK112001; clear HB; have HO112004 := n0_; have BK112001 := n1_; have HB := n2_; clear n0_ n1_ n2_; clear hb ho9; obtain ⟨Ao10, co10, eo10⟩ := Kd.R_slice HO112004.out; subst eo10; have hcz11_0 : w8.cell? ⟨gb112001, 0, none⟩ = some (.int .i64 0) := (blk_cell BK112001.out 0).trans rfl; have hcz11_1 : w8.cell? ⟨gb112001, 1, none⟩ = some (.int .i64 0) := (blk_cell BK112001.out 1).trans rfl; have hcz11_2 : w8.cell? ⟨gb112001, 2, none⟩ = some (.int .i64 0) := (blk_cell BK112001.out 2).trans rfl; have hcz11_3 : w8.cell? ⟨gb112001, 3, none⟩ = some (.slice none 0 0) := (blk_cell BK112001.out 3).trans rfl; have hfz11_0 := blk_frozen BK112001.out 0; have hfz11_1 := blk_frozen BK112001.out 1; have hfz11_2 := blk_frozen BK112001.out 2; have hfz11_3 := blk_frozen BK112001.out 3))
      refine bodyPost_ret (results_cell_row rfl _ _ gb112001 27 #[.int .i64 a0, .int .i64 a1, .int .i64 a2, .slice Ao10 y112002.length co10] (0, 0) _ rfl (by (with_reducible repeat (first | refine blk_drewN ?_ _ | refine blk_drew ?_ | refine blk_alloc ?_ _)); refine blk_put (cs := #[.int .i64 a0, .int .i64 a1, .int .i64 a2, .slice none 0 0]) ?_ 3 _ rfl; (with_reducible repeat (first | refine blk_drewN ?_ _ | refine blk_drew ?_ | refine blk_alloc ?_ _)); refine blk_put (cs := #[.int .i64 a0, .int .i64 a1, .int .i64 0, .slice none 0 0]) ?_ 2 _ rfl; (with_reducible repeat (first | refine blk_drewN ?_ _ | refine blk_drew ?_ | refine blk_alloc ?_ _)); refine blk_put (cs := #[.int .i64 a0, .int .i64 0, .int .i64 0, .slice none 0 0]) ?_ 1 _ rfl; (with_reducible repeat (first | refine blk_drewN ?_ _ | refine blk_drew ?_ | refine blk_alloc ?_ _)); refine blk_put (cs := #[.int .i64 0, .int .i64 0, .int .i64 0, .slice none 0 0]) ?_ 0 _ rfl; (with_reducible repeat (first | refine blk_drewN ?_ _ | refine blk_drew ?_ | refine blk_alloc ?_ _)); exact BK112001.out) Try.underlying27 rfl (by kernel_rfl)) rfl ?_
      exact ⟨_, by first | rfl | (simp [errW_none, errW_some] <;> rfl) | (simp only [← hji4]; first | rfl | (simp [errW_none, errW_some] <;> rfl)) | (simp [*, errW_none, errW_some] <;> rfl), by (with_reducible repeat (first | apply Kd.R_alloc | apply Kd.R_drewN | apply Kd.R_drew)); exact Kd.R_mono (Kd.R_far (p := ⟨gb112001, 3, none⟩) (Kd.R_far (p := ⟨gb112001, 2, none⟩) (Kd.R_far (p := ⟨gb112001, 1, none⟩) (Kd.R_far (p := ⟨gb112001, 0, none⟩) (Kd.R_types HO112004.out BK112001.out (by decide)) (fun _ hk => hk.2) (.int .i64 a0)) (fun _ hk => hk.2) (.int .i64 a1)) (fun _ hk => hk.2) (.int .i64 a2)) (fun _ hk => hk.2) (.slice Ao10 y112002.length co10)) (fun _ hk => trivial), by repeat (first | (with_reducible first | exact HB.out | apply below_alloc | apply pw_below_drewN | apply below_drew1 | refine below_set ?_ GE112001.out) | exact HB.out)⟩
    · rw [if_neg c6] at H
      exact absurd H (by simp)
  · rw [if_neg c5] at H
    exact absurd H (by simp)


mutual
def spec_crop.l0 : Nat → Int → Int → Int → Int → Int → Int → Int → Int → List Int → Int → Int → Int → List Int → Option (Int × Int × Int × List Int)
  | 0, _, _, _, _, _, _, _, _, _, _, _, _, _ => none
  | k + 1, x1, x2, x3, x4, x12, x124002000, x124002001, x124002002, x124002003, x124010000, x124010001, x124010002, x124010003 => if x12 < x4 then (spec_crop.l1 k x1 x2 x3 x4 x12 0 x124002000 x124002001 x124002002 x124002003 x124010000 x124010001 x124010002 x124010003) else (some (x124010000, x124010001, x124010002, x124010003))
def spec_crop.l1 : Nat → Int → Int → Int → Int → Int → Int → Int → Int → Int → List Int → Int → Int → Int → List Int → Option (Int × Int × Int × List Int)
  | 0, _, _, _, _, _, _, _, _, _, _, _, _, _, _ => none
  | k + 1, x1, x2, x3, x4, x12, x13, x124002000, x124002001, x124002002, x124002003, x124010000, x124010001, x124010002, x124010003 => if x13 < x3 then ((spec_pixelAt.f x124002000 x124002001 x124002002 x124002003 (wrap64 (x1 + x13)) (wrap64 (x2 + x12))).bind fun t124010 => ((spec_setPixel.f k x124010000 x124010001 x124010002 x124010003 x13 x12 t124010).bind fun t124013 => (spec_crop.l1 k x1 x2 x3 x4 x12 (wrap64 (x13 + 1)) x124002000 x124002001 x124002002 x124002003 x124010000 x124010001 x124010002 t124013))) else (spec_crop.l0 k x1 x2 x3 x4 (wrap64 (x12 + 1)) x124002000 x124002001 x124002002 x124002003 x124010000 x124010001 x124010002 x124010003)
end
def spec_crop.f (k : Nat) (a0_0 : Int) (a0_1 : Int) (a0_2 : Int) (l0_3 : List Int) (a1 : Int) (a2 : Int) (a3 : Int) (a4 : Int) : Option (Int × Int × Int × List Int) := (spec_newImage.f a3 a4 a0_2).bind fun bt124003 => (spec_crop.l0 k a1 a2 a3 a4 0 a0_0 a0_1 a0_2 l0_3 bt124003.1 bt124003.2.1 bt124003.2.2.1 bt124003.2.2.2)
theorem spec_crop.mono_l : ∀ k, (∀ y0 y1 y2 y3 y4 y5 y6 y7 y8 y9 y10 y11 y12, LeO (spec_crop.l0 k y0 y1 y2 y3 y4 y5 y6 y7 y8 y9 y10 y11 y12) (spec_crop.l0 (k + 1) y0 y1 y2 y3 y4 y5 y6 y7 y8 y9 y10 y11 y12)) ∧ (∀ y0 y1 y2 y3 y4 y5 y6 y7 y8 y9 y10 y11 y12 y13, LeO (spec_crop.l1 k y0 y1 y2 y3 y4 y5 y6 y7 y8 y9 y10 y11 y12 y13) (spec_crop.l1 (k + 1) y0 y1 y2 y3 y4 y5 y6 y7 y8 y9 y10 y11 y12 y13))
  | 0 => ⟨fun _ _ _ _ _ _ _ _ _ _ _ _ _ r h => by simp [spec_crop.l0] at h, fun _ _ _ _ _ _ _ _ _ _ _ _ _ _ r h => by simp [spec_crop.l1] at h⟩
  | k + 1 => by
    obtain ⟨ih0, ih1⟩ := spec_crop.mono_l k
    refine ⟨?_, ?_⟩
    · intro y0 y1 y2 y3 y4 y5 y6 y7 y8 y9 y10 y11 y12
      unfold spec_crop.l0
      repeat' first
      | (with_reducible exact ih0 _ _ _ _ _ _ _ _ _ _ _ _ _)
      | (with_reducible exact ih1 _ _ _ _ _ _ _ _ _ _ _ _ _ _)
      | (with_reducible exact spec_setPixel.mono _ _ _ _ _ _ _ _)
      | (with_reducible exact LeO.refl _)
      | (with_reducible exact LeO.none _)
      | (with_reducible refine LeO.ite ?_ ?_)
      | (with_reducible refine LeO.bind ?_ (fun _ => ?_))
      | exact ih0 _ _ _ _ _ _ _ _ _ _ _ _ _
      | exact ih1 _ _ _ _ _ _ _ _ _ _ _ _ _ _
      | exact spec_setPixel.mono _ _ _ _ _ _ _ _
      | exact LeO.none _
      | refine LeO.ite ?_ ?_
      | refine LeO.bind ?_ (fun _ => ?_)
    · intro y0 y1 y2 y3 y4 y5 y6 y7 y8 y9 y10 y11 y12 y13
      unfold spec_crop.l1
      repeat' first
      | (with_reducible exact ih0 _ _ _ _ _ _ _ _ _ _ _ _ _)
      | (with_reducible exact ih1 _ _ _ _ _ _ _ _ _ _ _ _ _ _)
      | (with_reducible exact spec_setPixel.mono _ _ _ _ _ _ _ _)
      | (with_reducible exact LeO.refl _)
      | (with_reducible exact LeO.none _)
      | (with_reducible refine LeO.ite ?_ ?_)
      | (with_reducible refine LeO.bind ?_ (fun _ => ?_))
      | exact ih0 _ _ _ _ _ _ _ _ _ _ _ _ _
      | exact ih1 _ _ _ _ _ _ _ _ _ _ _ _ _ _
      | exact spec_setPixel.mono _ _ _ _ _ _ _ _
      | exact LeO.none _
      | refine LeO.ite ?_ ?_
      | refine LeO.bind ?_ (fun _ => ?_)
theorem spec_crop.mono : ∀ a0 a1 a2 a3 a4 a5 a6 a7 k, LeO (spec_crop.f k a0 a1 a2 a3 a4 a5 a6 a7) (spec_crop.f (k + 1) a0 a1 a2 a3 a4 a5 a6 a7) := by
  intro a0 a1 a2 a3 a4 a5 a6 a7 k
  obtain ⟨ih0, ih1⟩ := spec_crop.mono_l k
  unfold spec_crop.f
  repeat' first
      | (with_reducible exact ih0 _ _ _ _ _ _ _ _ _ _ _ _ _)
      | (with_reducible exact ih1 _ _ _ _ _ _ _ _ _ _ _ _ _ _)
      | (with_reducible exact spec_setPixel.mono _ _ _ _ _ _ _ _)
      | (with_reducible exact LeO.refl _)
      | (with_reducible exact LeO.none _)
      | (with_reducible refine LeO.ite ?_ ?_)
      | (with_reducible refine LeO.bind ?_ (fun _ => ?_))
      | exact ih0 _ _ _ _ _ _ _ _ _ _ _ _ _
      | exact ih1 _ _ _ _ _ _ _ _ _ _ _ _ _ _
      | exact spec_setPixel.mono _ _ _ _ _ _ _ _
      | exact LeO.none _
      | refine LeO.ite ?_ ?_
      | refine LeO.bind ?_ (fun _ => ?_)
def spec_crop.T8 : Bool × List (List Nat × List Nat) := (true, [([], []), ([], []), ([], []), ([], []), ([], []), ([], []), ([4, 5], [4, 5]), ([], []), ([], []), ([7, 8], [7, 8]), ([3, 6, 9], [3, 6, 9]), ([0, 1, 2, 10, 10], [0, 1, 2, 10])])
def spec_crop.B8 : List Nat := [0, 0, 0, 0, 0, 0, 48, 0, 0, 384, 1016, 2047]
theorem spec_crop.tab8 : rtab .any (opsOf Try.f123 8) = spec_crop.T8 := by kernel_rfl
theorem spec_crop.bits8 : waitsOk spec_crop.T8.2 spec_crop.B8 = true := by kernel_rfl
set_option maxHeartbeats 8000000 in
set_option maxRecDepth 100000 in
theorem spec_crop.calls (k : Nat) (a0_0 : Int) (a0_1 : Int) (a0_2 : Int) (A0_3 : Option Addr) (c0_3 : Nat) (l0_3 : List Int) (a1 : Int) (a2 : Int) (a3 : Int) (a4 : Int) (r1 : Int) (r2 : Int) (r3 : Int) (r4 : List Int) (w : World) (hr0_3 : Kd.C (Kd.int .i64) w A0_3 l0_3.length l0_3) (hc0_3 : l0_3.length ≤ c0_3) (h : spec_crop.f k a0_0 a0_1 a0_2 l0_3 a1 a2 a3 a4 = some (r1, r2, r3, r4)) :
    Calls Try.prog 123 #[.agg #[.int .i64 a0_0, .int .i64 a0_1, .int .i64 a0_2, .slice A0_3 l0_3.length c0_3], .int .i64 a1, .int .i64 a2, .int .i64 a3, .int .i64 a4] w fun e w' => ∃ v3_ : Value, e = .returned (.agg #[.int .i64 r1, .int .i64 r2, .int .i64 r3, v3_]) ∧ Kd.R (Kd.int .i64) 3 w' w.heap.size (fun _ => True) v3_ r4 ∧ Below w.heap.size w w' := by
  have hu27 := Try.underlying27
  have HR0_3 := Aside0.mk hr0_3
  have HC0_3 := Aside0.mk hc0_3
  clear hr0_3 hc0_3
  have HB := Aside0.mk (Below.refl w.heap.size w)
  have H : ((spec_newImage.f a3 a4 a0_2).bind fun bt124003 => (spec_crop.l0 k a1 a2 a3 a4 0 a0_0 a0_1 a0_2 l0_3 bt124003.1 bt124003.2.1 bt124003.2.2.1 bt124003.2.2.2)) = some (r1, r2, r3, r4) := h
  clear h
  replace H := Option.bind_eq_some_iff.mp H
  obtain ⟨⟨t124003, t124004, t124005, t124006⟩, A60, H⟩ := H
  replace H : (spec_crop.l0 k a1 a2 a3 a4 0 a0_0 a0_1 a0_2 l0_3 t124003 t124004 t124005 t124006) = some (r1, r2, r3, r4) := H
  have A6 := Aside0.mk A60
  clear A60
  have H' := Aside0.mk H
  clear H
  go_enter Try.func123, Try.ntmps123
  go_wp2_with (first | ((with_reducible refine gate_dst (N := 5) rfl ?_); refine box_event ?hg (N := 5) ?hd (cs := #[.int .i64 a0_0, .int .i64 a0_1, .int .i64 a0_2, .slice A0_3 l0_3.length c0_3]) (t := 27) ?hr ?_; (case hd => rfl); (case hg => rfl); (case hr => first | (go_simp; done) | (go_simp; rfl)); intro gb124001 hg w7 hbox hb; have n0_ := Aside0.mk (below_step (by repeat (first | (with_reducible first | exact HB.out | apply below_alloc | apply pw_below_drewN | apply below_drew1) | exact HB.out)) hb); have n1_ := Aside0.mk (hbox); have n2_ := Aside0.mk ((by rw [hg]; exact (below_size (by repeat (first | (with_reducible first | exact HB.out | apply below_alloc | apply pw_below_drewN | apply below_drew1) | exact HB.out))) : w.heap.size ≤ gb124001)); have n3_ := Aside0.mk ((by rw [hg]; exact (below_size (by repeat (first | (with_reducible first | exact HB.out | apply below_alloc | apply pw_below_drewN | apply below_drew1) | exact HB.out))) : w.heap.size ≤ gb124001)); clear HB; have HB := n0_; have BK124001 := n1_; have GW124001 := n2_; have GE124001 := n3_; clear n0_ n1_ n2_ n3_; clear hb hbox hg) | ((with_reducible refine gate_dst (N := 10) rfl ?_); refine box_event ?hg (N := 10) ?hd (cs := #[.int .i64 0, .int .i64 0, .int .i64 0, .slice none 0 0]) (t := 27) ?hr ?_; (case hd => rfl); (case hg => rfl); (case hr => first | (go_simp; done) | (go_simp; rfl)); intro gb124002 hg w8 hbox hb; have n0_ := Aside0.mk (blk_below (g := gb124001) (o := .cells #[.int .i64 a0_0, .int .i64 a0_1, .int .i64 a0_2, .slice A0_3 l0_3.length c0_3] 27 (0, 0)) (by (with_reducible repeat (first | refine blk_drewN ?_ _ | refine blk_drew ?_ | refine blk_alloc ?_ _)); exact BK124001.out) hb); have n1_ := Aside0.mk (below_step (by repeat (first | (with_reducible first | exact HB.out | apply below_alloc | apply pw_below_drewN | apply below_drew1 | refine below_set ?_ GE124001.out) | exact HB.out)) hb); have n2_ := Aside0.mk (hbox); have n3_ := Aside0.mk ((by rw [hg]; exact (below_size (by repeat (first | (with_reducible first | exact HB.out | apply below_alloc | apply pw_below_drewN | apply below_drew1 | refine below_set ?_ GE124001.out) | exact HB.out))) : w.heap.size ≤ gb124002)); have n4_ := Aside0.mk ((by rw [hg]; exact (below_size (by repeat (first | (with_reducible first | exact HB.out | apply below_alloc | apply pw_below_drewN | apply below_drew1 | refine below_set ?_ GE124001.out) | exact HB.out))) : w.heap.size ≤ gb124002)); have n5_ := Aside0.mk ((by rw [hg]; exact Nat.ne_of_lt (blk_lt (g := gb124001) (o := .cells #[.int .i64 a0_0, .int .i64 a0_1, .int .i64 a0_2, .slice A0_3 l0_3.length c0_3] 27 (0, 0)) (by (with_reducible repeat (first | refine blk_drewN ?_ _ | refine blk_drew ?_ | refine blk_alloc ?_ _)); exact BK124001.out)) : gb124001 ≠ gb124002)); have n6_ := Aside0.mk ((by rw [hg]; exact Nat.ne_of_gt (blk_lt (g := gb124001) (o := .cells #[.int .i64 a0_0, .int .i64 a0_1, .int .i64 a0_2, .slice A0_3 l0_3.length c0_3] 27 (0, 0)) (by (with_reducible repeat (first | refine blk_drewN ?_ _ | refine blk_drew ?_ | refine blk_alloc ?_ _)); exact BK124001.out)) : gb124002 ≠ gb124001)); clear BK124001; clear HB; have BK124001 := n0_; have HB := n1_; have BK124002 := n2_; have GW124002 := n3_; have GE124002 := n4_; have NB124001_124002 := n5_; have NB124002_124001 := n6_; clear n0_ n1_ n2_ n3_ n4_ n5_ n6_; clear hb hbox hg; have hnb9 := NB124001_124002.out; have hnc9 := NB124002_124001.out; have hcz10_0 : w8.cell? ⟨gb124001, 0, none⟩ = some (.int .i64 a0_0) := (blk_cell BK124001.out 0).trans rfl; have hcz10_1 : w8.cell? ⟨gb124001, 1, none⟩ = some (.int .i64 a0_1) := (blk_cell BK124001.out 1).trans rfl; have hcz10_2 : w8.cell? ⟨gb124001, 2, none⟩ = some (.int .i64 a0_2) := (blk_cell BK124001.out 2).trans rfl; have hcz10_3 : w8.cell? ⟨gb124001, 3, none⟩ = some (.slice A0_3 l0_3.length c0_3) := (blk_cell BK124001.out 3).trans rfl; have hfz10_0 := blk_frozen BK124001.out 0; have hfz10_1 := blk_frozen BK124001.out 1; have hfz10_2 := blk_frozen BK124001.out 2; have hfz10_3 := blk_frozen BK124001.out 3) | ((with_reducible refine gate_callee (f := 111) rfl ?_); refine goesL_ (some 18) rfl rfl Try.func111 (by kernel_rfl) rfl #[.int .i64 a3, .int .i64 a4, .int .i64 a0_2] rfl (by (try simp only [List.map_toArray, List.map_cons, List.map_nil]); first | done | rfl | (simp only [List.length_drop, List.length_take]; rfl)) ?_; (with_reducible refine (spec_newImage.calls a3 a4 a0_2 t124003 t124004 t124005 t124006 _ A6.out).mono ?_); rintro e w11 ⟨v124007, rfl, ho0, hb⟩; refine ⟨_, rfl, ?_⟩; have n0_ := Aside0.mk (Kd.R_lower ho0 (below_size (by repeat (first | (with_reducible first | exact HB.out | apply below_alloc | apply pw_below_drewN | apply below_drew1 | refine below_set ?_ GE124001.out | refine below_set ?_ GE124002.out) | exact HB.out)))); have n1_ := Aside0.mk (blk_below (g := gb124001) (o := .cells #[.int .i64 a0_0, .int .i64 a0_1, .int .i64 a0_2, .slice A0_3 l0_3.length c0_3] 27 (0, 0)) (by (with_reducible repeat (first | refine blk_drewN ?_ _ | refine blk_drew ?_ | refine blk_alloc ?_ _)); exact BK124001.out) hb); have n2_ := Aside0.mk (blk_below (g := gb124002) (o := .cells #[.int .i64 0, .int .i64 0, .int .i64 0, .slice none 0 0] 27 (0, 0)) (by (with_reducible repeat (first | refine blk_drewN ?_ _ | refine blk_drew ?_ | refine blk_alloc ?_ _)); exact BK124002.out) hb); have n3_ := Aside0.mk (below_step (by repeat (first | (with_reducible first | exact HB.out | apply below_alloc | apply pw_below_drewN | apply below_drew1 | refine below_set ?_ GE124001.out | refine below_set ?_ GE124002.out) | exact HB.out)) hb); clear BK124001; clear BK124002; clear HB; have HO124008 := n0_; have BK124001 := n1_; have BK124002 := n2_; have HB := n3_; clear n0_ n1_ n2_ n3_; (try clear hb); (try clear hb2); (try clear hk); (try clear hi); (try clear ho0)) | ((with_reducible refine gate_dst (N := 11) rfl ?_); refine box_event ?hg (N := 11) ?hd (cs := #[.int .i64 0, .int .i64 0, .int .i64 0, .slice none 0 0]) (t := 27) ?hr ?_; (case hd => rfl); (case hg => rfl); (case hr => first | (go_simp; done) | (go_simp; rfl)); intro gb124009 hg w12 hbox hb; have n0_ := Aside0.mk (Kd.R_below (by (with_reducible repeat (first | apply Kd.R_alloc | apply Kd.R_drewN | apply Kd.R_drew)); exact HO124008.out) hb); have n1_ := Aside0.mk (blk_below (g := gb124001) (o := .cells #[.int .i64 a0_0, .int .i64 a0_1, .int .i64 a0_2, .slice A0_3 l0_3.length c0_3] 27 (0, 0)) (by (with_reducible repeat (first | refine blk_drewN ?_ _ | refine blk_drew ?_ | refine blk_alloc ?_ _)); exact BK124001.out) hb); have n2_ := Aside0.mk (blk_below (g := gb124002) (o := .cells #[.int .i64 0, .int .i64 0, .int .i64 0, .slice none 0 0] 27 (0, 0)) (by (with_reducible repeat (first | refine blk_drewN ?_ _ | refine blk_drew ?_ | refine blk_alloc ?_ _)); exact BK124002.out) hb); have n3_ := Aside0.mk (below_step (by repeat (first | (with_reducible first | exact HB.out | apply below_alloc | apply pw_below_drewN | apply below_drew1 | refine below_set ?_ GE124001.out | refine below_set ?_ GE124002.out) | exact HB.out)) hb); have n4_ := Aside0.mk (hbox); have n5_ := Aside0.mk ((by rw [hg]; exact (below_size (by repeat (first | (with_reducible first | exact HB.out | apply below_alloc | apply pw_below_drewN | apply below_drew1 | refine below_set ?_ GE124001.out | refine below_set ?_ GE124002.out) | exact HB.out))) : w.heap.size ≤ gb124009)); have n6_ := Aside0.mk ((by rw [hg]; exact (below_size (by repeat (first | (with_reducible first | exact HB.out | apply below_alloc | apply pw_below_drewN | apply below_drew1 | refine below_set ?_ GE124001.out | refine below_set ?_ GE124002.out) | exact HB.out))) : w.heap.size ≤ gb124009)); have n7_ := Aside0.mk ((by rw [hg]; exact Nat.ne_of_lt (blk_lt (g := gb124001) (o := .cells #[.int .i64 a0_0, .int .i64 a0_1, .int .i64 a0_2, .slice A0_3 l0_3.length c0_3] 27 (0, 0)) (by (with_reducible repeat (first | refine blk_drewN ?_ _ | refine blk_drew ?_ | refine blk_alloc ?_ _)); exact BK124001.out)) : gb124001 ≠ gb124009)); have n8_ := Aside0.mk ((by rw [hg]; exact Nat.ne_of_gt (blk_lt (g := gb124001) (o := .cells #[.int .i64 a0_0, .int .i64 a0_1, .int .i64 a0_2, .slice A0_3 l0_3.length c0_3] 27 (0, 0)) (by (with_reducible repeat (first | refine blk_drewN ?_ _ | refine blk_drew ?_ | refine blk_alloc ?_ _)); exact BK124001.out)) : gb124009 ≠ gb124001)); have n9_ := Aside0.mk ((by rw [hg]; exact Nat.ne_of_lt (blk_lt (g := gb124002) (o := .cells #[.int .i64 0, .int .i64 0, .int .i64 0, .slice none 0 0] 27 (0, 0)) (by (with_reducible repeat (first | refine blk_drewN ?_ _ | refine blk_drew ?_ | refine blk_alloc ?_ _)); exact BK124002.out)) : gb124002 ≠ gb124009)); have n10_ := Aside0.mk ((by rw [hg]; exact Nat.ne_of_gt (blk_lt (g := gb124002) (o := .cells #[.int .i64 0, .int .i64 0, .int .i64 0, .slice none 0 0] 27 (0, 0)) (by (with_reducible repeat (first | refine blk_drewN ?_ _ | refine blk_drew ?_ | refine blk_alloc ?_ _)); exact BK124002.out)) : gb124009 ≠ gb124002)); clear HO124008; clear BK124001; clear BK124002; clear HB; have HO124008 := n0_; have BK124001 := n1_; have BK124002 := n2_; have HB := n3_; have BK124009 := n4_; have GW124009 := n5_; have GE124009 := n6_; have NB124001_124009 := n7_; have NB124009_124001 := n8_; have NB124002_124009 := n9_; have NB124009_124002 := n10_; clear n0_ n1_ n2_ n3_ n4_ n5_ n6_ n7_ n8_ n9_ n10_; clear hb hbox hg; have hnb13 := NB124009_124001.out; have hnc13 := NB124001_124009.out; have hnb14 := NB124009_124002.out; have hnc14 := NB124002_124009.out; have hcz15_0 : w12.cell? ⟨gb124009, 0, none⟩ = some (.int .i64 0) := (blk_cell BK124009.out 0).trans rfl; have hcz15_1 : w12.cell? ⟨gb124009, 1, none⟩ = some (.int .i64 0) := (blk_cell BK124009.out 1).trans rfl; have hcz15_2 : w12.cell? ⟨gb124009, 2, none⟩ = some (.int .i64 0) := (blk_cell BK124009.out 2).trans rfl; have hcz15_3 : w12.cell? ⟨gb124009, 3, none⟩ = some (.slice none 0 0) := (blk_cell BK124009.out 3).trans rfl; have hfz15_0 := blk_frozen BK124009.out 0; have hfz15_1 := blk_frozen BK124009.out 1; have hfz15_2 := blk_frozen BK124009.out 2; have hfz15_3 := blk_frozen BK124009.out 3; obtain ⟨Ao16, co16, eo16⟩ := Kd.R_slice HO124008.out; subst eo16))
  go_loopg [12] k (fun kq v12 w' => ∃ (x12_1 : Int) (x124010003_1 : List Int) (u124010003 : Value), v12 = .int .i64 x12_1 ∧ Aside0 (spec_crop.l0 kq a1 a2 a3 a4 x12_1 a0_0 a0_1 a0_2 l0_3 t124003 t124004 t124005 x124010003_1 = some (r1, r2, r3, r4)) ∧ Aside0 (kq ≤ k) ∧ Aside0 (Kd.R (Kd.int .i64) 3 w' w.heap.size (fun _ => True) u124010003 x124010003_1) ∧ Aside0 (w'.heap[gb124001]? = some (.cells #[.int .i64 a0_0, .int .i64 a0_1, .int .i64 a0_2, (.slice A0_3 l0_3.length c0_3)] 27 (0, 0))) ∧ Aside0 (w'.heap[gb124002]? = some (.cells #[.int .i64 0, .int .i64 0, .int .i64 0, (.slice none 0 0)] 27 (0, 0))) ∧ Aside0 (w'.heap[gb124009]? = some (.cells #[.int .i64 t124003, .int .i64 t124004, .int .i64 t124005, u124010003] 27 (0, 0))) ∧ Aside0 (Below w.heap.size w w'))
  case atStart => exact ⟨(0), (t124006), (.slice Ao16 t124006.length co16), (by first | rfl | (simp; done) | (simp [*]; done)), H', ⟨Nat.le_refl _⟩, ⟨by (with_reducible repeat (first | apply Kd.R_alloc | apply Kd.R_drewN | apply Kd.R_drew)); exact Kd.R_mono (Kd.R_far (p := ⟨gb124009, 3, none⟩) (Kd.R_far (p := ⟨gb124009, 2, none⟩) (Kd.R_far (p := ⟨gb124009, 1, none⟩) (Kd.R_far (p := ⟨gb124009, 0, none⟩) (Kd.R_types HO124008.out BK124009.out (by decide)) (fun _ hk => hk.2) (.int .i64 t124003)) (fun _ hk => hk.2) (.int .i64 t124004)) (fun _ hk => hk.2) (.int .i64 t124005)) (fun _ hk => hk.2) (.slice Ao16 t124006.length co16)) (fun _ hk => trivial)⟩, ⟨by (with_reducible repeat (first | refine blk_drewN ?_ _ | refine blk_drew ?_ | refine blk_alloc ?_ _)); refine blk_far ?_ NB124001_124009.out _; (with_reducible repeat (first | refine blk_drewN ?_ _ | refine blk_drew ?_ | refine blk_alloc ?_ _)); refine blk_far ?_ NB124001_124009.out _; (with_reducible repeat (first | refine blk_drewN ?_ _ | refine blk_drew ?_ | refine blk_alloc ?_ _)); refine blk_far ?_ NB124001_124009.out _; (with_reducible repeat (first | refine blk_drewN ?_ _ | refine blk_drew ?_ | refine blk_alloc ?_ _)); refine blk_far ?_ NB124001_124009.out _; (with_reducible repeat (first | refine blk_drewN ?_ _ | refine blk_drew ?_ | refine blk_alloc ?_ _)); exact BK124001.out⟩, ⟨by (with_reducible repeat (first | refine blk_drewN ?_ _ | refine blk_drew ?_ | refine blk_alloc ?_ _)); refine blk_far ?_ NB124002_124009.out _; (with_reducible repeat (first | refine blk_drewN ?_ _ | refine blk_drew ?_ | refine blk_alloc ?_ _)); refine blk_far ?_ NB124002_124009.out _; (with_reducible repeat (first | refine blk_drewN ?_ _ | refine blk_drew ?_ | refine blk_alloc ?_ _)); refine blk_far ?_ NB124002_124009.out _; (with_reducible repeat (first | refine blk_drewN ?_ _ | refine blk_drew ?_ | refine blk_alloc ?_ _)); refine blk_far ?_ NB124002_124009.out _; (with_reducible repeat (first | refine blk_drewN ?_ _ | refine blk_drew ?_ | refine blk_alloc ?_ _)); exact BK124002.out⟩, ⟨by (with_reducible repeat (first | refine blk_drewN ?_ _ | refine blk_drew ?_ | refine blk_alloc ?_ _)); refine blk_put (cs := #[.int .i64 t124003, .int .i64 t124004, .int .i64 t124005, .slice none 0 0]) ?_ 3 _ rfl; (with_reducible repeat (first | refine blk_drewN ?_ _ | refine blk_drew ?_ | refine blk_alloc ?_ _)); refine blk_put (cs := #[.int .i64 t124003, .int .i64 t124004, .int .i64 0, .slice none 0 0]) ?_ 2 _ rfl; (with_reducible repeat (first | refine blk_drewN ?_ _ | refine blk_drew ?_ | refine blk_alloc ?_ _)); refine blk_put (cs := #[.int .i64 t124003, .int .i64 0, .int .i64 0, .slice none 0 0]) ?_ 1 _ rfl; (with_reducible repeat (first | refine blk_drewN ?_ _ | refine blk_drew ?_ | refine blk_alloc ?_ _)); refine blk_put (cs := #[.int .i64 0, .int .i64 0, .int .i64 0, .slice none 0 0]) ?_ 0 _ rfl; (with_reducible repeat (first | refine blk_drewN ?_ _ | refine blk_drew ?_ | refine blk_alloc ?_ _)); exact BK124009.out⟩, ⟨by repeat (first | (with_reducible first | exact HB.out | apply below_alloc | apply pw_below_drewN | apply below_drew1 | refine below_set ?_ GE124001.out | refine below_set ?_ GE124002.out | refine below_set ?_ GE124009.out) | exact HB.out)⟩⟩
  case round =>
    clear H'
    try clear c1
    try clear p2
    try clear c9
    try clear c11
    try clear c12
    try clear c13
    try clear c14
    try clear hcz10_0
    try clear hcz10_1
    try clear hcz10_2
    try clear hcz10_3
    try clear hcz15_0
    try clear hcz15_1
    try clear hcz15_2
    try clear hcz15_3
    try clear hfz10_0
    try clear hfz10_1
    try clear hfz10_2
    try clear hfz10_3
    try clear hfz15_0
    try clear hfz15_1
    try clear hfz15_2
    try clear hfz15_3
    obtain ⟨x12_1, x124010003_1, u124010003, rfl, HA, HK1, HO_124010003, BK124001, BK124002, BK124009, HB⟩ := hrel
    cases gk with
    | zero => exact absurd HA.out (by simp [spec_crop.l0])
    | succ k1 =>
      have H := HA.out
      clear HA
      simp only [spec_crop.l0] at H
      by_cases c17 : x12_1 < a4
      · rw [if_pos c17] at H
        have c17b0 : decide (x12_1 < a4) = true := decide_eq_true c17
        clear c17
        have H' := Aside0.mk H
        clear H
        go_wp2
        go_loopg [13] k1 (fun kq v13 w' => ∃ (x13_2 : Int) (x124010003_2 : List Int) (u124010003 : Value), v13 = .int .i64 x13_2 ∧ Aside0 (spec_crop.l1 kq a1 a2 a3 a4 x12_1 x13_2 a0_0 a0_1 a0_2 l0_3 t124003 t124004 t124005 x124010003_2 = some (r1, r2, r3, r4)) ∧ Aside0 (kq ≤ k1) ∧ Aside0 (Kd.R (Kd.int .i64) 3 w' w.heap.size (fun _ => True) u124010003 x124010003_2) ∧ Aside0 (w'.heap[gb124001]? = some (.cells #[.int .i64 a0_0, .int .i64 a0_1, .int .i64 a0_2, (.slice A0_3 l0_3.length c0_3)] 27 (0, 0))) ∧ Aside0 (w'.heap[gb124002]? = some (.cells #[.int .i64 0, .int .i64 0, .int .i64 0, (.slice none 0 0)] 27 (0, 0))) ∧ Aside0 (w'.heap[gb124009]? = some (.cells #[.int .i64 t124003, .int .i64 t124004, .int .i64 t124005, u124010003] 27 (0, 0))) ∧ Aside0 (Below w.heap.size w w'))
        case atStart => exact ⟨(0), (x124010003_1), (u124010003), (by first | rfl | (simp; done) | (simp [*]; done)), H', ⟨Nat.le_refl _⟩, ⟨by (with_reducible repeat (first | apply Kd.R_alloc | apply Kd.R_drewN | apply Kd.R_drew)); exact HO_124010003.out⟩, ⟨by (with_reducible repeat (first | refine blk_drewN ?_ _ | refine blk_drew ?_ | refine blk_alloc ?_ _)); exact BK124001.out⟩, ⟨by (with_reducible repeat (first | refine blk_drewN ?_ _ | refine blk_drew ?_ | refine blk_alloc ?_ _)); exact BK124002.out⟩, ⟨by (with_reducible repeat (first | refine blk_drewN ?_ _ | refine blk_drew ?_ | refine blk_alloc ?_ _)); exact BK124009.out⟩, ⟨by repeat (first | (with_reducible first | exact HB.out | apply below_alloc | apply pw_below_drewN | apply below_drew1 | refine below_set ?_ GE124001.out | refine below_set ?_ GE124002.out | refine below_set ?_ GE124009.out) | exact HB.out)⟩⟩
        case round =>
          clear H'
          try clear c1
          try clear p2
          try clear c9
          try clear c11
          try clear c12
          try clear c13
          try clear c14
          try clear c17
          try clear c17b0
          try clear hcz10_0
          try clear hcz10_1
          try clear hcz10_2
          try clear hcz10_3
          try clear hcz15_0
          try clear hcz15_1
          try clear hcz15_2
          try clear hcz15_3
          try clear hfz10_0
          try clear hfz10_1
          try clear hfz10_2
          try clear hfz10_3
          try clear hfz15_0
          try clear hfz15_1
          try clear hfz15_2
          try clear hfz15_3
          try clear p2
          obtain ⟨x13_2, x124010003_2, u124010003, rfl, HA, HK2, HO_124010003, BK124001, BK124002, BK124009, HB⟩ := hrel
          cases gk with
          | zero => exact absurd HA.out (by simp [spec_crop.l1])
          | succ k2 =>
            have H := HA.out
            clear HA
            simp only [spec_crop.l1] at H
            by_cases c18 : x13_2 < a3
            · rw [if_pos c18] at H
              have c18b0 : decide (x13_2 < a3) = true := decide_eq_true c18
              clear c18
              replace H := Option.bind_eq_some_iff.mp H
              obtain ⟨t124010, A190, H⟩ := H
              replace H : ((spec_setPixel.f k2 t124003 t124004 t124005 x124010003_2 x13_2 x12_1 t124010).bind fun t124013 => (spec_crop.l1 k2 a1 a2 a3 a4 x12_1 (wrap64 (x13_2 + 1)) a0_0 a0_1 a0_2 l0_3 t124003 t124004 t124005 t124013)) = some (r1, r2, r3, r4) := H
              have A19 := Aside0.mk A190
              clear A190
              replace H := Option.bind_eq_some_iff.mp H
              obtain ⟨t124013, A200, H⟩ := H
              replace H : (spec_crop.l1 k2 a1 a2 a3 a4 x12_1 (wrap64 (x13_2 + 1)) a0_0 a0_1 a0_2 l0_3 t124003 t124004 t124005 t124013) = some (r1, r2, r3, r4) := H
              have A20 := Aside0.mk A200
              clear A200
              have H' := Aside0.mk H
              clear H
              try go_wp2
              have n0_ := Aside0.mk (Kd.R_drew HO_124010003.out)
              have n1_ := Aside0.mk (blk_drew BK124001.out)
              have n2_ := Aside0.mk (blk_drew BK124002.out)
              have n3_ := Aside0.mk (blk_drew BK124009.out)
              have n4_ := Aside0.mk (below_drew1 HB.out)
              clear HO_124010003
              clear BK124001
              clear BK124002
              clear BK124009
              clear HB
              have HO_124010003 := n0_
              have BK124001 := n1_
              have BK124002 := n2_
              have BK124009 := n3_
              have HB := n4_
              clear n0_ n1_ n2_ n3_ n4_
              refine start_ (n := 12) (S := fun w' => w'.cell? ⟨gb124009, 0, none⟩ = some (.int .i64 t124003) ∧ w'.cell? ⟨gb124009, 1, none⟩ = some (.int .i64 t124004) ∧ w'.cell? ⟨gb124009, 2, none⟩ = some (.int .i64 t124005) ∧ w'.cell? ⟨gb124009, 3, none⟩ = some (u124010003) ∧ w'.cell? ⟨gb124001, 0, none⟩ = some (.int .i64 a0_0) ∧ w'.cell? ⟨gb124001, 1, none⟩ = some (.int .i64 a0_1) ∧ w'.cell? ⟨gb124001, 2, none⟩ = some (.int .i64 a0_2) ∧ w'.cell? ⟨gb124001, 3, none⟩ = some (.slice A0_3 l0_3.length c0_3)) (ds := []) #[false, false, false, false, false, false, false, false, false, false, false, false] (by kernel_rfl) rfl rfl ⟨(blk_cell BK124009.out 0).trans rfl, (blk_cell BK124009.out 1).trans rfl, (blk_cell BK124009.out 2).trans rfl, (blk_cell BK124009.out 3).trans rfl, (blk_cell BK124001.out 0).trans rfl, (blk_cell BK124001.out 1).trans rfl, (blk_cell BK124001.out 2).trans rfl, (blk_cell BK124001.out 3).trans rfl⟩ (fun hHeld => ?_); refine with_tabW spec_crop.tab8 spec_crop.bits8 (fun HT_ HW_ => ?_)
              generalize wr.drew = w21 at HO_124010003 BK124001 BK124002 BK124009 HB hHeld ⊢
              refine pure_ (i := 1) (N := some 30) (v := ?_) (a' := ?_) #[false, true, false, false, false, false, false, false, false, false, false, false] rfl rfl (any_of HT_.out (by kernel_rfl)) (fun _ _ _ h => h) (Or.inl ⟨by rfl, ?_⟩) ?_ ?_
              rotate_left
              · intro w'
                go_simp
                with_reducible rfl
              rotate_left
              · simp only [Act.put, List.setIfInBounds_toArray, List.set_cons_zero, List.set_cons_succ, i64_w, i32_w]
                rfl
              refine pure_ (i := 2) (N := some 31) (v := ?_) (a' := ?_) #[false, true, true, false, false, false, false, false, false, false, false, false] rfl rfl (any_of HT_.out (by kernel_rfl)) (fun _ _ _ h => h) (Or.inl ⟨by rfl, ?_⟩) ?_ ?_
              rotate_left
              · intro w'
                go_simp
                with_reducible rfl
              rotate_left
              · simp only [Act.put, List.setIfInBounds_toArray, List.set_cons_zero, List.set_cons_succ, i64_w, i32_w]
                rfl
              refine pure_ (i := 4) (N := some 33) (v := ?_) (a' := ?_) #[false, true, true, false, true, false, false, false, false, false, false, false] rfl rfl (any_of HT_.out (by kernel_rfl)) (fun _ _ _ h => h) (Or.inl ⟨by rfl, ?_⟩) ?_ ?_
              rotate_left
              · intro w'
                go_simp
                with_reducible rfl
              rotate_left
              · simp only [Act.put, List.setIfInBounds_toArray, List.set_cons_zero, List.set_cons_succ, i64_w, i32_w]
                rfl
              refine pure_ (i := 5) (N := some 34) (v := ?_) (a' := ?_) #[false, true, true, false, true, true, false, false, false, false, false, false] rfl rfl (any_of HT_.out (by kernel_rfl)) (fun _ _ _ h => h) (Or.inl ⟨by rfl, ?_⟩) ?_ ?_
              rotate_left
              · intro w'
                go_simp
                with_reducible rfl
              rotate_left
              · simp only [Act.put, List.setIfInBounds_toArray, List.set_cons_zero, List.set_cons_succ, i64_w, i32_w]
                rfl
              refine pure_ (i := 6) (N := some 35) (v := ?_) (a' := ?_) #[false, true, true, false, true, true, true, false, false, false, false, false] rfl rfl (any_of HT_.out (by kernel_rfl)) (fun _ _ _ h => h) (Or.inl ⟨by rfl, ?_⟩) ?_ ?_
              rotate_left
              · intro w'
                go_simp
                with_reducible rfl
              rotate_left
              · simp only [Act.put, List.setIfInBounds_toArray, List.set_cons_zero, List.set_cons_succ, i64_w, i32_w]
                rfl
              refine pure_ (i := 7) (N := some 36) (v := ?_) (a' := ?_) #[false, true, true, false, true, true, true, true, false, false, false, false] rfl rfl (any_of HT_.out (by kernel_rfl)) (fun _ _ _ h => h) (Or.inl ⟨by rfl, ?_⟩) ?_ ?_
              rotate_left
              · intro w'
                go_simp
                with_reducible rfl
              rotate_left
              · simp only [Act.put, List.setIfInBounds_toArray, List.set_cons_zero, List.set_cons_succ, i64_w, i32_w]
                rfl
              refine pure_ (i := 8) (N := some 37) (v := ?_) (a' := ?_) #[false, true, true, false, true, true, true, true, true, false, false, false] rfl rfl (any_of HT_.out (by kernel_rfl)) (fun _ _ _ h => h) (Or.inl ⟨by rfl, ?_⟩) ?_ ?_
              rotate_left
              · intro w'
                go_simp
                with_reducible rfl
              rotate_left
              · simp only [Act.put, List.setIfInBounds_toArray, List.set_cons_zero, List.set_cons_succ, i64_w, i32_w]
                rfl
              refine pure_ (i := 9) (N := some 38) (v := ?_) (a' := ?_) #[false, true, true, false, true, true, true, true, true, true, false, false] rfl rfl (any_of HT_.out (by kernel_rfl)) (fun _ _ _ h => h) (Or.inl ⟨by rfl, ?_⟩) ?_ ?_
              rotate_left
              · intro w'
                go_simp
                with_reducible rfl
              rotate_left
              · simp only [Act.put, List.setIfInBounds_toArray, List.set_cons_zero, List.set_cons_succ, i64_w, i32_w]
                rfl
              refine take_ (i := 0) (N := some 29) (v := ?_) (a' := ?_) #[true, true, true, false, true, true, true, true, true, true, false, false] rfl rfl (take_ofW HT_.out HW_.out (by kernel_rfl)) (fun _ _ _ h => h) (Or.inl ⟨by rfl, ?_⟩) hHeld ?_ ?_
              rotate_left
              · rintro w' ⟨s0, s1, s2, s3, s4, s5, s6, s7⟩
                go_simp
                with_reducible rfl
              rotate_left
              · simp only [Act.put, List.setIfInBounds_toArray, List.set_cons_zero, List.set_cons_succ, i64_w, i32_w]
                rfl
              refine take_ (i := 3) (N := some 32) (v := ?_) (a' := ?_) #[true, true, true, true, true, true, true, true, true, true, false, false] rfl rfl (take_ofW HT_.out HW_.out (by kernel_rfl)) (fun _ _ _ h => h) (Or.inl ⟨by rfl, ?_⟩) hHeld ?_ ?_
              rotate_left
              · rintro w' ⟨s0, s1, s2, s3, s4, s5, s6, s7⟩
                go_simp
                with_reducible rfl
              rotate_left
              · simp only [Act.put, List.setIfInBounds_toArray, List.set_cons_zero, List.set_cons_succ, i64_w, i32_w]
                rfl
              refine one_ (i := 10) (N := some 39) #[true, true, true, true, true, true, true, true, true, true, true, false] rfl rfl (one_of HT_.out (by kernel_rfl)) (by decide) (fun K hK => ?_)
              refine goes_ Try.func149 (by kernel_rfl) rfl #[.agg #[.int .i64 a0_0, .int .i64 a0_1, .int .i64 a0_2, .slice A0_3 l0_3.length c0_3], .int .i64 (wrap64 (a1 + x13_2)), .int .i64 (wrap64 (a2 + x12_1))] (by rfl) rfl rfl (by (try simp only [List.map_toArray, List.map_cons, List.map_nil]); first | done | rfl | (simp only [List.length_drop, List.length_take]; rfl)) ?_
              with_reducible refine (spec_pixelAt.calls a0_0 a0_1 a0_2 _ _ l0_3 (wrap64 (a1 + x13_2)) (wrap64 (a2 + x12_1)) t124010 _ ?side1 ?side2 A19.out).mono ?_
              (case side1 => repeat (first | exact (Kd.C_below HR0_3.out HB.out) | (with_reducible refine Kd.C_alloc ?_ _) | (with_reducible refine Kd.C_drewN ?_ _) | (with_reducible refine Kd.C_drew ?_)))
              (case side2 => exact HC0_3.out)
              rintro e w22 ⟨v124011, rfl, ho0, hb⟩
              refine ⟨_, rfl, ?_⟩
              have n0_ := Aside0.mk (Kd.R_elder' (by (with_reducible repeat (first | apply Kd.R_alloc | apply Kd.R_drewN | apply Kd.R_drew)); exact HO_124010003.out) (Kd.R_base ho0) hb)
              have n1_ := Aside0.mk (Kd.R_lower (Kd.R_new' ho0 (Kd.R_lt (by (with_reducible repeat (first | apply Kd.R_alloc | apply Kd.R_drewN | apply Kd.R_drew)); exact HO_124010003.out))) (below_size (by repeat (first | (with_reducible first | exact HB.out | apply below_alloc | apply pw_below_drewN | apply below_drew1 | refine below_set ?_ GE124001.out | refine below_set ?_ GE124002.out | refine below_set ?_ GE124009.out) | exact HB.out))))
              have n2_ := Aside0.mk (blk_below (g := gb124001) (o := .cells #[.int .i64 a0_0, .int .i64 a0_1, .int .i64 a0_2, .slice A0_3 l0_3.length c0_3] 27 (0, 0)) (by (with_reducible repeat (first | refine blk_drewN ?_ _ | refine blk_drew ?_ | refine blk_alloc ?_ _)); exact BK124001.out) hb)
              have n3_ := Aside0.mk (blk_below (g := gb124002) (o := .cells #[.int .i64 0, .int .i64 0, .int .i64 0, .slice none 0 0] 27 (0, 0)) (by (with_reducible repeat (first | refine blk_drewN ?_ _ | refine blk_drew ?_ | refine blk_alloc ?_ _)); exact BK124002.out) hb)
              have n4_ := Aside0.mk (blk_below (g := gb124009) (o := .cells #[.int .i64 t124003, .int .i64 t124004, .int .i64 t124005, u124010003] 27 (0, 0)) (by (with_reducible repeat (first | refine blk_drewN ?_ _ | refine blk_drew ?_ | refine blk_alloc ?_ _)); exact BK124009.out) hb)
              have n5_ := Aside0.mk (below_step (by repeat (first | (with_reducible first | exact HB.out | apply below_alloc | apply pw_below_drewN | apply below_drew1 | refine below_set ?_ GE124001.out | refine below_set ?_ GE124002.out | refine below_set ?_ GE124009.out) | exact HB.out)) hb)
              clear HO_124010003
              clear BK124001
              clear BK124002
              clear BK124009
              clear HB
              have HO_124010003 := n0_
              have HO124012 := n1_
              have BK124001 := n2_
              have BK124002 := n3_
              have BK124009 := n4_
              have HB := n5_
              clear n0_ n1_ n2_ n3_ n4_ n5_
              (try clear hb)
              (try clear hb2)
              (try clear hk)
              (try clear hi)
              (try clear ho0)
              obtain ⟨Ao23, co23, eo23⟩ := Kd.R_slice HO_124010003.out
              (first | subst eo23 | (injection eo23 with f1_ f2_ f3_; have f4_ := f1_.symm; have f5_ := f3_.symm; clear f1_ f2_ f3_; subst f4_; subst f5_))
              obtain ⟨Ao24, co24, eo24⟩ := Kd.R_slice HO124012.out
              (first | subst eo24 | (injection eo24 with f1_ f2_ f3_; have f4_ := f1_.symm; have f5_ := f3_.symm; clear f1_ f2_ f3_; subst f4_; subst f5_))
              refine hK.out _ _ ⟨(blk_cell BK124009.out 0).trans rfl, (blk_cell BK124009.out 1).trans rfl, (blk_cell BK124009.out 2).trans rfl, (blk_cell BK124009.out 3).trans rfl, (blk_cell BK124001.out 0).trans rfl, (blk_cell BK124001.out 1).trans rfl, (blk_cell BK124001.out 2).trans rfl, (blk_cell BK124001.out 3).trans rfl⟩ (fun hHeld => ?_)
              clear hK K
              refine norm_ (a' := ?_) ?_ ?_
              rotate_left
              · show Act.put _ (some 39) _ = _
                simp only [Act.put, List.setIfInBounds_toArray, List.set_cons_zero, List.set_cons_succ, i64_w, i32_w]
                rfl
              refine one_ (i := 11) (N := some 40) #[true, true, true, true, true, true, true, true, true, true, true, true] rfl rfl (one_of HT_.out (by kernel_rfl)) (by decide) (fun K hK => ?_)
              refine goes_ Try.func148 (by kernel_rfl) rfl #[.agg #[.int .i64 t124003, .int .i64 t124004, .int .i64 t124005, .slice Ao23 x124010003_2.length co23], .int .i64 x13_2, .int .i64 x12_1, .slice Ao24 t124010.length co24] (by rfl) rfl rfl (by (try simp only [List.map_toArray, List.map_cons, List.map_nil]); first | done | rfl | (simp only [List.length_drop, List.length_take]; rfl)) ?_
              with_reducible refine (spec_setPixel.calls k2 t124003 t124004 t124005 (fun k_ => some k_ = (.slice Ao23 x124010003_2.length co23 : Value).ownBlock) (.slice Ao23 x124010003_2.length co23) x124010003_2 x13_2 x12_1 _ _ t124010 t124013 w _ ?side1 ?side2 ?side3 ?side4 A20.out).mono ?_
              (case side1 => repeat (first | (with_reducible first | exact HB.out | apply below_alloc | apply pw_below_drewN | apply below_drew1 | refine below_set ?_ GE124001.out | refine below_set ?_ GE124002.out | refine below_set ?_ GE124009.out) | exact HB.out))
              (case side2 => exact Kd.R_tight rfl HO_124010003.out)
              (case side3 => exact Kd.C_kept_own (HO124012.out) (fun k_ hk_ hs_ => (hk_.2) hs_))
              (case side4 => exact (Kd.R_reads' HO124012.out).2.1)
              rintro e w25 ⟨rfl, hy0, hb, hkp⟩
              refine ⟨_, rfl, ?_⟩
              have n0_ := Aside0.mk (Kd.R_reok rfl hy0 (fun k_ e_ => HO_124010003.out.1 k_ e_))
              have n1_ := Aside0.mk (blk_kept (by (with_reducible repeat (first | refine blk_drewN ?_ _ | refine blk_drew ?_ | refine blk_alloc ?_ _)); exact BK124001.out) hkp (fun hs_ => (fun e_ => (Kd.R_ne HO_124010003.out BK124001.out (by decide)) e_) hs_))
              have n2_ := Aside0.mk (blk_kept (by (with_reducible repeat (first | refine blk_drewN ?_ _ | refine blk_drew ?_ | refine blk_alloc ?_ _)); exact BK124002.out) hkp (fun hs_ => (fun e_ => (Kd.R_ne HO_124010003.out BK124002.out (by decide)) e_) hs_))
              have n3_ := Aside0.mk (blk_kept (by (with_reducible repeat (first | refine blk_drewN ?_ _ | refine blk_drew ?_ | refine blk_alloc ?_ _)); exact BK124009.out) hkp (fun hs_ => (fun e_ => (Kd.R_ne HO_124010003.out BK124009.out (by decide)) e_) hs_))
              have n4_ := Aside0.mk (Kd.R_mono (ok' := fun k_ => some k_ ≠ (.slice Ao23 x124010003_2.length co23 : Value).ownBlock) (Kd.R_keptB (HO124012.out) hkp (fun k_ hk_ hs_ => (hk_.2) hs_)) (fun k_ hk_ => hk_.1.2))
              have n5_ := Aside0.mk (hb)
              clear HO_124010003
              clear BK124001
              clear BK124002
              clear BK124009
              clear HO124012
              clear HB
              have HO_124010003 := n0_
              have BK124001 := n1_
              have BK124002 := n2_
              have BK124009 := n3_
              have HO124012 := n4_
              have HB := n5_
              clear n0_ n1_ n2_ n3_ n4_ n5_
              (try clear hb)
              (try clear hkp)
              (try clear hy0)
              refine hK.out _ _ ⟨(blk_cell BK124009.out 0).trans rfl, (blk_cell BK124009.out 1).trans rfl, (blk_cell BK124009.out 2).trans rfl, (blk_cell BK124009.out 3).trans rfl, (blk_cell BK124001.out 0).trans rfl, (blk_cell BK124001.out 1).trans rfl, (blk_cell BK124001.out 2).trans rfl, (blk_cell BK124001.out 3).trans rfl⟩ (fun hHeld => ?_)
              clear hK K
              refine norm_ (a' := ?_) ?_ ?_
              rotate_left
              · show Act.put _ (some 40) _ = _
                simp only [Act.put, List.setIfInBounds_toArray, List.set_cons_zero, List.set_cons_succ, i64_w, i32_w]
                rfl
              refine done_ (done_of HT_.out (by kernel_rfl)) ?_
              try go_wp2
              go_roundg k2
              case measure => have := HK1.out; have := HK2.out; omega
              case rel => exact ⟨(wrap64 (x13_2 + 1)), (t124013), (.slice Ao23 x124010003_2.length co23), (by first | rfl | (simp; done) | (simp [*]; done)), H', ⟨by have := HK1.out; have := HK2.out; omega⟩, ⟨by (with_reducible repeat (first | apply Kd.R_alloc | apply Kd.R_drewN | apply Kd.R_drew)); exact Kd.R_mono HO_124010003.out (fun _ hk => trivial)⟩, ⟨by (with_reducible repeat (first | refine blk_drewN ?_ _ | refine blk_drew ?_ | refine blk_alloc ?_ _)); exact BK124001.out⟩, ⟨by (with_reducible repeat (first | refine blk_drewN ?_ _ | refine blk_drew ?_ | refine blk_alloc ?_ _)); exact BK124002.out⟩, ⟨by (with_reducible repeat (first | refine blk_drewN ?_ _ | refine blk_drew ?_ | refine blk_alloc ?_ _)); exact BK124009.out⟩, ⟨by repeat (first | (with_reducible first | exact HB.out | apply below_alloc | apply pw_below_drewN | apply below_drew1 | refine below_set ?_ GE124001.out | refine below_set ?_ GE124002.out | refine below_set ?_ GE124009.out) | exact HB.out)⟩⟩
            · rw [if_neg c18] at H
              have c18b0 : decide (x13_2 < a3) = false := decide_eq_false c18
              clear c18
              have H' := Aside0.mk H
              clear H
              go_wp2
              go_roundg k2
              case measure => have := HK1.out; have := HK2.out; omega
              case rel => exact ⟨(wrap64 (x12_1 + 1)), (x124010003_2), (u124010003), (by first | rfl | (simp; done) | (simp [*]; done)), H', ⟨by have := HK1.out; have := HK2.out; omega⟩, ⟨by (with_reducible repeat (first | apply Kd.R_alloc | apply Kd.R_drewN | apply Kd.R_drew)); exact HO_124010003.out⟩, ⟨by (with_reducible repeat (first | refine blk_drewN ?_ _ | refine blk_drew ?_ | refine blk_alloc ?_ _)); exact BK124001.out⟩, ⟨by (with_reducible repeat (first | refine blk_drewN ?_ _ | refine blk_drew ?_ | refine blk_alloc ?_ _)); exact BK124002.out⟩, ⟨by (with_reducible repeat (first | refine blk_drewN ?_ _ | refine blk_drew ?_ | refine blk_alloc ?_ _)); exact BK124009.out⟩, ⟨by repeat (first | (with_reducible first | exact HB.out | apply below_alloc | apply pw_below_drewN | apply below_drew1 | refine below_set ?_ GE124001.out | refine below_set ?_ GE124002.out | refine below_set ?_ GE124009.out) | exact HB.out)⟩⟩
      · rw [if_neg c17] at H
        have c17b0 : decide (x12_1 < a4) = false := decide_eq_false c17
        clear c17
        simp only [Option.some.injEq, Prod.mk.injEq] at H
        obtain ⟨rfl, rfl, rfl, rfl⟩ := H
        have hnb26 := NB124009_124001.out
        have hnc26 := NB124001_124009.out
        have hnb27 := NB124009_124002.out
        have hnc27 := NB124002_124009.out
        have hcz28_0 : wr.cell? ⟨gb124009, 0, none⟩ = some (.int .i64 t124003) := (blk_cell BK124009.out 0).trans rfl
        have hcz28_1 : wr.cell? ⟨gb124009, 1, none⟩ = some (.int .i64 t124004) := (blk_cell BK124009.out 1).trans rfl
        have hcz28_2 : wr.cell? ⟨gb124009, 2, none⟩ = some (.int .i64 t124005) := (blk_cell BK124009.out 2).trans rfl
        have hcz28_3 : wr.cell? ⟨gb124009, 3, none⟩ = some (u124010003) := (blk_cell BK124009.out 3).trans rfl
        have hfz28_0 := blk_frozen BK124009.out 0
        have hfz28_1 := blk_frozen BK124009.out 1
        have hfz28_2 := blk_frozen BK124009.out 2
        have hfz28_3 := blk_frozen BK124009.out 3
        have hnb29 := NB124002_124001.out
        have hnc29 := NB124001_124002.out
        have hcz30_0 : wr.cell? ⟨gb124002, 0, none⟩ = some (.int .i64 0) := (blk_cell BK124002.out 0).trans rfl
        have hcz30_1 : wr.cell? ⟨gb124002, 1, none⟩ = some (.int .i64 0) := (blk_cell BK124002.out 1).trans rfl
        have hcz30_2 : wr.cell? ⟨gb124002, 2, none⟩ = some (.int .i64 0) := (blk_cell BK124002.out 2).trans rfl
        have hcz30_3 : wr.cell? ⟨gb124002, 3, none⟩ = some (.slice none 0 0) := (blk_cell BK124002.out 3).trans rfl
        have hfz30_0 := blk_frozen BK124002.out 0
        have hfz30_1 := blk_frozen BK124002.out 1
        have hfz30_2 := blk_frozen BK124002.out 2
        have hfz30_3 := blk_frozen BK124002.out 3
        obtain ⟨Ao31, co31, eo31⟩ := Kd.R_slice HO_124010003.out
        subst eo31
        go_wp2
        refine bodyPost_ret (results_cell_row rfl _ _ gb124002 27 #[.int .i64 t124003, .int .i64 t124004, .int .i64 t124005, .slice Ao31 x124010003_1.length co31] (0, 0) _ rfl (by (with_reducible repeat (first | refine blk_drewN ?_ _ | refine blk_drew ?_ | refine blk_alloc ?_ _)); refine blk_put (cs := #[.int .i64 t124003, .int .i64 t124004, .int .i64 t124005, .slice none 0 0]) ?_ 3 _ rfl; (with_reducible repeat (first | refine blk_drewN ?_ _ | refine blk_drew ?_ | refine blk_alloc ?_ _)); refine blk_put (cs := #[.int .i64 t124003, .int .i64 t124004, .int .i64 0, .slice none 0 0]) ?_ 2 _ rfl; (with_reducible repeat (first | refine blk_drewN ?_ _ | refine blk_drew ?_ | refine blk_alloc ?_ _)); refine blk_put (cs := #[.int .i64 t124003, .int .i64 0, .int .i64 0, .slice none 0 0]) ?_ 1 _ rfl; (with_reducible repeat (first | refine blk_drewN ?_ _ | refine blk_drew ?_ | refine blk_alloc ?_ _)); refine blk_put (cs := #[.int .i64 0, .int .i64 0, .int .i64 0, .slice none 0 0]) ?_ 0 _ rfl; (with_reducible repeat (first | refine blk_drewN ?_ _ | refine blk_drew ?_ | refine blk_alloc ?_ _)); exact BK124002.out) Try.underlying27 rfl (by kernel_rfl)) rfl ?_
        exact ⟨_, by first | rfl | (simp [errW_none, errW_some] <;> rfl) | (simp [*, errW_none, errW_some] <;> rfl), by (with_reducible repeat (first | apply Kd.R_alloc | apply Kd.R_drewN | apply Kd.R_drew)); exact Kd.R_mono (Kd.R_far (p := ⟨gb124002, 3, none⟩) (Kd.R_far (p := ⟨gb124002, 2, none⟩) (Kd.R_far (p := ⟨gb124002, 1, none⟩) (Kd.R_far (p := ⟨gb124002, 0, none⟩) (Kd.R_types HO_124010003.out BK124002.out (by decide)) (fun _ hk => hk.2) (.int .i64 t124003)) (fun _ hk => hk.2) (.int .i64 t124004)) (fun _ hk => hk.2) (.int .i64 t124005)) (fun _ hk => hk.2) (.slice Ao31 x124010003_1.length co31)) (fun _ hk => trivial), by repeat (first | (with_reducible first | exact HB.out | apply below_alloc | apply pw_below_drewN | apply below_drew1 | refine below_set ?_ GE124001.out | refine below_set ?_ GE124002.out | refine below_set ?_ GE124009.out) | exact HB.out)⟩


mutual
def spec_PatchImage.j0 : Nat → List (S47) → Bool → Int → Int → Int → List Int → Int → Int → Int → List Int → Option (Int × Int × Int × List Int × Bool)
  | 0, _, _, _, _, _, _, _, _, _, _ => none
  | k + 1, x2, x18, x73002000, x73002001, x73002002, x73002003, x73003000, x73003001, x73003002, x73003003 => if x18 = true then (some (0, 0, 0, ([] : List Int), false)) else ((spec_copyImage.f x73002000 x73002001 x73002002 x73002003).bind fun bt73005 => (spec_PatchImage.l0 k x2 0 x73002000 x73002001 x73002002 x73002003 x73003000 x73003001 x73003002 x73003003 bt73005.1 bt73005.2.1 bt73005.2.2.1 bt73005.2.2.2))
def spec_PatchImage.l0 : Nat → List (S47) → Int → Int → Int → Int → List Int → Int → Int → Int → List Int → Int → Int → Int → List Int → Option (Int × Int × Int × List Int × Bool)
  | 0, _, _, _, _, _, _, _, _, _, _, _, _, _, _ => none
  | k + 1, x2, x9, x73002000, x73002001, x73002002, x73002003, x73003000, x73003001, x73003002, x73003003, x73012000, x73012001, x73012002, x73012003 => if x9 < (x2.length : Int) then (if 0 ≤ x9 then ((spec_validBox.f x73002000 x73002001 x73002002 x73002003 ((rd_T47 x2 x9).f0) ((rd_T47 x2 x9).f1) ((rd_T47 x2 x9).f2) ((rd_T47 x2 x9).f3)).bind fun t73013 => (if t73013 = true then ((spec_crop.f k x73003000 x73003001 x73003002 x73003003 ((rd_T47 x2 x9).f0) ((rd_T47 x2 x9).f1) ((rd_T47 x2 x9).f2) ((rd_T47 x2 x9).f3)).bind fun bt73020 => ((spec_paste.f k x73012000 x73012001 x73012002 x73012003 ((rd_T47 x2 x9).f0) ((rd_T47 x2 x9).f1) bt73020.1 bt73020.2.1 bt73020.2.2.1 bt73020.2.2.2).bind fun t73026 => (spec_PatchImage.l0 k x2 (wrap64 (x9 + 1)) x73002000 x73002001 x73002002 x73002003 x73003000 x73003001 x73003002 x73003003 x73012000 x73012001 x73012002 t73026))) else (some (0, 0, 0, ([] : List Int), false)))) else (none)) else (some (x73012000, x73012001, x73012002, x73012003, true))
end
def spec_PatchImage.f (k : Nat) (a0_0 : Int) (a0_1 : Int) (a0_2 : Int) (l0_3 : List Int) (a1_0 : Int) (a1_1 : Int) (a1_2 : Int) (l1_3 : List Int) (l2 : List (S47)) : Option (Int × Int × Int × List Int × Bool) := (spec_sameShape.f k a0_0 a0_1 a0_2 l0_3 a1_0 a1_1 a1_2 l1_3).bind fun t73004 => (if t73004 = true then (spec_PatchImage.j0 k l2 (decide ((l2.length : Int) > 128)) a0_0 a0_1 a0_2 l0_3 a1_0 a1_1 a1_2 l1_3) else (spec_PatchImage.j0 k l2 true a0_0 a0_1 a0_2 l0_3 a1_0 a1_1 a1_2 l1_3))
theorem spec_PatchImage.mono_l : ∀ k, (∀ y0 y1 y2 y3 y4 y5 y6 y7 y8 y9, LeO (spec_PatchImage.j0 k y0 y1 y2 y3 y4 y5 y6 y7 y8 y9) (spec_PatchImage.j0 (k + 1) y0 y1 y2 y3 y4 y5 y6 y7 y8 y9)) ∧ (∀ y0 y1 y2 y3 y4 y5 y6 y7 y8 y9 y10 y11 y12 y13, LeO (spec_PatchImage.l0 k y0 y1 y2 y3 y4 y5 y6 y7 y8 y9 y10 y11 y12 y13) (spec_PatchImage.l0 (k + 1) y0 y1 y2 y3 y4 y5 y6 y7 y8 y9 y10 y11 y12 y13))
  | 0 => ⟨fun _ _ _ _ _ _ _ _ _ _ r h => by simp [spec_PatchImage.j0] at h, fun _ _ _ _ _ _ _ _ _ _ _ _ _ _ r h => by simp [spec_PatchImage.l0] at h⟩
  | k + 1 => by
    obtain ⟨ih0, ih1⟩ := spec_PatchImage.mono_l k
    refine ⟨?_, ?_⟩
    · intro y0 y1 y2 y3 y4 y5 y6 y7 y8 y9
      unfold spec_PatchImage.j0
      repeat' first
      | (with_reducible exact ih0 _ _ _ _ _ _ _ _ _ _)
      | (with_reducible exact ih1 _ _ _ _ _ _ _ _ _ _ _ _ _ _)
      | (with_reducible exact spec_crop.mono _ _ _ _ _ _ _ _ _)
      | (with_reducible exact spec_paste.mono _ _ _ _ _ _ _ _ _ _ _)
      | (with_reducible exact spec_sameShape.mono _ _ _ _ _ _ _ _ _)
      | (with_reducible exact LeO.refl _)
      | (with_reducible exact LeO.none _)
      | (with_reducible refine LeO.ite ?_ ?_)
      | (with_reducible refine LeO.bind ?_ (fun _ => ?_))
      | exact ih0 _ _ _ _ _ _ _ _ _ _
      | exact ih1 _ _ _ _ _ _ _ _ _ _ _ _ _ _
      | exact spec_crop.mono _ _ _ _ _ _ _ _ _
      | exact spec_paste.mono _ _ _ _ _ _ _ _ _ _ _
      | exact spec_sameShape.mono _ _ _ _ _ _ _ _ _
      | exact LeO.none _
      | refine LeO.ite ?_ ?_
      | refine LeO.bind ?_ (fun _ => ?_)
    · intro y0 y1 y2 y3 y4 y5 y6 y7 y8 y9 y10 y11 y12 y13
      unfold spec_PatchImage.l0
      repeat' first
      | (with_reducible exact ih0 _ _ _ _ _ _ _ _ _ _)
      | (with_reducible exact ih1 _ _ _ _ _ _ _ _ _ _ _ _ _ _)
      | (with_reducible exact spec_crop.mono _ _ _ _ _ _ _ _ _)
      | (with_reducible exact spec_paste.mono _ _ _ _ _ _ _ _ _ _ _)
      | (with_reducible exact spec_sameShape.mono _ _ _ _ _ _ _ _ _)
      | (with_reducible exact LeO.refl _)
      | (with_reducible exact LeO.none _)
      | (with_reducible refine LeO.ite ?_ ?_)
      | (with_reducible refine LeO.bind ?_ (fun _ => ?_))
      | exact ih0 _ _ _ _ _ _ _ _ _ _
      | exact ih1 _ _ _ _ _ _ _ _ _ _ _ _ _ _
      | exact spec_crop.mono _ _ _ _ _ _ _ _ _
      | exact spec_paste.mono _ _ _ _ _ _ _ _ _ _ _
      | exact spec_sameShape.mono _ _ _ _ _ _ _ _ _
      | exact LeO.none _
      | refine LeO.ite ?_ ?_
      | refine LeO.bind ?_ (fun _ => ?_)
theorem spec_PatchImage.mono : ∀ a0 a1 a2 a3 a4 a5 a6 a7 a8 k, LeO (spec_PatchImage.f k a0 a1 a2 a3 a4 a5 a6 a7 a8) (spec_PatchImage.f (k + 1) a0 a1 a2 a3 a4 a5 a6 a7 a8) := by
  intro a0 a1 a2 a3 a4 a5 a6 a7 a8 k
  obtain ⟨ih0, ih1⟩ := spec_PatchImage.mono_l k
  unfold spec_PatchImage.f
  repeat' first
      | (with_reducible exact ih0 _ _ _ _ _ _ _ _ _ _)
      | (with_reducible exact ih1 _ _ _ _ _ _ _ _ _ _ _ _ _ _)
      | (with_reducible exact spec_crop.mono _ _ _ _ _ _ _ _ _)
      | (with_reducible exact spec_paste.mono _ _ _ _ _ _ _ _ _ _ _)
      | (with_reducible exact spec_sameShape.mono _ _ _ _ _ _ _ _ _)
      | (with_reducible exact LeO.refl _)
      | (with_reducible exact LeO.none _)
      | (with_reducible refine LeO.ite ?_ ?_)
      | (with_reducible refine LeO.bind ?_ (fun _ => ?_))
      | exact ih0 _ _ _ _ _ _ _ _ _ _
      | exact ih1 _ _ _ _ _ _ _ _ _ _ _ _ _ _
      | exact spec_crop.mono _ _ _ _ _ _ _ _ _
      | exact spec_paste.mono _ _ _ _ _ _ _ _ _ _ _
      | exact spec_sameShape.mono _ _ _ _ _ _ _ _ _
      | exact LeO.none _
      | refine LeO.ite ?_ ?_
      | refine LeO.bind ?_ (fun _ => ?_)
def spec_PatchImage.T9 : Bool × List (List Nat × List Nat) := (true, [([], []), ([], []), ([], []), ([1, 2], [1, 2]), ([3], [3]), ([4], [4]), ([], []), ([], []), ([6, 7], [6, 7]), ([8], [8]), ([9], [9]), ([], []), ([], []), ([], []), ([12, 13], [12, 13]), ([14], [14]), ([15], [15]), ([], []), ([], []), ([17, 18], [17, 18]), ([19], [19]), ([20], [20]), ([], []), ([], []), ([22, 23], [22, 23]), ([24], [24]), ([25], [25]), ([], []), ([], []), ([27, 28], [27, 28]), ([29], [29]), ([30], [30]), ([11, 16, 21, 26, 31], [11, 16, 21, 26, 31]), ([0, 5, 10, 32, 32], [0, 5, 10, 32])])
def spec_PatchImage.B9 : List Nat := [0, 0, 0, 6, 14, 30, 0, 0, 192, 448, 960, 0, 0, 0, 12288, 28672, 61440, 0, 0, 393216, 917504, 1966080, 0, 0, 12582912, 29360128, 62914560, 0, 0, 402653184, 939524096, 2013265920, 4294965248, 8589934591]
theorem spec_PatchImage.tab9 : rtab .any (opsOf Try.f72 9) = spec_PatchImage.T9 := by kernel_rfl
theorem spec_PatchImage.bits9 : waitsOk spec_PatchImage.T9.2 spec_PatchImage.B9 = true := by kernel_rfl
set_option maxHeartbeats 8000000 in
set_option maxRecDepth 100000 in
theorem spec_PatchImage.calls (k : Nat) (a0_0 : Int) (a0_1 : Int) (a0_2 : Int) (A0_3 : Option Addr) (c0_3 : Nat) (l0_3 : List Int) (a1_0 : Int) (a1_1 : Int) (a1_2 : Int) (A1_3 : Option Addr) (c1_3 : Nat) (l1_3 : List Int) (A2 : Option Addr) (c2 : Nat) (l2 : List (S47)) (r1 : Int) (r2 : Int) (r3 : Int) (r4 : List Int) (r5 : Bool) (w : World) (hr0_3 : Kd.C (Kd.int .i64) w A0_3 l0_3.length l0_3) (hc0_3 : l0_3.length ≤ c0_3) (hr1_3 : Kd.C (Kd.int .i64) w A1_3 l1_3.length l1_3) (hc1_3 : l1_3.length ≤ c1_3) (hr2 : Kd.C k47 w A2 l2.length l2) (hc2 : l2.length ≤ c2) (h : spec_PatchImage.f k a0_0 a0_1 a0_2 l0_3 a1_0 a1_1 a1_2 l1_3 l2 = some (r1, r2, r3, r4, r5)) :
    Calls Try.prog 72 #[.agg #[.int .i64 a0_0, .int .i64 a0_1, .int .i64 a0_2, .slice A0_3 l0_3.length c0_3], .agg #[.int .i64 a1_0, .int .i64 a1_1, .int .i64 a1_2, .slice A1_3 l1_3.length c1_3], .slice A2 l2.length c2] w fun e w' => ∃ v3_ : Value, e = .returned (.tuple #[.agg #[.int .i64 r1, .int .i64 r2, .int .i64 r3, v3_], .bool r5]) ∧ Kd.R (Kd.int .i64) 3 w' w.heap.size (fun _ => True) v3_ r4 ∧ Below w.heap.size w w' := by
  have hu27 := Try.underlying27
  have hu47 := Try.underlying47
  have HR0_3 := Aside0.mk hr0_3
  have HC0_3 := Aside0.mk hc0_3
  clear hr0_3 hc0_3
  have HR1_3 := Aside0.mk hr1_3
  have HC1_3 := Aside0.mk hc1_3
  clear hr1_3 hc1_3
  have HR2 := Aside0.mk hr2
  have HC2 := Aside0.mk hc2
  clear hr2 hc2
  have HB := Aside0.mk (Below.refl w.heap.size w)
  have H : ((spec_sameShape.f k a0_0 a0_1 a0_2 l0_3 a1_0 a1_1 a1_2 l1_3).bind fun t73004 => (if t73004 = true then (spec_PatchImage.j0 k l2 (decide ((l2.length : Int) > 128)) a0_0 a0_1 a0_2 l0_3 a1_0 a1_1 a1_2 l1_3) else (spec_PatchImage.j0 k l2 true a0_0 a0_1 a0_2 l0_3 a1_0 a1_1 a1_2 l1_3))) = some (r1, r2, r3, r4, r5) := h
  clear h
  have HC4 := Aside0.mk H
  clear H
  go_enter Try.func72, Try.ntmps72
  go_upto_region 1 with (first | ((with_reducible refine gate_dst (N := 3) rfl ?_); (try (refine gate_guard (by rfl) ?_; dsimp only)); refine box_event ?hg (N := 3) ?hd (cs := #[.int .i64 a0_0, .int .i64 a0_1, .int .i64 a0_2, .slice A0_3 l0_3.length c0_3]) (t := 27) ?hr ?_; (case hd => rfl); (case hg => rfl); (case hr => first | (go_simp; done) | (go_simp; rfl)); intro gb73001 hg w5 hbox hb; have n0_ := Aside0.mk (below_step (by repeat (first | (with_reducible first | exact HB.out | apply below_alloc | apply pw_below_drewN | apply below_drew1) | exact HB.out)) hb); have n1_ := Aside0.mk (hbox); have n2_ := Aside0.mk ((by rw [hg]; exact (below_size (by repeat (first | (with_reducible first | exact HB.out | apply below_alloc | apply pw_below_drewN | apply below_drew1) | exact HB.out))) : w.heap.size ≤ gb73001)); have n3_ := Aside0.mk ((by rw [hg]; exact (below_size (by repeat (first | (with_reducible first | exact HB.out | apply below_alloc | apply pw_below_drewN | apply below_drew1) | exact HB.out))) : w.heap.size ≤ gb73001)); clear HB; have HB := n0_; have BK73001 := n1_; have GW73001 := n2_; have GE73001 := n3_; clear n0_ n1_ n2_ n3_; clear hb hbox hg) | ((with_reducible refine gate_dst (N := 4) rfl ?_); (try (refine gate_guard (by rfl) ?_; dsimp only)); refine box_event ?hg (N := 4) ?hd (cs := #[.int .i64 a1_0, .int .i64 a1_1, .int .i64 a1_2, .slice A1_3 l1_3.length c1_3]) (t := 27) ?hr ?_; (case hd => rfl); (case hg => rfl); (case hr => first | (go_simp; done) | (go_simp; rfl)); intro gb73002 hg w6 hbox hb; have n0_ := Aside0.mk (blk_below (g := gb73001) (o := .cells #[.int .i64 a0_0, .int .i64 a0_1, .int .i64 a0_2, .slice A0_3 l0_3.length c0_3] 27 (0, 0)) (by (with_reducible repeat (first | refine blk_drewN ?_ _ | refine blk_drew ?_ | refine blk_alloc ?_ _)); exact BK73001.out) hb); have n1_ := Aside0.mk (below_step (by repeat (first | (with_reducible first | exact HB.out | apply below_alloc | apply pw_below_drewN | apply below_drew1 | refine below_set ?_ GE73001.out) | exact HB.out)) hb); have n2_ := Aside0.mk (hbox); have n3_ := Aside0.mk ((by rw [hg]; exact (below_size (by repeat (first | (with_reducible first | exact HB.out | apply below_alloc | apply pw_below_drewN | apply below_drew1 | refine below_set ?_ GE73001.out) | exact HB.out))) : w.heap.size ≤ gb73002)); have n4_ := Aside0.mk ((by rw [hg]; exact (below_size (by repeat (first | (with_reducible first | exact HB.out | apply below_alloc | apply pw_below_drewN | apply below_drew1 | refine below_set ?_ GE73001.out) | exact HB.out))) : w.heap.size ≤ gb73002)); have n5_ := Aside0.mk ((by rw [hg]; exact Nat.ne_of_lt (blk_lt (g := gb73001) (o := .cells #[.int .i64 a0_0, .int .i64 a0_1, .int .i64 a0_2, .slice A0_3 l0_3.length c0_3] 27 (0, 0)) (by (with_reducible repeat (first | refine blk_drewN ?_ _ | refine blk_drew ?_ | refine blk_alloc ?_ _)); exact BK73001.out)) : gb73001 ≠ gb73002)); have n6_ := Aside0.mk ((by rw [hg]; exact Nat.ne_of_gt (blk_lt (g := gb73001) (o := .cells #[.int .i64 a0_0, .int .i64 a0_1, .int .i64 a0_2, .slice A0_3 l0_3.length c0_3] 27 (0, 0)) (by (with_reducible repeat (first | refine blk_drewN ?_ _ | refine blk_drew ?_ | refine blk_alloc ?_ _)); exact BK73001.out)) : gb73002 ≠ gb73001)); clear BK73001; clear HB; have BK73001 := n0_; have HB := n1_; have BK73002 := n2_; have GW73002 := n3_; have GE73002 := n4_; have NB73001_73002 := n5_; have NB73002_73001 := n6_; clear n0_ n1_ n2_ n3_ n4_ n5_ n6_; clear hb hbox hg) | ((with_reducible refine gate_dst (N := 6) rfl ?_); (try (refine gate_guard (by rfl) ?_; dsimp only)); refine box_event ?hg (N := 6) ?hd (cs := #[.int .i64 0, .int .i64 0, .int .i64 0, .slice none 0 0]) (t := 27) ?hr ?_; (case hd => rfl); (case hg => rfl); (case hr => first | (go_simp; done) | (go_simp; rfl)); intro gb73003 hg w7 hbox hb; have n0_ := Aside0.mk (blk_below (g := gb73001) (o := .cells #[.int .i64 a0_0, .int .i64 a0_1, .int .i64 a0_2, .slice A0_3 l0_3.length c0_3] 27 (0, 0)) (by (with_reducible repeat (first | refine blk_drewN ?_ _ | refine blk_drew ?_ | refine blk_alloc ?_ _)); exact BK73001.out) hb); have n1_ := Aside0.mk (blk_below (g := gb73002) (o := .cells #[.int .i64 a1_0, .int .i64 a1_1, .int .i64 a1_2, .slice A1_3 l1_3.length c1_3] 27 (0, 0)) (by (with_reducible repeat (first | refine blk_drewN ?_ _ | refine blk_drew ?_ | refine blk_alloc ?_ _)); exact BK73002.out) hb); have n2_ := Aside0.mk (below_step (by repeat (first | (with_reducible first | exact HB.out | apply below_alloc | apply pw_below_drewN | apply below_drew1 | refine below_set ?_ GE73001.out | refine below_set ?_ GE73002.out) | exact HB.out)) hb); have n3_ := Aside0.mk (hbox); have n4_ := Aside0.mk ((by rw [hg]; exact (below_size (by repeat (first | (with_reducible first | exact HB.out | apply below_alloc | apply pw_below_drewN | apply below_drew1 | refine below_set ?_ GE73001.out | refine below_set ?_ GE73002.out) | exact HB.out))) : w.heap.size ≤ gb73003)); have n5_ := Aside0.mk ((by rw [hg]; exact (below_size (by repeat (first | (with_reducible first | exact HB.out | apply below_alloc | apply pw_below_drewN | apply below_drew1 | refine below_set ?_ GE73001.out | refine below_set ?_ GE73002.out) | exact HB.out))) : w.heap.size ≤ gb73003)); have n6_ := Aside0.mk ((by rw [hg]; exact Nat.ne_of_lt (blk_lt (g := gb73001) (o := .cells #[.int .i64 a0_0, .int .i64 a0_1, .int .i64 a0_2, .slice A0_3 l0_3.length c0_3] 27 (0, 0)) (by (with_reducible repeat (first | refine blk_drewN ?_ _ | refine blk_drew ?_ | refine blk_alloc ?_ _)); exact BK73001.out)) : gb73001 ≠ gb73003)); have n7_ := Aside0.mk ((by rw [hg]; exact Nat.ne_of_gt (blk_lt (g := gb73001) (o := .cells #[.int .i64 a0_0, .int .i64 a0_1, .int .i64 a0_2, .slice A0_3 l0_3.length c0_3] 27 (0, 0)) (by (with_reducible repeat (first | refine blk_drewN ?_ _ | refine blk_drew ?_ | refine blk_alloc ?_ _)); exact BK73001.out)) : gb73003 ≠ gb73001)); have n8_ := Aside0.mk ((by rw [hg]; exact Nat.ne_of_lt (blk_lt (g := gb73002) (o := .cells #[.int .i64 a1_0, .int .i64 a1_1, .int .i64 a1_2, .slice A1_3 l1_3.length c1_3] 27 (0, 0)) (by (with_reducible repeat (first | refine blk_drewN ?_ _ | refine blk_drew ?_ | refine blk_alloc ?_ _)); exact BK73002.out)) : gb73002 ≠ gb73003)); have n9_ := Aside0.mk ((by rw [hg]; exact Nat.ne_of_gt (blk_lt (g := gb73002) (o := .cells #[.int .i64 a1_0, .int .i64 a1_1, .int .i64 a1_2, .slice A1_3 l1_3.length c1_3] 27 (0, 0)) (by (with_reducible repeat (first | refine blk_drewN ?_ _ | refine blk_drew ?_ | refine blk_alloc ?_ _)); exact BK73002.out)) : gb73003 ≠ gb73002)); clear BK73001; clear BK73002; clear HB; have BK73001 := n0_; have BK73002 := n1_; have HB := n2_; have BK73003 := n3_; have GW73003 := n4_; have GE73003 := n5_; have NB73001_73003 := n6_; have NB73003_73001 := n7_; have NB73002_73003 := n8_; have NB73003_73002 := n9_; clear n0_ n1_ n2_ n3_ n4_ n5_ n6_ n7_ n8_ n9_; clear hb hbox hg))
  (try simp only [Act.put, List.setIfInBounds_toArray, List.set_cons_zero, List.set_cons_succ])
  go_cut [18] (fun v18 wc => ∃ (kq : Nat) (x18_3 : Bool), v18 = .bool x18_3 ∧ Aside0 (spec_PatchImage.j0 kq l2 x18_3 a0_0 a0_1 a0_2 l0_3 a1_0 a1_1 a1_2 l1_3 = some (r1, r2, r3, r4, r5)) ∧ Aside0 (kq ≤ k) ∧ Aside0 (wc.heap[gb73001]? = some (.cells #[.int .i64 a0_0, .int .i64 a0_1, .int .i64 a0_2, (.slice A0_3 l0_3.length c0_3)] 27 (0, 0))) ∧ Aside0 (wc.heap[gb73002]? = some (.cells #[.int .i64 a1_0, .int .i64 a1_1, .int .i64 a1_2, (.slice A1_3 l1_3.length c1_3)] 27 (0, 0))) ∧ Aside0 (wc.heap[gb73003]? = some (.cells #[.int .i64 0, .int .i64 0, .int .i64 0, (.slice none 0 0)] 27 (0, 0))) ∧ Aside0 (Below w.heap.size w wc))
  case first =>
    have H := HC4.out
    clear HC4
    replace H := Option.bind_eq_some_iff.mp H
    obtain ⟨t73004, A80, H⟩ := H
    replace H : (if t73004 = true then (spec_PatchImage.j0 k l2 (decide ((l2.length : Int) > 128)) a0_0 a0_1 a0_2 l0_3 a1_0 a1_1 a1_2 l1_3) else (spec_PatchImage.j0 k l2 true a0_0 a0_1 a0_2 l0_3 a1_0 a1_1 a1_2 l1_3)) = some (r1, r2, r3, r4, r5) := H
    have A8 := Aside0.mk A80
    clear A80
    by_cases c9 : t73004 = true
    · subst c9
      have H1 : (spec_PatchImage.j0 k l2 (decide ((l2.length : Int) > 128)) a0_0 a0_1 a0_2 l0_3 a1_0 a1_1 a1_2 l1_3) = some (r1, r2, r3, r4, r5) := by rw [if_pos rfl] at H; exact H
      clear H
      have H := H1
      clear H1
      have H' := Aside0.mk H
      clear H
      have hnb10 := NB73001_73002.out
      have hnc10 := NB73002_73001.out
      have hnb11 := NB73001_73003.out
      have hnc11 := NB73003_73001.out
      have hcz12_0 : w7.cell? ⟨gb73001, 0, none⟩ = some (.int .i64 a0_0) := (blk_cell BK73001.out 0).trans rfl
      have hcz12_1 : w7.cell? ⟨gb73001, 1, none⟩ = some (.int .i64 a0_1) := (blk_cell BK73001.out 1).trans rfl
      have hcz12_2 : w7.cell? ⟨gb73001, 2, none⟩ = some (.int .i64 a0_2) := (blk_cell BK73001.out 2).trans rfl
      have hcz12_3 : w7.cell? ⟨gb73001, 3, none⟩ = some (.slice A0_3 l0_3.length c0_3) := (blk_cell BK73001.out 3).trans rfl
      have hfz12_0 := blk_frozen BK73001.out 0
      have hfz12_1 := blk_frozen BK73001.out 1
      have hfz12_2 := blk_frozen BK73001.out 2
      have hfz12_3 := blk_frozen BK73001.out 3
      have hnb13 := NB73002_73003.out
      have hnc13 := NB73003_73002.out
      have hcz14_0 : w7.cell? ⟨gb73002, 0, none⟩ = some (.int .i64 a1_0) := (blk_cell BK73002.out 0).trans rfl
      have hcz14_1 : w7.cell? ⟨gb73002, 1, none⟩ = some (.int .i64 a1_1) := (blk_cell BK73002.out 1).trans rfl
      have hcz14_2 : w7.cell? ⟨gb73002, 2, none⟩ = some (.int .i64 a1_2) := (blk_cell BK73002.out 2).trans rfl
      have hcz14_3 : w7.cell? ⟨gb73002, 3, none⟩ = some (.slice A1_3 l1_3.length c1_3) := (blk_cell BK73002.out 3).trans rfl
      have hfz14_0 := blk_frozen BK73002.out 0
      have hfz14_1 := blk_frozen BK73002.out 1
      have hfz14_2 := blk_frozen BK73002.out 2
      have hfz14_3 := blk_frozen BK73002.out 3
      go_wp2_with (first | ((with_reducible refine gate_callee (f := 81) rfl ?_); refine goesL_ (some 12) rfl rfl Try.func81 (by kernel_rfl) rfl #[.agg #[.int .i64 a0_0, .int .i64 a0_1, .int .i64 a0_2, .slice A0_3 l0_3.length c0_3], .agg #[.int .i64 a1_0, .int .i64 a1_1, .int .i64 a1_2, .slice A1_3 l1_3.length c1_3]] rfl (by (try simp only [List.map_toArray, List.map_cons, List.map_nil]); first | done | rfl | (simp only [List.length_drop, List.length_take]; rfl)) ?_; (with_reducible refine (spec_sameShape.calls k a0_0 a0_1 a0_2 _ _ l0_3 a1_0 a1_1 a1_2 _ _ l1_3 true _ ?side1 ?side2 ?side3 ?side4 A8.out).mono ?_); (case side1 => repeat (first | exact (Kd.C_below HR0_3.out HB.out) | (with_reducible refine Kd.C_alloc ?_ _) | (with_reducible refine Kd.C_drewN ?_ _) | (with_reducible refine Kd.C_drew ?_))); (case side2 => exact HC0_3.out); (case side3 => repeat (first | exact (Kd.C_below HR1_3.out HB.out) | (with_reducible refine Kd.C_alloc ?_ _) | (with_reducible refine Kd.C_drewN ?_ _) | (with_reducible refine Kd.C_drew ?_))); (case side4 => exact HC1_3.out); rintro e w15 ⟨rfl, hb⟩; refine ⟨_, rfl, ?_⟩; have n0_ := Aside0.mk (blk_below (g := gb73001) (o := .cells #[.int .i64 a0_0, .int .i64 a0_1, .int .i64 a0_2, .slice A0_3 l0_3.length c0_3] 27 (0, 0)) (by (with_reducible repeat (first | refine blk_drewN ?_ _ | refine blk_drew ?_ | refine blk_alloc ?_ _)); exact BK73001.out) hb); have n1_ := Aside0.mk (blk_below (g := gb73002) (o := .cells #[.int .i64 a1_0, .int .i64 a1_1, .int .i64 a1_2, .slice A1_3 l1_3.length c1_3] 27 (0, 0)) (by (with_reducible repeat (first | refine blk_drewN ?_ _ | refine blk_drew ?_ | refine blk_alloc ?_ _)); exact BK73002.out) hb); have n2_ := Aside0.mk (blk_below (g := gb73003) (o := .cells #[.int .i64 0, .int .i64 0, .int .i64 0, .slice none 0 0] 27 (0, 0)) (by (with_reducible repeat (first | refine blk_drewN ?_ _ | refine blk_drew ?_ | refine blk_alloc ?_ _)); exact BK73003.out) hb); have n3_ := Aside0.mk (below_step (by repeat (first | (with_reducible first | exact HB.out | apply below_alloc | apply pw_below_drewN | apply below_drew1 | refine below_set ?_ GE73001.out | refine below_set ?_ GE73002.out | refine below_set ?_ GE73003.out) | exact HB.out)) hb); clear BK73001; clear BK73002; clear BK73003; clear HB; have BK73001 := n0_; have BK73002 := n1_; have BK73003 := n2_; have HB := n3_; clear n0_ n1_ n2_ n3_; (try clear hb); (try clear hb2); (try clear hk); (try clear hi)))
      go_meet
      case rel => exact ⟨_, (decide ((l2.length : Int) > 128)), (by first | rfl | (simp; done) | (simp [*]; done)), H', ⟨by first | omega | exact Nat.le_refl _⟩, ⟨by (with_reducible repeat (first | refine blk_drewN ?_ _ | refine blk_drew ?_ | refine blk_alloc ?_ _)); exact BK73001.out⟩, ⟨by (with_reducible repeat (first | refine blk_drewN ?_ _ | refine blk_drew ?_ | refine blk_alloc ?_ _)); exact BK73002.out⟩, ⟨by (with_reducible repeat (first | refine blk_drewN ?_ _ | refine blk_drew ?_ | refine blk_alloc ?_ _)); exact BK73003.out⟩, ⟨by repeat (first | (with_reducible first | exact HB.out | apply below_alloc | apply pw_below_drewN | apply below_drew1 | refine below_set ?_ GE73001.out | refine below_set ?_ GE73002.out | refine below_set ?_ GE73003.out) | exact HB.out)⟩⟩
    · replace c9 := Bool.eq_false_iff.mpr c9
      subst c9
      have H1 : (spec_PatchImage.j0 k l2 true a0_0 a0_1 a0_2 l0_3 a1_0 a1_1 a1_2 l1_3) = some (r1, r2, r3, r4, r5) := by rw [if_neg (show ¬ (false = true) by decide)] at H; exact H
      clear H
      have H := H1
      clear H1
      have H' := Aside0.mk H
      clear H
      have hnb16 := NB73001_73002.out
      have hnc16 := NB73002_73001.out
      have hnb17 := NB73001_73003.out
      have hnc17 := NB73003_73001.out
      have hcz18_0 : w7.cell? ⟨gb73001, 0, none⟩ = some (.int .i64 a0_0) := (blk_cell BK73001.out 0).trans rfl
      have hcz18_1 : w7.cell? ⟨gb73001, 1, none⟩ = some (.int .i64 a0_1) := (blk_cell BK73001.out 1).trans rfl
      have hcz18_2 : w7.cell? ⟨gb73001, 2, none⟩ = some (.int .i64 a0_2) := (blk_cell BK73001.out 2).trans rfl
      have hcz18_3 : w7.cell? ⟨gb73001, 3, none⟩ = some (.slice A0_3 l0_3.length c0_3) := (blk_cell BK73001.out 3).trans rfl
      have hfz18_0 := blk_frozen BK73001.out 0
      have hfz18_1 := blk_frozen BK73001.out 1
      have hfz18_2 := blk_frozen BK73001.out 2
      have hfz18_3 := blk_frozen BK73001.out 3
      have hnb19 := NB73002_73003.out
      have hnc19 := NB73003_73002.out
      have hcz20_0 : w7.cell? ⟨gb73002, 0, none⟩ = some (.int .i64 a1_0) := (blk_cell BK73002.out 0).trans rfl
      have hcz20_1 : w7.cell? ⟨gb73002, 1, none⟩ = some (.int .i64 a1_1) := (blk_cell BK73002.out 1).trans rfl
      have hcz20_2 : w7.cell? ⟨gb73002, 2, none⟩ = some (.int .i64 a1_2) := (blk_cell BK73002.out 2).trans rfl
      have hcz20_3 : w7.cell? ⟨gb73002, 3, none⟩ = some (.slice A1_3 l1_3.length c1_3) := (blk_cell BK73002.out 3).trans rfl
      have hfz20_0 := blk_frozen BK73002.out 0
      have hfz20_1 := blk_frozen BK73002.out 1
      have hfz20_2 := blk_frozen BK73002.out 2
      have hfz20_3 := blk_frozen BK73002.out 3
      go_wp2_with (first | ((with_reducible refine gate_callee (f := 81) rfl ?_); refine goesL_ (some 12) rfl rfl Try.func81 (by kernel_rfl) rfl #[.agg #[.int .i64 a0_0, .int .i64 a0_1, .int .i64 a0_2, .slice A0_3 l0_3.length c0_3], .agg #[.int .i64 a1_0, .int .i64 a1_1, .int .i64 a1_2, .slice A1_3 l1_3.length c1_3]] rfl (by (try simp only [List.map_toArray, List.map_cons, List.map_nil]); first | done | rfl | (simp only [List.length_drop, List.length_take]; rfl)) ?_; (with_reducible refine (spec_sameShape.calls k a0_0 a0_1 a0_2 _ _ l0_3 a1_0 a1_1 a1_2 _ _ l1_3 false _ ?side1 ?side2 ?side3 ?side4 A8.out).mono ?_); (case side1 => repeat (first | exact (Kd.C_below HR0_3.out HB.out) | (with_reducible refine Kd.C_alloc ?_ _) | (with_reducible refine Kd.C_drewN ?_ _) | (with_reducible refine Kd.C_drew ?_))); (case side2 => exact HC0_3.out); (case side3 => repeat (first | exact (Kd.C_below HR1_3.out HB.out) | (with_reducible refine Kd.C_alloc ?_ _) | (with_reducible refine Kd.C_drewN ?_ _) | (with_reducible refine Kd.C_drew ?_))); (case side4 => exact HC1_3.out); rintro e w21 ⟨rfl, hb⟩; refine ⟨_, rfl, ?_⟩; have n0_ := Aside0.mk (blk_below (g := gb73001) (o := .cells #[.int .i64 a0_0, .int .i64 a0_1, .int .i64 a0_2, .slice A0_3 l0_3.length c0_3] 27 (0, 0)) (by (with_reducible repeat (first | refine blk_drewN ?_ _ | refine blk_drew ?_ | refine blk_alloc ?_ _)); exact BK73001.out) hb); have n1_ := Aside0.mk (blk_below (g := gb73002) (o := .cells #[.int .i64 a1_0, .int .i64 a1_1, .int .i64 a1_2, .slice A1_3 l1_3.length c1_3] 27 (0, 0)) (by (with_reducible repeat (first | refine blk_drewN ?_ _ | refine blk_drew ?_ | refine blk_alloc ?_ _)); exact BK73002.out) hb); have n2_ := Aside0.mk (blk_below (g := gb73003) (o := .cells #[.int .i64 0, .int .i64 0, .int .i64 0, .slice none 0 0] 27 (0, 0)) (by (with_reducible repeat (first | refine blk_drewN ?_ _ | refine blk_drew ?_ | refine blk_alloc ?_ _)); exact BK73003.out) hb); have n3_ := Aside0.mk (below_step (by repeat (first | (with_reducible first | exact HB.out | apply below_alloc | apply pw_below_drewN | apply below_drew1 | refine below_set ?_ GE73001.out | refine below_set ?_ GE73002.out | refine below_set ?_ GE73003.out) | exact HB.out)) hb); clear BK73001; clear BK73002; clear BK73003; clear HB; have BK73001 := n0_; have BK73002 := n1_; have BK73003 := n2_; have HB := n3_; clear n0_ n1_ n2_ n3_; (try clear hb); (try clear hb2); (try clear hk); (try clear hi)))
      go_meet
      case rel => exact ⟨_, (true), (by first | rfl | (simp; done) | (simp [*]; done)), H', ⟨by first | omega | exact Nat.le_refl _⟩, ⟨by (with_reducible repeat (first | refine blk_drewN ?_ _ | refine blk_drew ?_ | refine blk_alloc ?_ _)); exact BK73001.out⟩, ⟨by (with_reducible repeat (first | refine blk_drewN ?_ _ | refine blk_drew ?_ | refine blk_alloc ?_ _)); exact BK73002.out⟩, ⟨by (with_reducible repeat (first | refine blk_drewN ?_ _ | refine blk_drew ?_ | refine blk_alloc ?_ _)); exact BK73003.out⟩, ⟨by repeat (first | (with_reducible first | exact HB.out | apply below_alloc | apply pw_below_drewN | apply below_drew1 | refine below_set ?_ GE73001.out | refine below_set ?_ GE73002.out | refine below_set ?_ GE73003.out) | exact HB.out)⟩⟩
  case rest =>
    clear HC4
    try clear c1
    try clear c2
    try clear p2
    try clear c7
    try clear c8
    try clear c9
    try clear c10
    try clear c11
    try clear c13
    try clear c16
    try clear c17
    try clear c19
    try clear hcz12_0
    try clear hcz12_1
    try clear hcz12_2
    try clear hcz12_3
    try clear hcz14_0
    try clear hcz14_1
    try clear hcz14_2
    try clear hcz14_3
    try clear hcz18_0
    try clear hcz18_1
    try clear hcz18_2
    try clear hcz18_3
    try clear hcz20_0
    try clear hcz20_1
    try clear hcz20_2
    try clear hcz20_3
    try clear hfz12_0
    try clear hfz12_1
    try clear hfz12_2
    try clear hfz12_3
    try clear hfz14_0
    try clear hfz14_1
    try clear hfz14_2
    try clear hfz14_3
    try clear hfz18_0
    try clear hfz18_1
    try clear hfz18_2
    try clear hfz18_3
    try clear hfz20_0
    try clear hfz20_1
    try clear hfz20_2
    try clear hfz20_3
    obtain ⟨kq, x18_3, rfl, HA, HJ3, BK73001, BK73002, BK73003, HB⟩ := hcut
    cases kq with
    | zero => exact absurd HA.out (by simp [spec_PatchImage.j0])
    | succ kj3 =>
      have H := HA.out
      clear HA
      simp only [spec_PatchImage.j0] at H
      by_cases c22 : x18_3 = true
      · subst c22
        have H1 : (some (0, 0, 0, ([] : List Int), false)) = some (r1, r2, r3, r4, r5) := by rw [if_pos rfl] at H; exact H
        clear H
        have H := H1
        clear H1
        simp only [Option.some.injEq, Prod.mk.injEq] at H
        obtain ⟨rfl, rfl, rfl, rfl, rfl⟩ := H
        have hnb23 := NB73003_73001.out
        have hnc23 := NB73001_73003.out
        have hnb24 := NB73003_73002.out
        have hnc24 := NB73002_73003.out
        have hcz25_0 : wc.cell? ⟨gb73003, 0, none⟩ = some (.int .i64 0) := (blk_cell BK73003.out 0).trans rfl
        have hcz25_1 : wc.cell? ⟨gb73003, 1, none⟩ = some (.int .i64 0) := (blk_cell BK73003.out 1).trans rfl
        have hcz25_2 : wc.cell? ⟨gb73003, 2, none⟩ = some (.int .i64 0) := (blk_cell BK73003.out 2).trans rfl
        have hcz25_3 : wc.cell? ⟨gb73003, 3, none⟩ = some (.slice none 0 0) := (blk_cell BK73003.out 3).trans rfl
        have hfz25_0 := blk_frozen BK73003.out 0
        have hfz25_1 := blk_frozen BK73003.out 1
        have hfz25_2 := blk_frozen BK73003.out 2
        have hfz25_3 := blk_frozen BK73003.out 3
        go_wp2
        refine bodyPost_ret (results_ct rfl _ _ gb73003 27 #[.int .i64 0, .int .i64 0, .int .i64 0, .slice none 0 0] (0, 0) _ rfl (by (with_reducible repeat (first | refine blk_drewN ?_ _ | refine blk_drew ?_ | refine blk_alloc ?_ _)); refine blk_put (cs := #[.int .i64 0, .int .i64 0, .int .i64 0, .slice none 0 0]) ?_ 3 _ rfl; (with_reducible repeat (first | refine blk_drewN ?_ _ | refine blk_drew ?_ | refine blk_alloc ?_ _)); refine blk_put (cs := #[.int .i64 0, .int .i64 0, .int .i64 0, .slice none 0 0]) ?_ 2 _ rfl; (with_reducible repeat (first | refine blk_drewN ?_ _ | refine blk_drew ?_ | refine blk_alloc ?_ _)); refine blk_put (cs := #[.int .i64 0, .int .i64 0, .int .i64 0, .slice none 0 0]) ?_ 1 _ rfl; (with_reducible repeat (first | refine blk_drewN ?_ _ | refine blk_drew ?_ | refine blk_alloc ?_ _)); refine blk_put (cs := #[.int .i64 0, .int .i64 0, .int .i64 0, .slice none 0 0]) ?_ 0 _ rfl; (with_reducible repeat (first | refine blk_drewN ?_ _ | refine blk_drew ?_ | refine blk_alloc ?_ _)); exact BK73003.out) Try.underlying27 rfl (by kernel_rfl)) rfl ?_
        exact ⟨_, by first | rfl | (simp [errW_none, errW_some] <;> rfl) | (simp [*, errW_none, errW_some] <;> rfl), by first | exact Kd.R_nil _ _ _ _ _ | exact Kd.N_nil _ _ _ _ _ | exact Kd.V_nil _ _ _ _ _ | exact Kd.Q_nil _ _ _ _ _ | exact Kd.S_nil _ _ _ _ _, by repeat (first | (with_reducible first | exact HB.out | apply below_alloc | apply pw_below_drewN | apply below_drew1 | refine below_set ?_ GE73001.out | refine below_set ?_ GE73002.out | refine below_set ?_ GE73003.out) | exact HB.out)⟩
      · replace c22 := Bool.eq_false_iff.mpr c22
        subst c22
        have H1 : ((spec_copyImage.f a0_0 a0_1 a0_2 l0_3).bind fun bt73005 => (spec_PatchImage.l0 kj3 l2 0 a0_0 a0_1 a0_2 l0_3 a1_0 a1_1 a1_2 l1_3 bt73005.1 bt73005.2.1 bt73005.2.2.1 bt73005.2.2.2)) = some (r1, r2, r3, r4, r5) := by rw [if_neg (show ¬ (false = true) by decide)] at H; exact H
        clear H
        have H := H1
        clear H1
        replace H := Option.bind_eq_some_iff.mp H
        obtain ⟨⟨t73005, t73006, t73007, t73008⟩, A260, H⟩ := H
        replace H : (spec_PatchImage.l0 kj3 l2 0 a0_0 a0_1 a0_2 l0_3 a1_0 a1_1 a1_2 l1_3 t73005 t73006 t73007 t73008) = some (r1, r2, r3, r4, r5) := H
        have A26 := Aside0.mk A260
        clear A260
        have H' := Aside0.mk H
        clear H
        have hnb27 := NB73001_73002.out
        have hnc27 := NB73002_73001.out
        have hnb28 := NB73001_73003.out
        have hnc28 := NB73003_73001.out
        have hcz29_0 : wc.cell? ⟨gb73001, 0, none⟩ = some (.int .i64 a0_0) := (blk_cell BK73001.out 0).trans rfl
        have hcz29_1 : wc.cell? ⟨gb73001, 1, none⟩ = some (.int .i64 a0_1) := (blk_cell BK73001.out 1).trans rfl
        have hcz29_2 : wc.cell? ⟨gb73001, 2, none⟩ = some (.int .i64 a0_2) := (blk_cell BK73001.out 2).trans rfl
        have hcz29_3 : wc.cell? ⟨gb73001, 3, none⟩ = some (.slice A0_3 l0_3.length c0_3) := (blk_cell BK73001.out 3).trans rfl
        have hfz29_0 := blk_frozen BK73001.out 0
        have hfz29_1 := blk_frozen BK73001.out 1
        have hfz29_2 := blk_frozen BK73001.out 2
        have hfz29_3 := blk_frozen BK73001.out 3
        go_wp2_with (first | ((with_reducible refine gate_callee (f := 113) rfl ?_); refine goesL_ (some 21) rfl rfl Try.func113 (by kernel_rfl) rfl #[.agg #[.int .i64 a0_0, .int .i64 a0_1, .int .i64 a0_2, .slice A0_3 l0_3.length c0_3]] rfl (by (try simp only [List.map_toArray, List.map_cons, List.map_nil]); first | done | rfl | (simp only [List.length_drop, List.length_take]; rfl)) ?_; (with_reducible refine (spec_copyImage.calls a0_0 a0_1 a0_2 _ _ l0_3 t73005 t73006 t73007 t73008 _ ?side1 ?side2 A26.out).mono ?_); (case side1 => repeat (first | exact (Kd.C_below HR0_3.out HB.out) | (with_reducible refine Kd.C_alloc ?_ _) | (with_reducible refine Kd.C_drewN ?_ _) | (with_reducible refine Kd.C_drew ?_))); (case side2 => exact HC0_3.out); rintro e w30 ⟨v73009, rfl, ho0, hb⟩; refine ⟨_, rfl, ?_⟩; have n0_ := Aside0.mk (Kd.R_lower ho0 (below_size (by repeat (first | (with_reducible first | exact HB.out | apply below_alloc | apply pw_below_drewN | apply below_drew1 | refine below_set ?_ GE73001.out | refine below_set ?_ GE73002.out | refine below_set ?_ GE73003.out) | exact HB.out)))); have n1_ := Aside0.mk (blk_below (g := gb73001) (o := .cells #[.int .i64 a0_0, .int .i64 a0_1, .int .i64 a0_2, .slice A0_3 l0_3.length c0_3] 27 (0, 0)) (by (with_reducible repeat (first | refine blk_drewN ?_ _ | refine blk_drew ?_ | refine blk_alloc ?_ _)); exact BK73001.out) hb); have n2_ := Aside0.mk (blk_below (g := gb73002) (o := .cells #[.int .i64 a1_0, .int .i64 a1_1, .int .i64 a1_2, .slice A1_3 l1_3.length c1_3] 27 (0, 0)) (by (with_reducible repeat (first | refine blk_drewN ?_ _ | refine blk_drew ?_ | refine blk_alloc ?_ _)); exact BK73002.out) hb); have n3_ := Aside0.mk (blk_below (g := gb73003) (o := .cells #[.int .i64 0, .int .i64 0, .int .i64 0, .slice none 0 0] 27 (0, 0)) (by (with_reducible repeat (first | refine blk_drewN ?_ _ | refine blk_drew ?_ | refine blk_alloc ?_ _)); exact BK73003.out) hb); have n4_ := Aside0.mk (below_step (by repeat (first | (with_reducible first | exact HB.out | apply below_alloc | apply pw_below_drewN | apply below_drew1 | refine below_set ?_ GE73001.out | refine below_set ?_ GE73002.out | refine below_set ?_ GE73003.out) | exact HB.out)) hb); clear BK73001; clear BK73002; clear BK73003; clear HB; have HO73010 := n0_; have BK73001 := n1_; have BK73002 := n2_; have BK73003 := n3_; have HB := n4_; clear n0_ n1_ n2_ n3_ n4_; (try clear hb); (try clear hb2); (try clear hk); (try clear hi); (try clear ho0)) | ((with_reducible refine gate_dst (N := 8) rfl ?_); (try (refine gate_guard (by rfl) ?_; dsimp only)); refine box_event ?hg (N := 8) ?hd (cs := #[.int .i64 0, .int .i64 0, .int .i64 0, .slice none 0 0]) (t := 27) ?hr ?_; (case hd => rfl); (case hg => rfl); (case hr => first | (go_simp; done) | (go_simp; rfl)); intro gb73011 hg w31 hbox hb; have n0_ := Aside0.mk (Kd.R_below (by (with_reducible repeat (first | apply Kd.R_alloc | apply Kd.R_drewN | apply Kd.R_drew)); exact HO73010.out) hb); have n1_ := Aside0.mk (blk_below (g := gb73001) (o := .cells #[.int .i64 a0_0, .int .i64 a0_1, .int .i64 a0_2, .slice A0_3 l0_3.length c0_3] 27 (0, 0)) (by (with_reducible repeat (first | refine blk_drewN ?_ _ | refine blk_drew ?_ | refine blk_alloc ?_ _)); exact BK73001.out) hb); have n2_ := Aside0.mk (blk_below (g := gb73002) (o := .cells #[.int .i64 a1_0, .int .i64 a1_1, .int .i64 a1_2, .slice A1_3 l1_3.length c1_3] 27 (0, 0)) (by (with_reducible repeat (first | refine blk_drewN ?_ _ | refine blk_drew ?_ | refine blk_alloc ?_ _)); exact BK73002.out) hb); have n3_ := Aside0.mk (blk_below (g := gb73003) (o := .cells #[.int .i64 0, .int .i64 0, .int .i64 0, .slice none 0 0] 27 (0, 0)) (by (with_reducible repeat (first | refine blk_drewN ?_ _ | refine blk_drew ?_ | refine blk_alloc ?_ _)); exact BK73003.out) hb); have n4_ := Aside0.mk (below_step (by repeat (first | (with_reducible first | exact HB.out | apply below_alloc | apply pw_below_drewN | apply below_drew1 | refine below_set ?_ GE73001.out | refine below_set ?_ GE73002.out | refine below_set ?_ GE73003.out) | exact HB.out)) hb); have n5_ := Aside0.mk (hbox); have n6_ := Aside0.mk ((by rw [hg]; exact (below_size (by repeat (first | (with_reducible first | exact HB.out | apply below_alloc | apply pw_below_drewN | apply below_drew1 | refine below_set ?_ GE73001.out | refine below_set ?_ GE73002.out | refine below_set ?_ GE73003.out) | exact HB.out))) : w.heap.size ≤ gb73011)); have n7_ := Aside0.mk ((by rw [hg]; exact (below_size (by repeat (first | (with_reducible first | exact HB.out | apply below_alloc | apply pw_below_drewN | apply below_drew1 | refine below_set ?_ GE73001.out | refine below_set ?_ GE73002.out | refine below_set ?_ GE73003.out) | exact HB.out))) : w.heap.size ≤ gb73011)); have n8_ := Aside0.mk ((by rw [hg]; exact Nat.ne_of_lt (blk_lt (g := gb73001) (o := .cells #[.int .i64 a0_0, .int .i64 a0_1, .int .i64 a0_2, .slice A0_3 l0_3.length c0_3] 27 (0, 0)) (by (with_reducible repeat (first | refine blk_drewN ?_ _ | refine blk_drew ?_ | refine blk_alloc ?_ _)); exact BK73001.out)) : gb73001 ≠ gb73011)); have n9_ := Aside0.mk ((by rw [hg]; exact Nat.ne_of_gt (blk_lt (g := gb73001) (o := .cells #[.int .i64 a0_0, .int .i64 a0_1, .int .i64 a0_2, .slice A0_3 l0_3.length c0_3] 27 (0, 0)) (by (with_reducible repeat (first | refine blk_drewN ?_ _ | refine blk_drew ?_ | refine blk_alloc ?_ _)); exact BK73001.out)) : gb73011 ≠ gb73001)); have n10_ := Aside0.mk ((by rw [hg]; exact Nat.ne_of_lt (blk_lt (g := gb73002) (o := .cells #[.int .i64 a1_0, .int .i64 a1_1, .int .i64 a1_2, .slice A1_3 l1_3.length c1_3] 27 (0, 0)) (by (with_reducible repeat (first | refine blk_drewN ?_ _ | refine blk_drew ?_ | refine blk_alloc ?_ _)); exact BK73002.out)) : gb73002 ≠ gb73011)); have n11_ := Aside0.mk ((by rw [hg]; exact Nat.ne_of_gt (blk_lt (g := gb73002) (o := .cells #[.int .i64 a1_0, .int .i64 a1_1, .int .i64 a1_2, .slice A1_3 l1_3.length c1_3] 27 (0, 0)) (by (with_reducible repeat (first | refine blk_drewN ?_ _ | refine blk_drew ?_ | refine blk_alloc ?_ _)); exact BK73002.out)) : gb73011 ≠ gb73002)); have n12_ := Aside0.mk ((by rw [hg]; exact Nat.ne_of_lt (blk_lt (g := gb73003) (o := .cells #[.int .i64 0, .int .i64 0, .int .i64 0, .slice none 0 0] 27 (0, 0)) (by (with_reducible repeat (first | refine blk_drewN ?_ _ | refine blk_drew ?_ | refine blk_alloc ?_ _)); exact BK73003.out)) : gb73003 ≠ gb73011)); have n13_ := Aside0.mk ((by rw [hg]; exact Nat.ne_of_gt (blk_lt (g := gb73003) (o := .cells #[.int .i64 0, .int .i64 0, .int .i64 0, .slice none 0 0] 27 (0, 0)) (by (with_reducible repeat (first | refine blk_drewN ?_ _ | refine blk_drew ?_ | refine blk_alloc ?_ _)); exact BK73003.out)) : gb73011 ≠ gb73003)); clear HO73010; clear BK73001; clear BK73002; clear BK73003; clear HB; have HO73010 := n0_; have BK73001 := n1_; have BK73002 := n2_; have BK73003 := n3_; have HB := n4_; have BK73011 := n5_; have GW73011 := n6_; have GE73011 := n7_; have NB73001_73011 := n8_; have NB73011_73001 := n9_; have NB73002_73011 := n10_; have NB73011_73002 := n11_; have NB73003_73011 := n12_; have NB73011_73003 := n13_; clear n0_ n1_ n2_ n3_ n4_ n5_ n6_ n7_ n8_ n9_ n10_ n11_ n12_ n13_; clear hb hbox hg; have hnb32 := NB73011_73001.out; have hnc32 := NB73001_73011.out; have hnb33 := NB73011_73002.out; have hnc33 := NB73002_73011.out; have hnb34 := NB73011_73003.out; have hnc34 := NB73003_73011.out; have hcz35_0 : w31.cell? ⟨gb73011, 0, none⟩ = some (.int .i64 0) := (blk_cell BK73011.out 0).trans rfl; have hcz35_1 : w31.cell? ⟨gb73011, 1, none⟩ = some (.int .i64 0) := (blk_cell BK73011.out 1).trans rfl; have hcz35_2 : w31.cell? ⟨gb73011, 2, none⟩ = some (.int .i64 0) := (blk_cell BK73011.out 2).trans rfl; have hcz35_3 : w31.cell? ⟨gb73011, 3, none⟩ = some (.slice none 0 0) := (blk_cell BK73011.out 3).trans rfl; have hfz35_0 := blk_frozen BK73011.out 0; have hfz35_1 := blk_frozen BK73011.out 1; have hfz35_2 := blk_frozen BK73011.out 2; have hfz35_3 := blk_frozen BK73011.out 3; obtain ⟨Ao36, co36, eo36⟩ := Kd.R_slice HO73010.out; subst eo36))
        go_loopg [9] kj3 (fun kq v9 w' => ∃ (x9_2 : Int) (x73004000_2 : Int) (x73004001_2 : Int) (x73004002_2 : Int) (x73012003_2 : List Int) (u73012003 : Value), v9 = .int .i64 x9_2 ∧ Aside0 (spec_PatchImage.l0 kq l2 x9_2 a0_0 a0_1 a0_2 l0_3 a1_0 a1_1 a1_2 l1_3 t73005 t73006 t73007 x73012003_2 = some (r1, r2, r3, r4, r5)) ∧ Aside0 (kq ≤ kj3) ∧ Aside0 (Kd.R (Kd.int .i64) 3 w' w.heap.size (fun _ => True) u73012003 x73012003_2) ∧ Aside0 (w'.heap[gb73001]? = some (.cells #[.int .i64 a0_0, .int .i64 a0_1, .int .i64 a0_2, (.slice A0_3 l0_3.length c0_3)] 27 (0, 0))) ∧ Aside0 (w'.heap[gb73002]? = some (.cells #[.int .i64 a1_0, .int .i64 a1_1, .int .i64 a1_2, (.slice A1_3 l1_3.length c1_3)] 27 (0, 0))) ∧ Aside0 (w'.heap[gb73003]? = some (.cells #[.int .i64 x73004000_2, .int .i64 x73004001_2, .int .i64 x73004002_2, (.slice none 0 0)] 27 (0, 0))) ∧ Aside0 (w'.heap[gb73011]? = some (.cells #[.int .i64 t73005, .int .i64 t73006, .int .i64 t73007, u73012003] 27 (0, 0))) ∧ Aside0 (Below w.heap.size w w'))
        case atStart => exact ⟨(0), (0), (0), (0), (t73008), (.slice Ao36 t73008.length co36), (by first | rfl | (simp; done) | (simp [*]; done)), H', ⟨Nat.le_refl _⟩, ⟨by (with_reducible repeat (first | apply Kd.R_alloc | apply Kd.R_drewN | apply Kd.R_drew)); exact Kd.R_mono (Kd.R_far (p := ⟨gb73011, 3, none⟩) (Kd.R_far (p := ⟨gb73011, 2, none⟩) (Kd.R_far (p := ⟨gb73011, 1, none⟩) (Kd.R_far (p := ⟨gb73011, 0, none⟩) (Kd.R_types HO73010.out BK73011.out (by decide)) (fun _ hk => hk.2) (.int .i64 t73005)) (fun _ hk => hk.2) (.int .i64 t73006)) (fun _ hk => hk.2) (.int .i64 t73007)) (fun _ hk => hk.2) (.slice Ao36 t73008.length co36)) (fun _ hk => trivial)⟩, ⟨by (with_reducible repeat (first | refine blk_drewN ?_ _ | refine blk_drew ?_ | refine blk_alloc ?_ _)); refine blk_far ?_ NB73001_73011.out _; (with_reducible repeat (first | refine blk_drewN ?_ _ | refine blk_drew ?_ | refine blk_alloc ?_ _)); refine blk_far ?_ NB73001_73011.out _; (with_reducible repeat (first | refine blk_drewN ?_ _ | refine blk_drew ?_ | refine blk_alloc ?_ _)); refine blk_far ?_ NB73001_73011.out _; (with_reducible repeat (first | refine blk_drewN ?_ _ | refine blk_drew ?_ | refine blk_alloc ?_ _)); refine blk_far ?_ NB73001_73011.out _; (with_reducible repeat (first | refine blk_drewN ?_ _ | refine blk_drew ?_ | refine blk_alloc ?_ _)); exact BK73001.out⟩, ⟨by (with_reducible repeat (first | refine blk_drewN ?_ _ | refine blk_drew ?_ | refine blk_alloc ?_ _)); refine blk_far ?_ NB73002_73011.out _; (with_reducible repeat (first | refine blk_drewN ?_ _ | refine blk_drew ?_ | refine blk_alloc ?_ _)); refine blk_far ?_ NB73002_73011.out _; (with_reducible repeat (first | refine blk_drewN ?_ _ | refine blk_drew ?_ | refine blk_alloc ?_ _)); refine blk_far ?_ NB73002_73011.out _; (with_reducible repeat (first | refine blk_drewN ?_ _ | refine blk_drew ?_ | refine blk_alloc ?_ _)); refine blk_far ?_ NB73002_73011.out _; (with_reducible repeat (first | refine blk_drewN ?_ _ | refine blk_drew ?_ | refine blk_alloc ?_ _)); exact BK73002.out⟩, ⟨by (with_reducible repeat (first | refine blk_drewN ?_ _ | refine blk_drew ?_ | refine blk_alloc ?_ _)); refine blk_far ?_ NB73003_73011.out _; (with_reducible repeat (first | refine blk_drewN ?_ _ | refine blk_drew ?_ | refine blk_alloc ?_ _)); refine blk_far ?_ NB73003_73011.out _; (with_reducible repeat (first | refine blk_drewN ?_ _ | refine blk_drew ?_ | refine blk_alloc ?_ _)); refine blk_far ?_ NB73003_73011.out _; (with_reducible repeat (first | refine blk_drewN ?_ _ | refine blk_drew ?_ | refine blk_alloc ?_ _)); refine blk_far ?_ NB73003_73011.out _; (with_reducible repeat (first | refine blk_drewN ?_ _ | refine blk_drew ?_ | refine blk_alloc ?_ _)); exact BK73003.out⟩, ⟨by (with_reducible repeat (first | refine blk_drewN ?_ _ | refine blk_drew ?_ | refine blk_alloc ?_ _)); refine blk_put (cs := #[.int .i64 t73005, .int .i64 t73006, .int .i64 t73007, .slice none 0 0]) ?_ 3 _ rfl; (with_reducible repeat (first | refine blk_drewN ?_ _ | refine blk_drew ?_ | refine blk_alloc ?_ _)); refine blk_put (cs := #[.int .i64 t73005, .int .i64 t73006, .int .i64 0, .slice none 0 0]) ?_ 2 _ rfl; (with_reducible repeat (first | refine blk_drewN ?_ _ | refine blk_drew ?_ | refine blk_alloc ?_ _)); refine blk_put (cs := #[.int .i64 t73005, .int .i64 0, .int .i64 0, .slice none 0 0]) ?_ 1 _ rfl; (with_reducible repeat (first | refine blk_drewN ?_ _ | refine blk_drew ?_ | refine blk_alloc ?_ _)); refine blk_put (cs := #[.int .i64 0, .int .i64 0, .int .i64 0, .slice none 0 0]) ?_ 0 _ rfl; (with_reducible repeat (first | refine blk_drewN ?_ _ | refine blk_drew ?_ | refine blk_alloc ?_ _)); exact BK73011.out⟩, ⟨by repeat (first | (with_reducible first | exact HB.out | apply below_alloc | apply pw_below_drewN | apply below_drew1 | refine below_set ?_ GE73001.out | refine below_set ?_ GE73002.out | refine below_set ?_ GE73003.out | refine below_set ?_ GE73011.out) | exact HB.out)⟩⟩
        case round =>
          clear H'
          try clear c1
          try clear c2
          try clear p2
          try clear c3
          try clear c7
          try clear c8
          try clear c9
          try clear c10
          try clear c11
          try clear c13
          try clear c16
          try clear c17
          try clear c19
          try clear c22
          try clear c23
          try clear c24
          try clear c27
          try clear c28
          try clear c32
          try clear c33
          try clear c34
          try clear hcz12_0
          try clear hcz12_1
          try clear hcz12_2
          try clear hcz12_3
          try clear hcz14_0
          try clear hcz14_1
          try clear hcz14_2
          try clear hcz14_3
          try clear hcz18_0
          try clear hcz18_1
          try clear hcz18_2
          try clear hcz18_3
          try clear hcz20_0
          try clear hcz20_1
          try clear hcz20_2
          try clear hcz20_3
          try clear hcz25_0
          try clear hcz25_1
          try clear hcz25_2
          try clear hcz25_3
          try clear hcz29_0
          try clear hcz29_1
          try clear hcz29_2
          try clear hcz29_3
          try clear hcz35_0
          try clear hcz35_1
          try clear hcz35_2
          try clear hcz35_3
          try clear hfz12_0
          try clear hfz12_1
          try clear hfz12_2
          try clear hfz12_3
          try clear hfz14_0
          try clear hfz14_1
          try clear hfz14_2
          try clear hfz14_3
          try clear hfz18_0
          try clear hfz18_1
          try clear hfz18_2
          try clear hfz18_3
          try clear hfz20_0
          try clear hfz20_1
          try clear hfz20_2
          try clear hfz20_3
          try clear hfz25_0
          try clear hfz25_1
          try clear hfz25_2
          try clear hfz25_3
          try clear hfz29_0
          try clear hfz29_1
          try clear hfz29_2
          try clear hfz29_3
          try clear hfz35_0
          try clear hfz35_1
          try clear hfz35_2
          try clear hfz35_3
          try clear p2
          obtain ⟨x9_2, x73004000_2, x73004001_2, x73004002_2, x73012003_2, u73012003, rfl, HA, HK2, HO_73012003, BK73001, BK73002, BK73003, BK73011, HB⟩ := hrel
          cases gk with
          | zero => exact absurd HA.out (by simp [spec_PatchImage.l0])
          | succ k2 =>
            have H := HA.out
            clear HA
            simp only [spec_PatchImage.l0] at H
            by_cases c37 : x9_2 < (l2.length : Int)
            · rw [if_pos c37] at H
              have c37b0 : decide (x9_2 < (l2.length : Int)) = true := decide_eq_true c37
              clear c37
              by_cases c38 : 0 ≤ x9_2
              · rw [if_pos c38] at H
                have c38b0 : decide (0 ≤ x9_2) = true := decide_eq_true c38
                clear c38
                replace H := Option.bind_eq_some_iff.mp H
                obtain ⟨t73013, A390, H⟩ := H
                replace H : (if t73013 = true then ((spec_crop.f k2 a1_0 a1_1 a1_2 l1_3 ((rd_T47 l2 x9_2).f0) ((rd_T47 l2 x9_2).f1) ((rd_T47 l2 x9_2).f2) ((rd_T47 l2 x9_2).f3)).bind fun bt73020 => ((spec_paste.f k2 t73005 t73006 t73007 x73012003_2 ((rd_T47 l2 x9_2).f0) ((rd_T47 l2 x9_2).f1) bt73020.1 bt73020.2.1 bt73020.2.2.1 bt73020.2.2.2).bind fun t73026 => (spec_PatchImage.l0 k2 l2 (wrap64 (x9_2 + 1)) a0_0 a0_1 a0_2 l0_3 a1_0 a1_1 a1_2 l1_3 t73005 t73006 t73007 t73026))) else (some (0, 0, 0, ([] : List Int), false))) = some (r1, r2, r3, r4, r5) := H
                have A39 := Aside0.mk A390
                clear A390
                by_cases c40 : t73013 = true
                · subst c40
                  have H1 : ((spec_crop.f k2 a1_0 a1_1 a1_2 l1_3 ((rd_T47 l2 x9_2).f0) ((rd_T47 l2 x9_2).f1) ((rd_T47 l2 x9_2).f2) ((rd_T47 l2 x9_2).f3)).bind fun bt73020 => ((spec_paste.f k2 t73005 t73006 t73007 x73012003_2 ((rd_T47 l2 x9_2).f0) ((rd_T47 l2 x9_2).f1) bt73020.1 bt73020.2.1 bt73020.2.2.1 bt73020.2.2.2).bind fun t73026 => (spec_PatchImage.l0 k2 l2 (wrap64 (x9_2 + 1)) a0_0 a0_1 a0_2 l0_3 a1_0 a1_1 a1_2 l1_3 t73005 t73006 t73007 t73026))) = some (r1, r2, r3, r4, r5) := by rw [if_pos rfl] at H; exact H
                  clear H
                  have H := H1
                  clear H1
                  replace H := Option.bind_eq_some_iff.mp H
                  obtain ⟨⟨t73020, t73021, t73022, t73023⟩, A410, H⟩ := H
                  replace H : ((spec_paste.f k2 t73005 t73006 t73007 x73012003_2 ((rd_T47 l2 x9_2).f0) ((rd_T47 l2 x9_2).f1) t73020 t73021 t73022 t73023).bind fun t73026 => (spec_PatchImage.l0 k2 l2 (wrap64 (x9_2 + 1)) a0_0 a0_1 a0_2 l0_3 a1_0 a1_1 a1_2 l1_3 t73005 t73006 t73007 t73026)) = some (r1, r2, r3, r4, r5) := H
                  have A41 := Aside0.mk A410
                  clear A410
                  replace H := Option.bind_eq_some_iff.mp H
                  obtain ⟨t73026, A420, H⟩ := H
                  replace H : (spec_PatchImage.l0 k2 l2 (wrap64 (x9_2 + 1)) a0_0 a0_1 a0_2 l0_3 a1_0 a1_1 a1_2 l1_3 t73005 t73006 t73007 t73026) = some (r1, r2, r3, r4, r5) := H
                  have A42 := Aside0.mk A420
                  clear A420
                  have H' := Aside0.mk H
                  clear H
                  try go_wp2
                  have n0_ := Aside0.mk (Kd.R_drew HO_73012003.out)
                  have n1_ := Aside0.mk (blk_drew BK73001.out)
                  have n2_ := Aside0.mk (blk_drew BK73002.out)
                  have n3_ := Aside0.mk (blk_drew BK73003.out)
                  have n4_ := Aside0.mk (blk_drew BK73011.out)
                  have n5_ := Aside0.mk (below_drew1 HB.out)
                  clear HO_73012003
                  clear BK73001
                  clear BK73002
                  clear BK73003
                  clear BK73011
                  clear HB
                  have HO_73012003 := n0_
                  have BK73001 := n1_
                  have BK73002 := n2_
                  have BK73003 := n3_
                  have BK73011 := n4_
                  have HB := n5_
                  clear n0_ n1_ n2_ n3_ n4_ n5_
                  have p73012 : 0 ≤ (x9_2 : Int) := of_decide_eq_true (by first | (with_reducible assumption) | assumption)
                  have q73012 : x9_2 < (l2.length : Int) := of_decide_eq_true (by first | (with_reducible assumption) | assumption)
                  obtain ⟨ad73012, e73012, hx73012_0, hx73012_1, hx73012_2, hx73012_3⟩ := at_T47 HR2.out x9_2 p73012 q73012
                  have hw73012_3 := hx73012_3
                  have hw73012_2 := hx73012_2
                  have hw73012_1 := hx73012_1
                  have hw73012_0 := hx73012_0
                  cases e73012
                  replace hx73012_0 := (HB.out.cell (World.block_lt_of_cell? w _ hx73012_0)).trans hx73012_0
                  replace hx73012_1 := (HB.out.cell (World.block_lt_of_cell? w _ hx73012_1)).trans hx73012_1
                  replace hx73012_2 := (HB.out.cell (World.block_lt_of_cell? w _ hx73012_2)).trans hx73012_2
                  replace hx73012_3 := (HB.out.cell (World.block_lt_of_cell? w _ hx73012_3)).trans hx73012_3
                  replace p73012 := eq_true p73012
                  replace q73012 := eq_true q73012
                  refine start_ (n := 7) (S := fun w' => w'.cell? ⟨gb73001, 0, none⟩ = some (.int .i64 a0_0) ∧ w'.cell? ⟨gb73001, 1, none⟩ = some (.int .i64 a0_1) ∧ w'.cell? ⟨gb73001, 2, none⟩ = some (.int .i64 a0_2) ∧ w'.cell? ⟨gb73001, 3, none⟩ = some (.slice A0_3 l0_3.length c0_3) ∧ w'.cell? (ad73012.add ((x9_2).toNat * 4)) = some (.int .i64 ((rd_T47 l2 x9_2).f0)) ∧ w'.cell? ⟨(ad73012.add ((x9_2).toNat * 4)).block, (ad73012.add ((x9_2).toNat * 4)).off + 1, none⟩ = some (.int .i64 ((rd_T47 l2 x9_2).f1)) ∧ w'.cell? ⟨(ad73012.add ((x9_2).toNat * 4)).block, (ad73012.add ((x9_2).toNat * 4)).off + 2, none⟩ = some (.int .i64 ((rd_T47 l2 x9_2).f2)) ∧ w'.cell? ⟨(ad73012.add ((x9_2).toNat * 4)).block, (ad73012.add ((x9_2).toNat * 4)).off + 3, none⟩ = some (.int .i64 ((rd_T47 l2 x9_2).f3))) (ds := []) #[false, false, false, false, false, false, false] (by kernel_rfl) rfl rfl ⟨(blk_cell BK73001.out 0).trans rfl, (blk_cell BK73001.out 1).trans rfl, (blk_cell BK73001.out 2).trans rfl, (blk_cell BK73001.out 3).trans rfl, ((HB.out.cell (World.block_lt_of_cell? w _ hw73012_0)).trans hw73012_0), ((HB.out.cell (World.block_lt_of_cell? w _ hw73012_1)).trans hw73012_1), ((HB.out.cell (World.block_lt_of_cell? w _ hw73012_2)).trans hw73012_2), ((HB.out.cell (World.block_lt_of_cell? w _ hw73012_3)).trans hw73012_3)⟩ (fun hHeld => ?_)
                  generalize wr.drew = w43 at HO_73012003 BK73001 BK73002 BK73003 BK73011 HB hx73012_0 hx73012_1 hx73012_2 hx73012_3 hHeld ⊢
                  refine pure_ (i := 1) (N := some 29) (v := ?_) (a' := ?_) #[false, true, false, false, false, false, false] rfl rfl (by kernel_rfl) (fun _ _ _ h => h) (Or.inl ⟨by rfl, ?_⟩) ?_ ?_
                  rotate_left
                  · intro w'
                    go_simp
                    with_reducible rfl
                  rotate_left
                  · simp only [Act.put, List.setIfInBounds_toArray, List.set_cons_zero, List.set_cons_succ, i64_w, i32_w]
                    rfl
                  refine pure_ (i := 2) (N := some 30) (v := ?_) (a' := ?_) #[false, true, true, false, false, false, false] rfl rfl (by kernel_rfl) (fun _ _ _ h => h) (Or.inl ⟨by rfl, ?_⟩) ?_ ?_
                  rotate_left
                  · intro w'
                    go_simp
                    with_reducible rfl
                  rotate_left
                  · simp only [Act.put, List.setIfInBounds_toArray, List.set_cons_zero, List.set_cons_succ, i64_w, i32_w]
                    rfl
                  refine pure_ (i := 3) (N := some 31) (v := ?_) (a' := ?_) #[false, true, true, true, false, false, false] rfl rfl (by kernel_rfl) (fun _ _ _ h => h) (Or.inl ⟨by rfl, ?_⟩) ?_ ?_
                  rotate_left
                  · intro w'
                    go_simp
                    with_reducible rfl
                  rotate_left
                  · simp only [Act.put, List.setIfInBounds_toArray, List.set_cons_zero, List.set_cons_succ, i64_w, i32_w]
                    rfl
                  refine take_ (i := 0) (N := some 28) (v := ?_) (a' := ?_) #[true, true, true, true, false, false, false] rfl rfl (by kernel_rfl) (fun _ _ _ h => h) (Or.inl ⟨by rfl, ?_⟩) hHeld ?_ ?_
                  rotate_left
                  · rintro w' ⟨s0, s1, s2, s3, s4, s5, s6, s7⟩
                    go_simp
                    with_reducible rfl
                  rotate_left
                  · simp only [Act.put, List.setIfInBounds_toArray, List.set_cons_zero, List.set_cons_succ, i64_w, i32_w]
                    rfl
                  refine take_ (i := 4) (N := some 32) (v := ?_) (a' := ?_) #[true, true, true, true, true, false, false] rfl rfl (by kernel_rfl) (fun _ _ _ h => h) (Or.inl ⟨by rfl, ?_⟩) hHeld ?_ ?_
                  rotate_left
                  · rintro w' ⟨s0, s1, s2, s3, s4, s5, s6, s7⟩
                    go_simp
                    with_reducible rfl
                  rotate_left
                  · simp only [Act.put, List.setIfInBounds_toArray, List.set_cons_zero, List.set_cons_succ, i64_w, i32_w]
                    rfl
                  refine one_ (i := 5) (N := some 33) #[true, true, true, true, true, true, false] rfl rfl (by kernel_rfl) (by decide) (fun K hK => ?_)
                  refine goes_ Try.func121 (by kernel_rfl) rfl #[.agg #[.int .i64 a0_0, .int .i64 a0_1, .int .i64 a0_2, .slice A0_3 l0_3.length c0_3], .agg #[.int .i64 ((rd_T47 l2 x9_2).f0), .int .i64 ((rd_T47 l2 x9_2).f1), .int .i64 ((rd_T47 l2 x9_2).f2), .int .i64 ((rd_T47 l2 x9_2).f3)]] (by rfl) rfl rfl (by (try simp only [List.map_toArray, List.map_cons, List.map_nil]); first | done | rfl | (simp only [List.length_drop, List.length_take]; rfl)) ?_
                  with_reducible refine (spec_validBox.calls a0_0 a0_1 a0_2 _ _ l0_3 ((rd_T47 l2 x9_2).f0) ((rd_T47 l2 x9_2).f1) ((rd_T47 l2 x9_2).f2) ((rd_T47 l2 x9_2).f3) true _ ?side1 ?side2 A39.out).mono ?_
                  (case side1 => repeat (first | exact (Kd.C_below HR0_3.out HB.out) | (with_reducible refine Kd.C_alloc ?_ _) | (with_reducible refine Kd.C_drewN ?_ _) | (with_reducible refine Kd.C_drew ?_)))
                  (case side2 => exact HC0_3.out)
                  rintro e w44 ⟨rfl, hb⟩
                  refine ⟨_, rfl, ?_⟩
                  have n0_ := Aside0.mk (Kd.R_below (by (with_reducible repeat (first | apply Kd.R_alloc | apply Kd.R_drewN | apply Kd.R_drew)); exact HO_73012003.out) hb)
                  have n1_ := Aside0.mk (blk_below (g := gb73001) (o := .cells #[.int .i64 a0_0, .int .i64 a0_1, .int .i64 a0_2, .slice A0_3 l0_3.length c0_3] 27 (0, 0)) (by (with_reducible repeat (first | refine blk_drewN ?_ _ | refine blk_drew ?_ | refine blk_alloc ?_ _)); exact BK73001.out) hb)
                  have n2_ := Aside0.mk (blk_below (g := gb73002) (o := .cells #[.int .i64 a1_0, .int .i64 a1_1, .int .i64 a1_2, .slice A1_3 l1_3.length c1_3] 27 (0, 0)) (by (with_reducible repeat (first | refine blk_drewN ?_ _ | refine blk_drew ?_ | refine blk_alloc ?_ _)); exact BK73002.out) hb)
                  have n3_ := Aside0.mk (blk_below (g := gb73003) (o := .cells #[.int .i64 x73004000_2, .int .i64 x73004001_2, .int .i64 x73004002_2, .slice none 0 0] 27 (0, 0)) (by (with_reducible repeat (first | refine blk_drewN ?_ _ | refine blk_drew ?_ | refine blk_alloc ?_ _)); exact BK73003.out) hb)
                  have n4_ := Aside0.mk (blk_below (g := gb73011) (o := .cells #[.int .i64 t73005, .int .i64 t73006, .int .i64 t73007, u73012003] 27 (0, 0)) (by (with_reducible repeat (first | refine blk_drewN ?_ _ | refine blk_drew ?_ | refine blk_alloc ?_ _)); exact BK73011.out) hb)
                  have n5_ := Aside0.mk (below_step (by repeat (first | (with_reducible first | exact HB.out | apply below_alloc | apply pw_below_drewN | apply below_drew1 | refine below_set ?_ GE73001.out | refine below_set ?_ GE73002.out | refine below_set ?_ GE73003.out | refine below_set ?_ GE73011.out) | exact HB.out)) hb)
                  clear HO_73012003
                  clear BK73001
                  clear BK73002
                  clear BK73003
                  clear BK73011
                  clear HB
                  have HO_73012003 := n0_
                  have BK73001 := n1_
                  have BK73002 := n2_
                  have BK73003 := n3_
                  have BK73011 := n4_
                  have HB := n5_
                  clear n0_ n1_ n2_ n3_ n4_ n5_
                  (try clear hb)
                  (try clear hb2)
                  (try clear hk)
                  (try clear hi)
                  refine hK.out _ _ ⟨(blk_cell BK73001.out 0).trans rfl, (blk_cell BK73001.out 1).trans rfl, (blk_cell BK73001.out 2).trans rfl, (blk_cell BK73001.out 3).trans rfl, ((HB.out.cell (World.block_lt_of_cell? w _ hw73012_0)).trans hw73012_0), ((HB.out.cell (World.block_lt_of_cell? w _ hw73012_1)).trans hw73012_1), ((HB.out.cell (World.block_lt_of_cell? w _ hw73012_2)).trans hw73012_2), ((HB.out.cell (World.block_lt_of_cell? w _ hw73012_3)).trans hw73012_3)⟩ (fun hHeld => ?_)
                  clear hK K
                  refine norm_ (a' := ?_) ?_ ?_
                  rotate_left
                  · show Act.put _ (some 33) _ = _
                    simp only [Act.put, List.setIfInBounds_toArray, List.set_cons_zero, List.set_cons_succ, i64_w, i32_w]
                    rfl
                  refine pure_ (i := 6) (N := some 34) (v := ?_) (a' := ?_) #[true, true, true, true, true, true, true] rfl rfl (by kernel_rfl) (fun _ _ _ h => h) (Or.inl ⟨by rfl, ?_⟩) ?_ ?_
                  rotate_left
                  · intro w'
                    go_simp
                    with_reducible rfl
                  rotate_left
                  · simp only [Act.put, List.setIfInBounds_toArray, List.set_cons_zero, List.set_cons_succ, i64_w, i32_w]
                    rfl
                  refine done_ (by kernel_rfl) ?_
                  try go_wp2
                  have n0_ := Aside0.mk (Kd.R_drew HO_73012003.out)
                  have n1_ := Aside0.mk (blk_drew BK73001.out)
                  have n2_ := Aside0.mk (blk_drew BK73002.out)
                  have n3_ := Aside0.mk (blk_drew BK73003.out)
                  have n4_ := Aside0.mk (blk_drew BK73011.out)
                  have n5_ := Aside0.mk (below_drew1 HB.out)
                  clear HO_73012003
                  clear BK73001
                  clear BK73002
                  clear BK73003
                  clear BK73011
                  clear HB
                  have HO_73012003 := n0_
                  have BK73001 := n1_
                  have BK73002 := n2_
                  have BK73003 := n3_
                  have BK73011 := n4_
                  have HB := n5_
                  clear n0_ n1_ n2_ n3_ n4_ n5_
                  have p73014 : 0 ≤ (x9_2 : Int) := of_decide_eq_true (by first | (with_reducible assumption) | assumption)
                  have q73014 : x9_2 < (l2.length : Int) := of_decide_eq_true (by first | (with_reducible assumption) | assumption)
                  obtain ⟨ad73014, e73014, hx73014_0, hx73014_1, hx73014_2, hx73014_3⟩ := at_T47 HR2.out x9_2 p73014 q73014
                  have hw73014_3 := hx73014_3
                  have hw73014_2 := hx73014_2
                  have hw73014_1 := hx73014_1
                  have hw73014_0 := hx73014_0
                  obtain rfl : ad73012 = ad73014 := (by injection e73014)
                  replace hx73014_0 := (HB.out.cell (World.block_lt_of_cell? w _ hx73014_0)).trans hx73014_0
                  replace hx73014_1 := (HB.out.cell (World.block_lt_of_cell? w _ hx73014_1)).trans hx73014_1
                  replace hx73014_2 := (HB.out.cell (World.block_lt_of_cell? w _ hx73014_2)).trans hx73014_2
                  replace hx73014_3 := (HB.out.cell (World.block_lt_of_cell? w _ hx73014_3)).trans hx73014_3
                  replace p73014 := eq_true p73014
                  replace q73014 := eq_true q73014
                  have p73015 : 0 ≤ (x9_2 : Int) := of_decide_eq_true (by first | (with_reducible assumption) | assumption)
                  have q73015 : x9_2 < (l2.length : Int) := of_decide_eq_true (by first | (with_reducible assumption) | assumption)
                  obtain ⟨ad73015, e73015, hx73015_0, hx73015_1, hx73015_2, hx73015_3⟩ := at_T47 HR2.out x9_2 p73015 q73015
                  have hw73015_3 := hx73015_3
                  have hw73015_2 := hx73015_2
                  have hw73015_1 := hx73015_1
                  have hw73015_0 := hx73015_0
                  obtain rfl : ad73012 = ad73015 := (by injection e73015)
                  replace hx73015_0 := (HB.out.cell (World.block_lt_of_cell? w _ hx73015_0)).trans hx73015_0
                  replace hx73015_1 := (HB.out.cell (World.block_lt_of_cell? w _ hx73015_1)).trans hx73015_1
                  replace hx73015_2 := (HB.out.cell (World.block_lt_of_cell? w _ hx73015_2)).trans hx73015_2
                  replace hx73015_3 := (HB.out.cell (World.block_lt_of_cell? w _ hx73015_3)).trans hx73015_3
                  replace p73015 := eq_true p73015
                  replace q73015 := eq_true q73015
                  have p73016 : 0 ≤ (x9_2 : Int) := of_decide_eq_true (by first | (with_reducible assumption) | assumption)
                  have q73016 : x9_2 < (l2.length : Int) := of_decide_eq_true (by first | (with_reducible assumption) | assumption)
                  obtain ⟨ad73016, e73016, hx73016_0, hx73016_1, hx73016_2, hx73016_3⟩ := at_T47 HR2.out x9_2 p73016 q73016
                  have hw73016_3 := hx73016_3
                  have hw73016_2 := hx73016_2
                  have hw73016_1 := hx73016_1
                  have hw73016_0 := hx73016_0
                  obtain rfl : ad73012 = ad73016 := (by injection e73016)
                  replace hx73016_0 := (HB.out.cell (World.block_lt_of_cell? w _ hx73016_0)).trans hx73016_0
                  replace hx73016_1 := (HB.out.cell (World.block_lt_of_cell? w _ hx73016_1)).trans hx73016_1
                  replace hx73016_2 := (HB.out.cell (World.block_lt_of_cell? w _ hx73016_2)).trans hx73016_2
                  replace hx73016_3 := (HB.out.cell (World.block_lt_of_cell? w _ hx73016_3)).trans hx73016_3
                  replace p73016 := eq_true p73016
                  replace q73016 := eq_true q73016
                  have p73017 : 0 ≤ (x9_2 : Int) := of_decide_eq_true (by first | (with_reducible assumption) | assumption)
                  have q73017 : x9_2 < (l2.length : Int) := of_decide_eq_true (by first | (with_reducible assumption) | assumption)
                  obtain ⟨ad73017, e73017, hx73017_0, hx73017_1, hx73017_2, hx73017_3⟩ := at_T47 HR2.out x9_2 p73017 q73017
                  have hw73017_3 := hx73017_3
                  have hw73017_2 := hx73017_2
                  have hw73017_1 := hx73017_1
                  have hw73017_0 := hx73017_0
                  obtain rfl : ad73012 = ad73017 := (by injection e73017)
                  replace hx73017_0 := (HB.out.cell (World.block_lt_of_cell? w _ hx73017_0)).trans hx73017_0
                  replace hx73017_1 := (HB.out.cell (World.block_lt_of_cell? w _ hx73017_1)).trans hx73017_1
                  replace hx73017_2 := (HB.out.cell (World.block_lt_of_cell? w _ hx73017_2)).trans hx73017_2
                  replace hx73017_3 := (HB.out.cell (World.block_lt_of_cell? w _ hx73017_3)).trans hx73017_3
                  replace p73017 := eq_true p73017
                  replace q73017 := eq_true q73017
                  have p73018 : 0 ≤ (x9_2 : Int) := of_decide_eq_true (by first | (with_reducible assumption) | assumption)
                  have q73018 : x9_2 < (l2.length : Int) := of_decide_eq_true (by first | (with_reducible assumption) | assumption)
                  obtain ⟨ad73018, e73018, hx73018_0, hx73018_1, hx73018_2, hx73018_3⟩ := at_T47 HR2.out x9_2 p73018 q73018
                  have hw73018_3 := hx73018_3
                  have hw73018_2 := hx73018_2
                  have hw73018_1 := hx73018_1
                  have hw73018_0 := hx73018_0
                  obtain rfl : ad73012 = ad73018 := (by injection e73018)
                  replace hx73018_0 := (HB.out.cell (World.block_lt_of_cell? w _ hx73018_0)).trans hx73018_0
                  replace hx73018_1 := (HB.out.cell (World.block_lt_of_cell? w _ hx73018_1)).trans hx73018_1
                  replace hx73018_2 := (HB.out.cell (World.block_lt_of_cell? w _ hx73018_2)).trans hx73018_2
                  replace hx73018_3 := (HB.out.cell (World.block_lt_of_cell? w _ hx73018_3)).trans hx73018_3
                  replace p73018 := eq_true p73018
                  replace q73018 := eq_true q73018
                  have p73019 : 0 ≤ (x9_2 : Int) := of_decide_eq_true (by first | (with_reducible assumption) | assumption)
                  have q73019 : x9_2 < (l2.length : Int) := of_decide_eq_true (by first | (with_reducible assumption) | assumption)
                  obtain ⟨ad73019, e73019, hx73019_0, hx73019_1, hx73019_2, hx73019_3⟩ := at_T47 HR2.out x9_2 p73019 q73019
                  have hw73019_3 := hx73019_3
                  have hw73019_2 := hx73019_2
                  have hw73019_1 := hx73019_1
                  have hw73019_0 := hx73019_0
                  obtain rfl : ad73012 = ad73019 := (by injection e73019)
                  replace hx73019_0 := (HB.out.cell (World.block_lt_of_cell? w _ hx73019_0)).trans hx73019_0
                  replace hx73019_1 := (HB.out.cell (World.block_lt_of_cell? w _ hx73019_1)).trans hx73019_1
                  replace hx73019_2 := (HB.out.cell (World.block_lt_of_cell? w _ hx73019_2)).trans hx73019_2
                  replace hx73019_3 := (HB.out.cell (World.block_lt_of_cell? w _ hx73019_3)).trans hx73019_3
                  replace p73019 := eq_true p73019
                  replace q73019 := eq_true q73019
                  refine start_ (n := 34) (S := fun w' => w'.cell? ⟨gb73011, 0, none⟩ = some (.int .i64 t73005) ∧ w'.cell? ⟨gb73011, 1, none⟩ = some (.int .i64 t73006) ∧ w'.cell? ⟨gb73011, 2, none⟩ = some (.int .i64 t73007) ∧ w'.cell? ⟨gb73011, 3, none⟩ = some (u73012003) ∧ w'.cell? ⟨gb73002, 0, none⟩ = some (.int .i64 a1_0) ∧ w'.cell? ⟨gb73002, 1, none⟩ = some (.int .i64 a1_1) ∧ w'.cell? ⟨gb73002, 2, none⟩ = some (.int .i64 a1_2) ∧ w'.cell? ⟨gb73002, 3, none⟩ = some (.slice A1_3 l1_3.length c1_3) ∧ w'.cell? (ad73012.add ((x9_2).toNat * 4)) = some (.int .i64 ((rd_T47 l2 x9_2).f0)) ∧ w'.cell? ⟨(ad73012.add ((x9_2).toNat * 4)).block, (ad73012.add ((x9_2).toNat * 4)).off + 1, none⟩ = some (.int .i64 ((rd_T47 l2 x9_2).f1)) ∧ w'.cell? ⟨(ad73012.add ((x9_2).toNat * 4)).block, (ad73012.add ((x9_2).toNat * 4)).off + 2, none⟩ = some (.int .i64 ((rd_T47 l2 x9_2).f2)) ∧ w'.cell? ⟨(ad73012.add ((x9_2).toNat * 4)).block, (ad73012.add ((x9_2).toNat * 4)).off + 3, none⟩ = some (.int .i64 ((rd_T47 l2 x9_2).f3)) ∧ w'.cell? (ad73012.add ((x9_2).toNat * 4)) = some (.int .i64 ((rd_T47 l2 x9_2).f0)) ∧ w'.cell? ⟨(ad73012.add ((x9_2).toNat * 4)).block, (ad73012.add ((x9_2).toNat * 4)).off + 1, none⟩ = some (.int .i64 ((rd_T47 l2 x9_2).f1)) ∧ w'.cell? ⟨(ad73012.add ((x9_2).toNat * 4)).block, (ad73012.add ((x9_2).toNat * 4)).off + 2, none⟩ = some (.int .i64 ((rd_T47 l2 x9_2).f2)) ∧ w'.cell? ⟨(ad73012.add ((x9_2).toNat * 4)).block, (ad73012.add ((x9_2).toNat * 4)).off + 3, none⟩ = some (.int .i64 ((rd_T47 l2 x9_2).f3)) ∧ w'.cell? (ad73012.add ((x9_2).toNat * 4)) = some (.int .i64 ((rd_T47 l2 x9_2).f0)) ∧ w'.cell? ⟨(ad73012.add ((x9_2).toNat * 4)).block, (ad73012.add ((x9_2).toNat * 4)).off + 1, none⟩ = some (.int .i64 ((rd_T47 l2 x9_2).f1)) ∧ w'.cell? ⟨(ad73012.add ((x9_2).toNat * 4)).block, (ad73012.add ((x9_2).toNat * 4)).off + 2, none⟩ = some (.int .i64 ((rd_T47 l2 x9_2).f2)) ∧ w'.cell? ⟨(ad73012.add ((x9_2).toNat * 4)).block, (ad73012.add ((x9_2).toNat * 4)).off + 3, none⟩ = some (.int .i64 ((rd_T47 l2 x9_2).f3)) ∧ w'.cell? (ad73012.add ((x9_2).toNat * 4)) = some (.int .i64 ((rd_T47 l2 x9_2).f0)) ∧ w'.cell? ⟨(ad73012.add ((x9_2).toNat * 4)).block, (ad73012.add ((x9_2).toNat * 4)).off + 1, none⟩ = some (.int .i64 ((rd_T47 l2 x9_2).f1)) ∧ w'.cell? ⟨(ad73012.add ((x9_2).toNat * 4)).block, (ad73012.add ((x9_2).toNat * 4)).off + 2, none⟩ = some (.int .i64 ((rd_T47 l2 x9_2).f2)) ∧ w'.cell? ⟨(ad73012.add ((x9_2).toNat * 4)).block, (ad73012.add ((x9_2).toNat * 4)).off + 3, none⟩ = some (.int .i64 ((rd_T47 l2 x9_2).f3)) ∧ w'.cell? (ad73012.add ((x9_2).toNat * 4)) = some (.int .i64 ((rd_T47 l2 x9_2).f0)) ∧ w'.cell? ⟨(ad73012.add ((x9_2).toNat * 4)).block, (ad73012.add ((x9_2).toNat * 4)).off + 1, none⟩ = some (.int .i64 ((rd_T47 l2 x9_2).f1)) ∧ w'.cell? ⟨(ad73012.add ((x9_2).toNat * 4)).block, (ad73012.add ((x9_2).toNat * 4)).off + 2, none⟩ = some (.int .i64 ((rd_T47 l2 x9_2).f2)) ∧ w'.cell? ⟨(ad73012.add ((x9_2).toNat * 4)).block, (ad73012.add ((x9_2).toNat * 4)).off + 3, none⟩ = some (.int .i64 ((rd_T47 l2 x9_2).f3)) ∧ w'.cell? (ad73012.add ((x9_2).toNat * 4)) = some (.int .i64 ((rd_T47 l2 x9_2).f0)) ∧ w'.cell? ⟨(ad73012.add ((x9_2).toNat * 4)).block, (ad73012.add ((x9_2).toNat * 4)).off + 1, none⟩ = some (.int .i64 ((rd_T47 l2 x9_2).f1)) ∧ w'.cell? ⟨(ad73012.add ((x9_2).toNat * 4)).block, (ad73012.add ((x9_2).toNat * 4)).off + 2, none⟩ = some (.int .i64 ((rd_T47 l2 x9_2).f2)) ∧ w'.cell? ⟨(ad73012.add ((x9_2).toNat * 4)).block, (ad73012.add ((x9_2).toNat * 4)).off + 3, none⟩ = some (.int .i64 ((rd_T47 l2 x9_2).f3))) (ds := []) #[false, false, false, false, false, false, false, false, false, false, false, false, false, false, false, false, false, false, false, false, false, false, false, false, false, false, false, false, false, false, false, false, false, false] (by kernel_rfl) rfl rfl ⟨(blk_cell BK73011.out 0).trans rfl, (blk_cell BK73011.out 1).trans rfl, (blk_cell BK73011.out 2).trans rfl, (blk_cell BK73011.out 3).trans rfl, (blk_cell BK73002.out 0).trans rfl, (blk_cell BK73002.out 1).trans rfl, (blk_cell BK73002.out 2).trans rfl, (blk_cell BK73002.out 3).trans rfl, ((HB.out.cell (World.block_lt_of_cell? w _ hw73014_0)).trans hw73014_0), ((HB.out.cell (World.block_lt_of_cell? w _ hw73014_1)).trans hw73014_1), ((HB.out.cell (World.block_lt_of_cell? w _ hw73014_2)).trans hw73014_2), ((HB.out.cell (World.block_lt_of_cell? w _ hw73014_3)).trans hw73014_3), ((HB.out.cell (World.block_lt_of_cell? w _ hw73015_0)).trans hw73015_0), ((HB.out.cell (World.block_lt_of_cell? w _ hw73015_1)).trans hw73015_1), ((HB.out.cell (World.block_lt_of_cell? w _ hw73015_2)).trans hw73015_2), ((HB.out.cell (World.block_lt_of_cell? w _ hw73015_3)).trans hw73015_3), ((HB.out.cell (World.block_lt_of_cell? w _ hw73016_0)).trans hw73016_0), ((HB.out.cell (World.block_lt_of_cell? w _ hw73016_1)).trans hw73016_1), ((HB.out.cell (World.block_lt_of_cell? w _ hw73016_2)).trans hw73016_2), ((HB.out.cell (World.block_lt_of_cell? w _ hw73016_3)).trans hw73016_3), ((HB.out.cell (World.block_lt_of_cell? w _ hw73017_0)).trans hw73017_0), ((HB.out.cell (World.block_lt_of_cell? w _ hw73017_1)).trans hw73017_1), ((HB.out.cell (World.block_lt_of_cell? w _ hw73017_2)).trans hw73017_2), ((HB.out.cell (World.block_lt_of_cell? w _ hw73017_3)).trans hw73017_3), ((HB.out.cell (World.block_lt_of_cell? w _ hw73018_0)).trans hw73018_0), ((HB.out.cell (World.block_lt_of_cell? w _ hw73018_1)).trans hw73018_1), ((HB.out.cell (World.block_lt_of_cell? w _ hw73018_2)).trans hw73018_2), ((HB.out.cell (World.block_lt_of_cell? w _ hw73018_3)).trans hw73018_3), ((HB.out.cell (World.block_lt_of_cell? w _ hw73019_0)).trans hw73019_0), ((HB.out.cell (World.block_lt_of_cell? w _ hw73019_1)).trans hw73019_1), ((HB.out.cell (World.block_lt_of_cell? w _ hw73019_2)).trans hw73019_2), ((HB.out.cell (World.block_lt_of_cell? w _ hw73019_3)).trans hw73019_3)⟩ (fun hHeld => ?_); refine with_tabW spec_PatchImage.tab9 spec_PatchImage.bits9 (fun HT_ HW_ => ?_)
                  generalize w44.drew = w45 at HO_73012003 BK73001 BK73002 BK73003 BK73011 HB hx73014_0 hx73014_1 hx73014_2 hx73014_3 hx73015_0 hx73015_1 hx73015_2 hx73015_3 hx73016_0 hx73016_1 hx73016_2 hx73016_3 hx73017_0 hx73017_1 hx73017_2 hx73017_3 hx73018_0 hx73018_1 hx73018_2 hx73018_3 hx73019_0 hx73019_1 hx73019_2 hx73019_3 hHeld ⊢
                  refine pure_ (i := 1) (N := some 37) (v := ?_) (a' := ?_) #[false, true, false, false, false, false, false, false, false, false, false, false, false, false, false, false, false, false, false, false, false, false, false, false, false, false, false, false, false, false, false, false, false, false] rfl rfl (any_of HT_.out (by kernel_rfl)) (fun _ _ _ h => h) (Or.inl ⟨by rfl, ?_⟩) ?_ ?_
                  rotate_left
                  · intro w'
                    go_simp
                    with_reducible rfl
                  rotate_left
                  · simp only [Act.put, List.setIfInBounds_toArray, List.set_cons_zero, List.set_cons_succ, i64_w, i32_w]
                    rfl
                  refine pure_ (i := 2) (N := some 38) (v := ?_) (a' := ?_) #[false, true, true, false, false, false, false, false, false, false, false, false, false, false, false, false, false, false, false, false, false, false, false, false, false, false, false, false, false, false, false, false, false, false] rfl rfl (any_of HT_.out (by kernel_rfl)) (fun _ _ _ h => h) (Or.inl ⟨by rfl, ?_⟩) ?_ ?_
                  rotate_left
                  · intro w'
                    go_simp
                    with_reducible rfl
                  rotate_left
                  · simp only [Act.put, List.setIfInBounds_toArray, List.set_cons_zero, List.set_cons_succ, i64_w, i32_w]
                    rfl
                  refine pure_ (i := 3) (N := some 39) (v := ?_) (a' := ?_) #[false, true, true, true, false, false, false, false, false, false, false, false, false, false, false, false, false, false, false, false, false, false, false, false, false, false, false, false, false, false, false, false, false, false] rfl rfl (any_of HT_.out (by kernel_rfl)) (fun _ _ _ h => h) (Or.inl ⟨by rfl, ?_⟩) ?_ ?_
                  rotate_left
                  · intro w'
                    go_simp
                    with_reducible rfl
                  rotate_left
                  · simp only [Act.put, List.setIfInBounds_toArray, List.set_cons_zero, List.set_cons_succ, i64_w, i32_w]
                    rfl
                  refine pure_ (i := 4) (N := some 40) (v := ?_) (a' := ?_) #[false, true, true, true, true, false, false, false, false, false, false, false, false, false, false, false, false, false, false, false, false, false, false, false, false, false, false, false, false, false, false, false, false, false] rfl rfl (any_of HT_.out (by kernel_rfl)) (fun _ _ _ h => h) (Or.inl ⟨by rfl, ?_⟩) ?_ ?_
                  rotate_left
                  · intro w'
                    go_simp
                    with_reducible rfl
                  rotate_left
                  · simp only [Act.put, List.setIfInBounds_toArray, List.set_cons_zero, List.set_cons_succ, i64_w, i32_w]
                    rfl
                  refine pure_ (i := 6) (N := some 42) (v := ?_) (a' := ?_) #[false, true, true, true, true, false, true, false, false, false, false, false, false, false, false, false, false, false, false, false, false, false, false, false, false, false, false, false, false, false, false, false, false, false] rfl rfl (any_of HT_.out (by kernel_rfl)) (fun _ _ _ h => h) (Or.inl ⟨by rfl, ?_⟩) ?_ ?_
                  rotate_left
                  · intro w'
                    go_simp
                    with_reducible rfl
                  rotate_left
                  · simp only [Act.put, List.setIfInBounds_toArray, List.set_cons_zero, List.set_cons_succ, i64_w, i32_w]
                    rfl
                  refine pure_ (i := 7) (N := some 43) (v := ?_) (a' := ?_) #[false, true, true, true, true, false, true, true, false, false, false, false, false, false, false, false, false, false, false, false, false, false, false, false, false, false, false, false, false, false, false, false, false, false] rfl rfl (any_of HT_.out (by kernel_rfl)) (fun _ _ _ h => h) (Or.inl ⟨by rfl, ?_⟩) ?_ ?_
                  rotate_left
                  · intro w'
                    go_simp
                    with_reducible rfl
                  rotate_left
                  · simp only [Act.put, List.setIfInBounds_toArray, List.set_cons_zero, List.set_cons_succ, i64_w, i32_w]
                    rfl
                  refine pure_ (i := 8) (N := some 44) (v := ?_) (a' := ?_) #[false, true, true, true, true, false, true, true, true, false, false, false, false, false, false, false, false, false, false, false, false, false, false, false, false, false, false, false, false, false, false, false, false, false] rfl rfl (any_of HT_.out (by kernel_rfl)) (fun _ _ _ h => h) (Or.inl ⟨by rfl, ?_⟩) ?_ ?_
                  rotate_left
                  · intro w'
                    go_simp
                    with_reducible rfl
                  rotate_left
                  · simp only [Act.put, List.setIfInBounds_toArray, List.set_cons_zero, List.set_cons_succ, i64_w, i32_w]
                    rfl
                  refine pure_ (i := 9) (N := some 45) (v := ?_) (a' := ?_) #[false, true, true, true, true, false, true, true, true, true, false, false, false, false, false, false, false, false, false, false, false, false, false, false, false, false, false, false, false, false, false, false, false, false] rfl rfl (any_of HT_.out (by kernel_rfl)) (fun _ _ _ h => h) (Or.inl ⟨by rfl, ?_⟩) ?_ ?_
                  rotate_left
                  · intro w'
                    go_simp
                    with_reducible rfl
                  rotate_left
                  · simp only [Act.put, List.setIfInBounds_toArray, List.set_cons_zero, List.set_cons_succ, i64_w, i32_w]
                    rfl
                  refine pure_ (i := 12) (N := some 48) (v := ?_) (a' := ?_) #[false, true, true, true, true, false, true, true, true, true, false, false, true, false, false, false, false, false, false, false, false, false, false, false, false, false, false, false, false, false, false, false, false, false] rfl rfl (any_of HT_.out (by kernel_rfl)) (fun _ _ _ h => h) (Or.inl ⟨by rfl, ?_⟩) ?_ ?_
                  rotate_left
                  · intro w'
                    go_simp
                    with_reducible rfl
                  rotate_left
                  · simp only [Act.put, List.setIfInBounds_toArray, List.set_cons_zero, List.set_cons_succ, i64_w, i32_w]
                    rfl
                  refine pure_ (i := 13) (N := some 49) (v := ?_) (a' := ?_) #[false, true, true, true, true, false, true, true, true, true, false, false, true, true, false, false, false, false, false, false, false, false, false, false, false, false, false, false, false, false, false, false, false, false] rfl rfl (any_of HT_.out (by kernel_rfl)) (fun _ _ _ h => h) (Or.inl ⟨by rfl, ?_⟩) ?_ ?_
                  rotate_left
                  · intro w'
                    go_simp
                    with_reducible rfl
                  rotate_left
                  · simp only [Act.put, List.setIfInBounds_toArray, List.set_cons_zero, List.set_cons_succ, i64_w, i32_w]
                    rfl
                  refine pure_ (i := 14) (N := some 50) (v := ?_) (a' := ?_) #[false, true, true, true, true, false, true, true, true, true, false, false, true, true, true, false, false, false, false, false, false, false, false, false, false, false, false, false, false, false, false, false, false, false] rfl rfl (any_of HT_.out (by kernel_rfl)) (fun _ _ _ h => h) (Or.inl ⟨by rfl, ?_⟩) ?_ ?_
                  rotate_left
                  · intro w'
                    go_simp
                    with_reducible rfl
                  rotate_left
                  · simp only [Act.put, List.setIfInBounds_toArray, List.set_cons_zero, List.set_cons_succ, i64_w, i32_w]
                    rfl
                  refine pure_ (i := 15) (N := some 51) (v := ?_) (a' := ?_) #[false, true, true, true, true, false, true, true, true, true, false, false, true, true, true, true, false, false, false, false, false, false, false, false, false, false, false, false, false, false, false, false, false, false] rfl rfl (any_of HT_.out (by kernel_rfl)) (fun _ _ _ h => h) (Or.inl ⟨by rfl, ?_⟩) ?_ ?_
                  rotate_left
                  · intro w'
                    go_simp
                    with_reducible rfl
                  rotate_left
                  · simp only [Act.put, List.setIfInBounds_toArray, List.set_cons_zero, List.set_cons_succ, i64_w, i32_w]
                    rfl
                  refine pure_ (i := 17) (N := some 53) (v := ?_) (a' := ?_) #[false, true, true, true, true, false, true, true, true, true, false, false, true, true, true, true, false, true, false, false, false, false, false, false, false, false, false, false, false, false, false, false, false, false] rfl rfl (any_of HT_.out (by kernel_rfl)) (fun _ _ _ h => h) (Or.inl ⟨by rfl, ?_⟩) ?_ ?_
                  rotate_left
                  · intro w'
                    go_simp
                    with_reducible rfl
                  rotate_left
                  · simp only [Act.put, List.setIfInBounds_toArray, List.set_cons_zero, List.set_cons_succ, i64_w, i32_w]
                    rfl
                  refine pure_ (i := 18) (N := some 54) (v := ?_) (a' := ?_) #[false, true, true, true, true, false, true, true, true, true, false, false, true, true, true, true, false, true, true, false, false, false, false, false, false, false, false, false, false, false, false, false, false, false] rfl rfl (any_of HT_.out (by kernel_rfl)) (fun _ _ _ h => h) (Or.inl ⟨by rfl, ?_⟩) ?_ ?_
                  rotate_left
                  · intro w'
                    go_simp
                    with_reducible rfl
                  rotate_left
                  · simp only [Act.put, List.setIfInBounds_toArray, List.set_cons_zero, List.set_cons_succ, i64_w, i32_w]
                    rfl
                  refine pure_ (i := 19) (N := some 55) (v := ?_) (a' := ?_) #[false, true, true, true, true, false, true, true, true, true, false, false, true, true, true, true, false, true, true, true, false, false, false, false, false, false, false, false, false, false, false, false, false, false] rfl rfl (any_of HT_.out (by kernel_rfl)) (fun _ _ _ h => h) (Or.inl ⟨by rfl, ?_⟩) ?_ ?_
                  rotate_left
                  · intro w'
                    go_simp
                    with_reducible rfl
                  rotate_left
                  · simp only [Act.put, List.setIfInBounds_toArray, List.set_cons_zero, List.set_cons_succ, i64_w, i32_w]
                    rfl
                  refine pure_ (i := 20) (N := some 56) (v := ?_) (a' := ?_) #[false, true, true, true, true, false, true, true, true, true, false, false, true, true, true, true, false, true, true, true, true, false, false, false, false, false, false, false, false, false, false, false, false, false] rfl rfl (any_of HT_.out (by kernel_rfl)) (fun _ _ _ h => h) (Or.inl ⟨by rfl, ?_⟩) ?_ ?_
                  rotate_left
                  · intro w'
                    go_simp
                    with_reducible rfl
                  rotate_left
                  · simp only [Act.put, List.setIfInBounds_toArray, List.set_cons_zero, List.set_cons_succ, i64_w, i32_w]
                    rfl
                  refine pure_ (i := 22) (N := some 58) (v := ?_) (a' := ?_) #[false, true, true, true, true, false, true, true, true, true, false, false, true, true, true, true, false, true, true, true, true, false, true, false, false, false, false, false, false, false, false, false, false, false] rfl rfl (any_of HT_.out (by kernel_rfl)) (fun _ _ _ h => h) (Or.inl ⟨by rfl, ?_⟩) ?_ ?_
                  rotate_left
                  · intro w'
                    go_simp
                    with_reducible rfl
                  rotate_left
                  · simp only [Act.put, List.setIfInBounds_toArray, List.set_cons_zero, List.set_cons_succ, i64_w, i32_w]
                    rfl
                  refine pure_ (i := 23) (N := some 59) (v := ?_) (a' := ?_) #[false, true, true, true, true, false, true, true, true, true, false, false, true, true, true, true, false, true, true, true, true, false, true, true, false, false, false, false, false, false, false, false, false, false] rfl rfl (any_of HT_.out (by kernel_rfl)) (fun _ _ _ h => h) (Or.inl ⟨by rfl, ?_⟩) ?_ ?_
                  rotate_left
                  · intro w'
                    go_simp
                    with_reducible rfl
                  rotate_left
                  · simp only [Act.put, List.setIfInBounds_toArray, List.set_cons_zero, List.set_cons_succ, i64_w, i32_w]
                    rfl
                  refine pure_ (i := 24) (N := some 60) (v := ?_) (a' := ?_) #[false, true, true, true, true, false, true, true, true, true, false, false, true, true, true, true, false, true, true, true, true, false, true, true, true, false, false, false, false, false, false, false, false, false] rfl rfl (any_of HT_.out (by kernel_rfl)) (fun _ _ _ h => h) (Or.inl ⟨by rfl, ?_⟩) ?_ ?_
                  rotate_left
                  · intro w'
                    go_simp
                    with_reducible rfl
                  rotate_left
                  · simp only [Act.put, List.setIfInBounds_toArray, List.set_cons_zero, List.set_cons_succ, i64_w, i32_w]
                    rfl
                  refine pure_ (i := 25) (N := some 61) (v := ?_) (a' := ?_) #[false, true, true, true, true, false, true, true, true, true, false, false, true, true, true, true, false, true, true, true, true, false, true, true, true, true, false, false, false, false, false, false, false, false] rfl rfl (any_of HT_.out (by kernel_rfl)) (fun _ _ _ h => h) (Or.inl ⟨by rfl, ?_⟩) ?_ ?_
                  rotate_left
                  · intro w'
                    go_simp
                    with_reducible rfl
                  rotate_left
                  · simp only [Act.put, List.setIfInBounds_toArray, List.set_cons_zero, List.set_cons_succ, i64_w, i32_w]
                    rfl
                  refine pure_ (i := 27) (N := some 63) (v := ?_) (a' := ?_) #[false, true, true, true, true, false, true, true, true, true, false, false, true, true, true, true, false, true, true, true, true, false, true, true, true, true, false, true, false, false, false, false, false, false] rfl rfl (any_of HT_.out (by kernel_rfl)) (fun _ _ _ h => h) (Or.inl ⟨by rfl, ?_⟩) ?_ ?_
                  rotate_left
                  · intro w'
                    go_simp
                    with_reducible rfl
                  rotate_left
                  · simp only [Act.put, List.setIfInBounds_toArray, List.set_cons_zero, List.set_cons_succ, i64_w, i32_w]
                    rfl
                  refine pure_ (i := 28) (N := some 64) (v := ?_) (a' := ?_) #[false, true, true, true, true, false, true, true, true, true, false, false, true, true, true, true, false, true, true, true, true, false, true, true, true, true, false, true, true, false, false, false, false, false] rfl rfl (any_of HT_.out (by kernel_rfl)) (fun _ _ _ h => h) (Or.inl ⟨by rfl, ?_⟩) ?_ ?_
                  rotate_left
                  · intro w'
                    go_simp
                    with_reducible rfl
                  rotate_left
                  · simp only [Act.put, List.setIfInBounds_toArray, List.set_cons_zero, List.set_cons_succ, i64_w, i32_w]
                    rfl
                  refine pure_ (i := 29) (N := some 65) (v := ?_) (a' := ?_) #[false, true, true, true, true, false, true, true, true, true, false, false, true, true, true, true, false, true, true, true, true, false, true, true, true, true, false, true, true, true, false, false, false, false] rfl rfl (any_of HT_.out (by kernel_rfl)) (fun _ _ _ h => h) (Or.inl ⟨by rfl, ?_⟩) ?_ ?_
                  rotate_left
                  · intro w'
                    go_simp
                    with_reducible rfl
                  rotate_left
                  · simp only [Act.put, List.setIfInBounds_toArray, List.set_cons_zero, List.set_cons_succ, i64_w, i32_w]
                    rfl
                  refine pure_ (i := 30) (N := some 66) (v := ?_) (a' := ?_) #[false, true, true, true, true, false, true, true, true, true, false, false, true, true, true, true, false, true, true, true, true, false, true, true, true, true, false, true, true, true, true, false, false, false] rfl rfl (any_of HT_.out (by kernel_rfl)) (fun _ _ _ h => h) (Or.inl ⟨by rfl, ?_⟩) ?_ ?_
                  rotate_left
                  · intro w'
                    go_simp
                    with_reducible rfl
                  rotate_left
                  · simp only [Act.put, List.setIfInBounds_toArray, List.set_cons_zero, List.set_cons_succ, i64_w, i32_w]
                    rfl
                  refine take_ (i := 0) (N := some 36) (v := ?_) (a' := ?_) #[true, true, true, true, true, false, true, true, true, true, false, false, true, true, true, true, false, true, true, true, true, false, true, true, true, true, false, true, true, true, true, false, false, false] rfl rfl (take_ofW HT_.out HW_.out (by kernel_rfl)) (fun _ _ _ h => h) (Or.inl ⟨by rfl, ?_⟩) hHeld ?_ ?_
                  rotate_left
                  · rintro w' ⟨s0, s1, s2, s3, s4, s5, s6, s7, s8, s9, s10, s11, s12, s13, s14, s15, s16, s17, s18, s19, s20, s21, s22, s23, s24, s25, s26, s27, s28, s29, s30, s31⟩
                    go_simp
                    with_reducible rfl
                  rotate_left
                  · simp only [Act.put, List.setIfInBounds_toArray, List.set_cons_zero, List.set_cons_succ, i64_w, i32_w]
                    rfl
                  refine take_ (i := 5) (N := some 41) (v := ?_) (a' := ?_) #[true, true, true, true, true, true, true, true, true, true, false, false, true, true, true, true, false, true, true, true, true, false, true, true, true, true, false, true, true, true, true, false, false, false] rfl rfl (take_ofW HT_.out HW_.out (by kernel_rfl)) (fun _ _ _ h => h) (Or.inl ⟨by rfl, ?_⟩) hHeld ?_ ?_
                  rotate_left
                  · rintro w' ⟨s0, s1, s2, s3, s4, s5, s6, s7, s8, s9, s10, s11, s12, s13, s14, s15, s16, s17, s18, s19, s20, s21, s22, s23, s24, s25, s26, s27, s28, s29, s30, s31⟩
                    go_simp
                    with_reducible rfl
                  rotate_left
                  · simp only [Act.put, List.setIfInBounds_toArray, List.set_cons_zero, List.set_cons_succ, i64_w, i32_w]
                    rfl
                  refine take_ (i := 10) (N := some 46) (v := ?_) (a' := ?_) #[true, true, true, true, true, true, true, true, true, true, true, false, true, true, true, true, false, true, true, true, true, false, true, true, true, true, false, true, true, true, true, false, false, false] rfl rfl (take_ofW HT_.out HW_.out (by kernel_rfl)) (fun _ _ _ h => h) (Or.inl ⟨by rfl, ?_⟩) hHeld ?_ ?_
                  rotate_left
                  · rintro w' ⟨s0, s1, s2, s3, s4, s5, s6, s7, s8, s9, s10, s11, s12, s13, s14, s15, s16, s17, s18, s19, s20, s21, s22, s23, s24, s25, s26, s27, s28, s29, s30, s31⟩
                    go_simp
                    with_reducible rfl
                  rotate_left
                  · simp only [Act.put, List.setIfInBounds_toArray, List.set_cons_zero, List.set_cons_succ, i64_w, i32_w]
                    rfl
                  refine take_ (i := 11) (N := some 47) (v := ?_) (a' := ?_) #[true, true, true, true, true, true, true, true, true, true, true, true, true, true, true, true, false, true, true, true, true, false, true, true, true, true, false, true, true, true, true, false, false, false] rfl rfl (take_ofW HT_.out HW_.out (by kernel_rfl)) (fun _ _ _ h => h) (Or.inl ⟨by rfl, ?_⟩) hHeld ?_ ?_
                  rotate_left
                  · rintro w' ⟨s0, s1, s2, s3, s4, s5, s6, s7, s8, s9, s10, s11, s12, s13, s14, s15, s16, s17, s18, s19, s20, s21, s22, s23, s24, s25, s26, s27, s28, s29, s30, s31⟩
                    go_simp
                    with_reducible rfl
                  rotate_left
                  · simp only [Act.put, List.setIfInBounds_toArray, List.set_cons_zero, List.set_cons_succ, i64_w, i32_w]
                    rfl
                  refine take_ (i := 16) (N := some 52) (v := ?_) (a' := ?_) #[true, true, true, true, true, true, true, true, true, true, true, true, true, true, true, true, true, true, true, true, true, false, true, true, true, true, false, true, true, true, true, false, false, false] rfl rfl (take_ofW HT_.out HW_.out (by kernel_rfl)) (fun _ _ _ h => h) (Or.inl ⟨by rfl, ?_⟩) hHeld ?_ ?_
                  rotate_left
                  · rintro w' ⟨s0, s1, s2, s3, s4, s5, s6, s7, s8, s9, s10, s11, s12, s13, s14, s15, s16, s17, s18, s19, s20, s21, s22, s23, s24, s25, s26, s27, s28, s29, s30, s31⟩
                    go_simp
                    with_reducible rfl
                  rotate_left
                  · simp only [Act.put, List.setIfInBounds_toArray, List.set_cons_zero, List.set_cons_succ, i64_w, i32_w]
                    rfl
                  refine take_ (i := 21) (N := some 57) (v := ?_) (a' := ?_) #[true, true, true, true, true, true, true, true, true, true, true, true, true, true, true, true, true, true, true, true, true, true, true, true, true, true, false, true, true, true, true, false, false, false] rfl rfl (take_ofW HT_.out HW_.out (by kernel_rfl)) (fun _ _ _ h => h) (Or.inl ⟨by rfl, ?_⟩) hHeld ?_ ?_
                  rotate_left
                  · rintro w' ⟨s0, s1, s2, s3, s4, s5, s6, s7, s8, s9, s10, s11, s12, s13, s14, s15, s16, s17, s18, s19, s20, s21, s22, s23, s24, s25, s26, s27, s28, s29, s30, s31⟩
                    go_simp
                    with_reducible rfl
                  rotate_left
                  · simp only [Act.put, List.setIfInBounds_toArray, List.set_cons_zero, List.set_cons_succ, i64_w, i32_w]
                    rfl
                  refine take_ (i := 26) (N := some 62) (v := ?_) (a' := ?_) #[true, true, true, true, true, true, true, true, true, true, true, true, true, true, true, true, true, true, true, true, true, true, true, true, true, true, true, true, true, true, true, false, false, false] rfl rfl (take_ofW HT_.out HW_.out (by kernel_rfl)) (fun _ _ _ h => h) (Or.inl ⟨by rfl, ?_⟩) hHeld ?_ ?_
                  rotate_left
                  · rintro w' ⟨s0, s1, s2, s3, s4, s5, s6, s7, s8, s9, s10, s11, s12, s13, s14, s15, s16, s17, s18, s19, s20, s21, s22, s23, s24, s25, s26, s27, s28, s29, s30, s31⟩
                    go_simp
                    with_reducible rfl
                  rotate_left
                  · simp only [Act.put, List.setIfInBounds_toArray, List.set_cons_zero, List.set_cons_succ, i64_w, i32_w]
                    rfl
                  refine take_ (i := 31) (N := some 67) (v := ?_) (a' := ?_) #[true, true, true, true, true, true, true, true, true, true, true, true, true, true, true, true, true, true, true, true, true, true, true, true, true, true, true, true, true, true, true, true, false, false] rfl rfl (take_ofW HT_.out HW_.out (by kernel_rfl)) (fun _ _ _ h => h) (Or.inl ⟨by rfl, ?_⟩) hHeld ?_ ?_
                  rotate_left
                  · rintro w' ⟨s0, s1, s2, s3, s4, s5, s6, s7, s8, s9, s10, s11, s12, s13, s14, s15, s16, s17, s18, s19, s20, s21, s22, s23, s24, s25, s26, s27, s28, s29, s30, s31⟩
                    go_simp
                    with_reducible rfl
                  rotate_left
                  · simp only [Act.put, List.setIfInBounds_toArray, List.set_cons_zero, List.set_cons_succ, i64_w, i32_w]
                    rfl
                  refine one_ (i := 32) (N := some 68) #[true, true, true, true, true, true, true, true, true, true, true, true, true, true, true, true, true, true, true, true, true, true, true, true, true, true, true, true, true, true, true, true, true, false] rfl rfl (one_of HT_.out (by kernel_rfl)) (by decide) (fun K hK => ?_)
                  refine goes_ Try.func123 (by kernel_rfl) rfl #[.agg #[.int .i64 a1_0, .int .i64 a1_1, .int .i64 a1_2, .slice A1_3 l1_3.length c1_3], .int .i64 ((rd_T47 l2 x9_2).f0), .int .i64 ((rd_T47 l2 x9_2).f1), .int .i64 ((rd_T47 l2 x9_2).f2), .int .i64 ((rd_T47 l2 x9_2).f3)] (by rfl) rfl rfl (by (try simp only [List.map_toArray, List.map_cons, List.map_nil]); first | done | rfl | (simp only [List.length_drop, List.length_take]; rfl)) ?_
                  with_reducible refine (spec_crop.calls k2 a1_0 a1_1 a1_2 _ _ l1_3 ((rd_T47 l2 x9_2).f0) ((rd_T47 l2 x9_2).f1) ((rd_T47 l2 x9_2).f2) ((rd_T47 l2 x9_2).f3) t73020 t73021 t73022 t73023 _ ?side1 ?side2 A41.out).mono ?_
                  (case side1 => repeat (first | exact (Kd.C_below HR1_3.out HB.out) | (with_reducible refine Kd.C_alloc ?_ _) | (with_reducible refine Kd.C_drewN ?_ _) | (with_reducible refine Kd.C_drew ?_)))
                  (case side2 => exact HC1_3.out)
                  rintro e w46 ⟨v73024, rfl, ho0, hb⟩
                  refine ⟨_, rfl, ?_⟩
                  have n0_ := Aside0.mk (Kd.R_elder' (by (with_reducible repeat (first | apply Kd.R_alloc | apply Kd.R_drewN | apply Kd.R_drew)); exact HO_73012003.out) (Kd.R_base ho0) hb)
                  have n1_ := Aside0.mk (Kd.R_lower (Kd.R_new' ho0 (Kd.R_lt (by (with_reducible repeat (first | apply Kd.R_alloc | apply Kd.R_drewN | apply Kd.R_drew)); exact HO_73012003.out))) (below_size (by repeat (first | (with_reducible first | exact HB.out | apply below_alloc | apply pw_below_drewN | apply below_drew1 | refine below_set ?_ GE73001.out | refine below_set ?_ GE73002.out | refine below_set ?_ GE73003.out | refine below_set ?_ GE73011.out) | exact HB.out))))
                  have n2_ := Aside0.mk (blk_below (g := gb73001) (o := .cells #[.int .i64 a0_0, .int .i64 a0_1, .int .i64 a0_2, .slice A0_3 l0_3.length c0_3] 27 (0, 0)) (by (with_reducible repeat (first | refine blk_drewN ?_ _ | refine blk_drew ?_ | refine blk_alloc ?_ _)); exact BK73001.out) hb)
                  have n3_ := Aside0.mk (blk_below (g := gb73002) (o := .cells #[.int .i64 a1_0, .int .i64 a1_1, .int .i64 a1_2, .slice A1_3 l1_3.length c1_3] 27 (0, 0)) (by (with_reducible repeat (first | refine blk_drewN ?_ _ | refine blk_drew ?_ | refine blk_alloc ?_ _)); exact BK73002.out) hb)
                  have n4_ := Aside0.mk (blk_below (g := gb73003) (o := .cells #[.int .i64 x73004000_2, .int .i64 x73004001_2, .int .i64 x73004002_2, .slice none 0 0] 27 (0, 0)) (by (with_reducible repeat (first | refine blk_drewN ?_ _ | refine blk_drew ?_ | refine blk_alloc ?_ _)); exact BK73003.out) hb)
                  have n5_ := Aside0.mk (blk_below (g := gb73011) (o := .cells #[.int .i64 t73005, .int .i64 t73006, .int .i64 t73007, u73012003] 27 (0, 0)) (by (with_reducible repeat (first | refine blk_drewN ?_ _ | refine blk_drew ?_ | refine blk_alloc ?_ _)); exact BK73011.out) hb)
                  have n6_ := Aside0.mk (below_step (by repeat (first | (with_reducible first | exact HB.out | apply below_alloc | apply pw_below_drewN | apply below_drew1 | refine below_set ?_ GE73001.out | refine below_set ?_ GE73002.out | refine below_set ?_ GE73003.out | refine below_set ?_ GE73011.out) | exact HB.out)) hb)
                  clear HO_73012003
                  clear BK73001
                  clear BK73002
                  clear BK73003
                  clear BK73011
                  clear HB
                  have HO_73012003 := n0_
                  have HO73025 := n1_
                  have BK73001 := n2_
                  have BK73002 := n3_
                  have BK73003 := n4_
                  have BK73011 := n5_
                  have HB := n6_
                  clear n0_ n1_ n2_ n3_ n4_ n5_ n6_
                  (try clear hb)
                  (try clear hb2)
                  (try clear hk)
                  (try clear hi)
                  (try clear ho0)
                  obtain ⟨Ao47, co47, eo47⟩ := Kd.R_slice HO_73012003.out
                  (first | subst eo47 | (injection eo47 with f1_ f2_ f3_; have f4_ := f1_.symm; have f5_ := f3_.symm; clear f1_ f2_ f3_; subst f4_; subst f5_))
                  obtain ⟨Ao48, co48, eo48⟩ := Kd.R_slice HO73025.out
                  (first | subst eo48 | (injection eo48 with f1_ f2_ f3_; have f4_ := f1_.symm; have f5_ := f3_.symm; clear f1_ f2_ f3_; subst f4_; subst f5_))
                  refine hK.out _ _ ⟨(blk_cell BK73011.out 0).trans rfl, (blk_cell BK73011.out 1).trans rfl, (blk_cell BK73011.out 2).trans rfl, (blk_cell BK73011.out 3).trans rfl, (blk_cell BK73002.out 0).trans rfl, (blk_cell BK73002.out 1).trans rfl, (blk_cell BK73002.out 2).trans rfl, (blk_cell BK73002.out 3).trans rfl, ((HB.out.cell (World.block_lt_of_cell? w _ hw73014_0)).trans hw73014_0), ((HB.out.cell (World.block_lt_of_cell? w _ hw73014_1)).trans hw73014_1), ((HB.out.cell (World.block_lt_of_cell? w _ hw73014_2)).trans hw73014_2), ((HB.out.cell (World.block_lt_of_cell? w _ hw73014_3)).trans hw73014_3), ((HB.out.cell (World.block_lt_of_cell? w _ hw73015_0)).trans hw73015_0), ((HB.out.cell (World.block_lt_of_cell? w _ hw73015_1)).trans hw73015_1), ((HB.out.cell (World.block_lt_of_cell? w _ hw73015_2)).trans hw73015_2), ((HB.out.cell (World.block_lt_of_cell? w _ hw73015_3)).trans hw73015_3), ((HB.out.cell (World.block_lt_of_cell? w _ hw73016_0)).trans hw73016_0), ((HB.out.cell (World.block_lt_of_cell? w _ hw73016_1)).trans hw73016_1), ((HB.out.cell (World.block_lt_of_cell? w _ hw73016_2)).trans hw73016_2), ((HB.out.cell (World.block_lt_of_cell? w _ hw73016_3)).trans hw73016_3), ((HB.out.cell (World.block_lt_of_cell? w _ hw73017_0)).trans hw73017_0), ((HB.out.cell (World.block_lt_of_cell? w _ hw73017_1)).trans hw73017_1), ((HB.out.cell (World.block_lt_of_cell? w _ hw73017_2)).trans hw73017_2), ((HB.out.cell (World.block_lt_of_cell? w _ hw73017_3)).trans hw73017_3), ((HB.out.cell (World.block_lt_of_cell? w _ hw73018_0)).trans hw73018_0), ((HB.out.cell (World.block_lt_of_cell? w _ hw73018_1)).trans hw73018_1), ((HB.out.cell (World.block_lt_of_cell? w _ hw73018_2)).trans hw73018_2), ((HB.out.cell (World.block_lt_of_cell? w _ hw73018_3)).trans hw73018_3), ((HB.out.cell (World.block_lt_of_cell? w _ hw73019_0)).trans hw73019_0), ((HB.out.cell (World.block_lt_of_cell? w _ hw73019_1)).trans hw73019_1), ((HB.out.cell (World.block_lt_of_cell? w _ hw73019_2)).trans hw73019_2), ((HB.out.cell (World.block_lt_of_cell? w _ hw73019_3)).trans hw73019_3)⟩ (fun hHeld => ?_)
                  clear hK K
                  refine norm_ (a' := ?_) ?_ ?_
                  rotate_left
                  · show Act.put _ (some 68) _ = _
                    simp only [Act.put, List.setIfInBounds_toArray, List.set_cons_zero, List.set_cons_succ, i64_w, i32_w]
                    rfl
                  refine one_ (i := 33) (N := some 69) #[true, true, true, true, true, true, true, true, true, true, true, true, true, true, true, true, true, true, true, true, true, true, true, true, true, true, true, true, true, true, true, true, true, true] rfl rfl (one_of HT_.out (by kernel_rfl)) (by decide) (fun K hK => ?_)
                  refine goes_ Try.func122 (by kernel_rfl) rfl #[.agg #[.int .i64 t73005, .int .i64 t73006, .int .i64 t73007, .slice Ao47 x73012003_2.length co47], .int .i64 ((rd_T47 l2 x9_2).f0), .int .i64 ((rd_T47 l2 x9_2).f1), .agg #[.int .i64 t73020, .int .i64 t73021, .int .i64 t73022, .slice Ao48 t73023.length co48]] (by rfl) rfl rfl (by (try simp only [List.map_toArray, List.map_cons, List.map_nil]); first | done | rfl | (simp only [List.length_drop, List.length_take]; rfl)) ?_
                  with_reducible refine (spec_paste.calls k2 t73005 t73006 t73007 (fun k_ => some k_ = (.slice Ao47 x73012003_2.length co47 : Value).ownBlock) (.slice Ao47 x73012003_2.length co47) x73012003_2 ((rd_T47 l2 x9_2).f0) ((rd_T47 l2 x9_2).f1) t73020 t73021 t73022 _ _ t73023 t73026 w _ ?side1 ?side2 ?side3 ?side4 A42.out).mono ?_
                  (case side1 => repeat (first | (with_reducible first | exact HB.out | apply below_alloc | apply pw_below_drewN | apply below_drew1 | refine below_set ?_ GE73001.out | refine below_set ?_ GE73002.out | refine below_set ?_ GE73003.out | refine below_set ?_ GE73011.out) | exact HB.out))
                  (case side2 => exact Kd.R_tight rfl HO_73012003.out)
                  (case side3 => exact Kd.C_kept_own (HO73025.out) (fun k_ hk_ hs_ => (hk_.2) hs_))
                  (case side4 => exact (Kd.R_reads' HO73025.out).2.1)
                  rintro e w49 ⟨rfl, hy0, hb, hkp⟩
                  refine ⟨_, rfl, ?_⟩
                  have n0_ := Aside0.mk (Kd.R_reok rfl hy0 (fun k_ e_ => HO_73012003.out.1 k_ e_))
                  have n1_ := Aside0.mk (blk_kept (by (with_reducible repeat (first | refine blk_drewN ?_ _ | refine blk_drew ?_ | refine blk_alloc ?_ _)); exact BK73001.out) hkp (fun hs_ => (fun e_ => (Kd.R_ne HO_73012003.out BK73001.out (by decide)) e_) hs_))
                  have n2_ := Aside0.mk (blk_kept (by (with_reducible repeat (first | refine blk_drewN ?_ _ | refine blk_drew ?_ | refine blk_alloc ?_ _)); exact BK73002.out) hkp (fun hs_ => (fun e_ => (Kd.R_ne HO_73012003.out BK73002.out (by decide)) e_) hs_))
                  have n3_ := Aside0.mk (blk_kept (by (with_reducible repeat (first | refine blk_drewN ?_ _ | refine blk_drew ?_ | refine blk_alloc ?_ _)); exact BK73003.out) hkp (fun hs_ => (fun e_ => (Kd.R_ne HO_73012003.out BK73003.out (by decide)) e_) hs_))
                  have n4_ := Aside0.mk (blk_kept (by (with_reducible repeat (first | refine blk_drewN ?_ _ | refine blk_drew ?_ | refine blk_alloc ?_ _)); exact BK73011.out) hkp (fun hs_ => (fun e_ => (Kd.R_ne HO_73012003.out BK73011.out (by decide)) e_) hs_))
                  have n5_ := Aside0.mk (Kd.R_mono (ok' := fun k_ => some k_ ≠ (.slice Ao47 x73012003_2.length co47 : Value).ownBlock) (Kd.R_keptB (HO73025.out) hkp (fun k_ hk_ hs_ => (hk_.2) hs_)) (fun k_ hk_ => hk_.1.2))
                  have n6_ := Aside0.mk (hb)
                  clear HO_73012003
                  clear BK73001
                  clear BK73002
                  clear BK73003
                  clear BK73011
                  clear HO73025
                  clear HB
                  have HO_73012003 := n0_
                  have BK73001 := n1_
                  have BK73002 := n2_
                  have BK73003 := n3_
                  have BK73011 := n4_
                  have HO73025 := n5_
                  have HB := n6_
                  clear n0_ n1_ n2_ n3_ n4_ n5_ n6_
                  (try clear hb)
                  (try clear hkp)
                  (try clear hy0)
                  refine hK.out _ _ ⟨(blk_cell BK73011.out 0).trans rfl, (blk_cell BK73011.out 1).trans rfl, (blk_cell BK73011.out 2).trans rfl, (blk_cell BK73011.out 3).trans rfl, (blk_cell BK73002.out 0).trans rfl, (blk_cell BK73002.out 1).trans rfl, (blk_cell BK73002.out 2).trans rfl, (blk_cell BK73002.out 3).trans rfl, ((HB.out.cell (World.block_lt_of_cell? w _ hw73014_0)).trans hw73014_0), ((HB.out.cell (World.block_lt_of_cell? w _ hw73014_1)).trans hw73014_1), ((HB.out.cell (World.block_lt_of_cell? w _ hw73014_2)).trans hw73014_2), ((HB.out.cell (World.block_lt_of_cell? w _ hw73014_3)).trans hw73014_3), ((HB.out.cell (World.block_lt_of_cell? w _ hw73015_0)).trans hw73015_0), ((HB.out.cell (World.block_lt_of_cell? w _ hw73015_1)).trans hw73015_1), ((HB.out.cell (World.block_lt_of_cell? w _ hw73015_2)).trans hw73015_2), ((HB.out.cell (World.block_lt_of_cell? w _ hw73015_3)).trans hw73015_3), ((HB.out.cell (World.block_lt_of_cell? w _ hw73016_0)).trans hw73016_0), ((HB.out.cell (World.block_lt_of_cell? w _ hw73016_1)).trans hw73016_1), ((HB.out.cell (World.block_lt_of_cell? w _ hw73016_2)).trans hw73016_2), ((HB.out.cell (World.block_lt_of_cell? w _ hw73016_3)).trans hw73016_3), ((HB.out.cell (World.block_lt_of_cell? w _ hw73017_0)).trans hw73017_0), ((HB.out.cell (World.block_lt_of_cell? w _ hw73017_1)).trans hw73017_1), ((HB.out.cell (World.block_lt_of_cell? w _ hw73017_2)).trans hw73017_2), ((HB.out.cell (World.block_lt_of_cell? w _ hw73017_3)).trans hw73017_3), ((HB.out.cell (World.block_lt_of_cell? w _ hw73018_0)).trans hw73018_0), ((HB.out.cell (World.block_lt_of_cell? w _ hw73018_1)).trans hw73018_1), ((HB.out.cell (World.block_lt_of_cell? w _ hw73018_2)).trans hw73018_2), ((HB.out.cell (World.block_lt_of_cell? w _ hw73018_3)).trans hw73018_3), ((HB.out.cell (World.block_lt_of_cell? w _ hw73019_0)).trans hw73019_0), ((HB.out.cell (World.block_lt_of_cell? w _ hw73019_1)).trans hw73019_1), ((HB.out.cell (World.block_lt_of_cell? w _ hw73019_2)).trans hw73019_2), ((HB.out.cell (World.block_lt_of_cell? w _ hw73019_3)).trans hw73019_3)⟩ (fun hHeld => ?_)
                  clear hK K
                  refine norm_ (a' := ?_) ?_ ?_
                  rotate_left
                  · show Act.put _ (some 69) _ = _
                    simp only [Act.put, List.setIfInBounds_toArray, List.set_cons_zero, List.set_cons_succ, i64_w, i32_w]
                    rfl
                  refine done_ (done_of HT_.out (by kernel_rfl)) ?_
                  try go_wp2
                  go_roundg k2
                  case measure => have := HJ3.out; have := HK2.out; omega
                  case rel => exact ⟨(wrap64 (x9_2 + 1)), (x73004000_2), (x73004001_2), (x73004002_2), (t73026), (.slice Ao47 x73012003_2.length co47), (by first | rfl | (simp; done) | (simp [*]; done)), H', ⟨by have := HJ3.out; have := HK2.out; omega⟩, ⟨by (with_reducible repeat (first | apply Kd.R_alloc | apply Kd.R_drewN | apply Kd.R_drew)); exact Kd.R_mono HO_73012003.out (fun _ hk => trivial)⟩, ⟨by (with_reducible repeat (first | refine blk_drewN ?_ _ | refine blk_drew ?_ | refine blk_alloc ?_ _)); exact BK73001.out⟩, ⟨by (with_reducible repeat (first | refine blk_drewN ?_ _ | refine blk_drew ?_ | refine blk_alloc ?_ _)); exact BK73002.out⟩, ⟨by (with_reducible repeat (first | refine blk_drewN ?_ _ | refine blk_drew ?_ | refine blk_alloc ?_ _)); exact BK73003.out⟩, ⟨by (with_reducible repeat (first | refine blk_drewN ?_ _ | refine blk_drew ?_ | refine blk_alloc ?_ _)); exact BK73011.out⟩, ⟨by repeat (first | (with_reducible first | exact HB.out | apply below_alloc | apply pw_below_drewN | apply below_drew1 | refine below_set ?_ GE73001.out | refine below_set ?_ GE73002.out | refine below_set ?_ GE73003.out | refine below_set ?_ GE73011.out) | exact HB.out)⟩⟩
                · replace c40 := Bool.eq_false_iff.mpr c40
                  subst c40
                  have H1 : (some (0, 0, 0, ([] : List Int), false)) = some (r1, r2, r3, r4, r5) := by rw [if_neg (show ¬ (false = true) by decide)] at H; exact H
                  clear H
                  have H := H1
                  clear H1
                  simp only [Option.some.injEq, Prod.mk.injEq] at H
                  obtain ⟨rfl, rfl, rfl, rfl, rfl⟩ := H
                  try go_wp2
                  have n0_ := Aside0.mk (Kd.R_drew HO_73012003.out)
                  have n1_ := Aside0.mk (blk_drew BK73001.out)
                  have n2_ := Aside0.mk (blk_drew BK73002.out)
                  have n3_ := Aside0.mk (blk_drew BK73003.out)
                  have n4_ := Aside0.mk (blk_drew BK73011.out)
                  have n5_ := Aside0.mk (below_drew1 HB.out)
                  clear HO_73012003
                  clear BK73001
                  clear BK73002
                  clear BK73003
                  clear BK73011
                  clear HB
                  have HO_73012003 := n0_
                  have BK73001 := n1_
                  have BK73002 := n2_
                  have BK73003 := n3_
                  have BK73011 := n4_
                  have HB := n5_
                  clear n0_ n1_ n2_ n3_ n4_ n5_
                  have p73012 : 0 ≤ (x9_2 : Int) := of_decide_eq_true (by first | (with_reducible assumption) | assumption)
                  have q73012 : x9_2 < (l2.length : Int) := of_decide_eq_true (by first | (with_reducible assumption) | assumption)
                  obtain ⟨ad73012, e73012, hx73012_0, hx73012_1, hx73012_2, hx73012_3⟩ := at_T47 HR2.out x9_2 p73012 q73012
                  have hw73012_3 := hx73012_3
                  have hw73012_2 := hx73012_2
                  have hw73012_1 := hx73012_1
                  have hw73012_0 := hx73012_0
                  cases e73012
                  replace hx73012_0 := (HB.out.cell (World.block_lt_of_cell? w _ hx73012_0)).trans hx73012_0
                  replace hx73012_1 := (HB.out.cell (World.block_lt_of_cell? w _ hx73012_1)).trans hx73012_1
                  replace hx73012_2 := (HB.out.cell (World.block_lt_of_cell? w _ hx73012_2)).trans hx73012_2
                  replace hx73012_3 := (HB.out.cell (World.block_lt_of_cell? w _ hx73012_3)).trans hx73012_3
                  replace p73012 := eq_true p73012
                  replace q73012 := eq_true q73012
                  refine start_ (n := 7) (S := fun w' => w'.cell? ⟨gb73001, 0, none⟩ = some (.int .i64 a0_0) ∧ w'.cell? ⟨gb73001, 1, none⟩ = some (.int .i64 a0_1) ∧ w'.cell? ⟨gb73001, 2, none⟩ = some (.int .i64 a0_2) ∧ w'.cell? ⟨gb73001, 3, none⟩ = some (.slice A0_3 l0_3.length c0_3) ∧ w'.cell? (ad73012.add ((x9_2).toNat * 4)) = some (.int .i64 ((rd_T47 l2 x9_2).f0)) ∧ w'.cell? ⟨(ad73012.add ((x9_2).toNat * 4)).block, (ad73012.add ((x9_2).toNat * 4)).off + 1, none⟩ = some (.int .i64 ((rd_T47 l2 x9_2).f1)) ∧ w'.cell? ⟨(ad73012.add ((x9_2).toNat * 4)).block, (ad73012.add ((x9_2).toNat * 4)).off + 2, none⟩ = some (.int .i64 ((rd_T47 l2 x9_2).f2)) ∧ w'.cell? ⟨(ad73012.add ((x9_2).toNat * 4)).block, (ad73012.add ((x9_2).toNat * 4)).off + 3, none⟩ = some (.int .i64 ((rd_T47 l2 x9_2).f3))) (ds := []) #[false, false, false, false, false, false, false] (by kernel_rfl) rfl rfl ⟨(blk_cell BK73001.out 0).trans rfl, (blk_cell BK73001.out 1).trans rfl, (blk_cell BK73001.out 2).trans rfl, (blk_cell BK73001.out 3).trans rfl, ((HB.out.cell (World.block_lt_of_cell? w _ hw73012_0)).trans hw73012_0), ((HB.out.cell (World.block_lt_of_cell? w _ hw73012_1)).trans hw73012_1), ((HB.out.cell (World.block_lt_of_cell? w _ hw73012_2)).trans hw73012_2), ((HB.out.cell (World.block_lt_of_cell? w _ hw73012_3)).trans hw73012_3)⟩ (fun hHeld => ?_)
                  generalize wr.drew = w50 at HO_73012003 BK73001 BK73002 BK73003 BK73011 HB hx73012_0 hx73012_1 hx73012_2 hx73012_3 hHeld ⊢
                  refine pure_ (i := 1) (N := some 29) (v := ?_) (a' := ?_) #[false, true, false, false, false, false, false] rfl rfl (by kernel_rfl) (fun _ _ _ h => h) (Or.inl ⟨by rfl, ?_⟩) ?_ ?_
                  rotate_left
                  · intro w'
                    go_simp
                    with_reducible rfl
                  rotate_left
                  · simp only [Act.put, List.setIfInBounds_toArray, List.set_cons_zero, List.set_cons_succ, i64_w, i32_w]
                    rfl
                  refine pure_ (i := 2) (N := some 30) (v := ?_) (a' := ?_) #[false, true, true, false, false, false, false] rfl rfl (by kernel_rfl) (fun _ _ _ h => h) (Or.inl ⟨by rfl, ?_⟩) ?_ ?_
                  rotate_left
                  · intro w'
                    go_simp
                    with_reducible rfl
                  rotate_left
                  · simp only [Act.put, List.setIfInBounds_toArray, List.set_cons_zero, List.set_cons_succ, i64_w, i32_w]
                    rfl
                  refine pure_ (i := 3) (N := some 31) (v := ?_) (a' := ?_) #[false, true, true, true, false, false, false] rfl rfl (by kernel_rfl) (fun _ _ _ h => h) (Or.inl ⟨by rfl, ?_⟩) ?_ ?_
                  rotate_left
                  · intro w'
                    go_simp
                    with_reducible rfl
                  rotate_left
                  · simp only [Act.put, List.setIfInBounds_toArray, List.set_cons_zero, List.set_cons_succ, i64_w, i32_w]
                    rfl
                  refine take_ (i := 0) (N := some 28) (v := ?_) (a' := ?_) #[true, true, true, true, false, false, false] rfl rfl (by kernel_rfl) (fun _ _ _ h => h) (Or.inl ⟨by rfl, ?_⟩) hHeld ?_ ?_
                  rotate_left
                  · rintro w' ⟨s0, s1, s2, s3, s4, s5, s6, s7⟩
                    go_simp
                    with_reducible rfl
                  rotate_left
                  · simp only [Act.put, List.setIfInBounds_toArray, List.set_cons_zero, List.set_cons_succ, i64_w, i32_w]
                    rfl
                  refine take_ (i := 4) (N := some 32) (v := ?_) (a' := ?_) #[true, true, true, true, true, false, false] rfl rfl (by kernel_rfl) (fun _ _ _ h => h) (Or.inl ⟨by rfl, ?_⟩) hHeld ?_ ?_
                  rotate_left
                  · rintro w' ⟨s0, s1, s2, s3, s4, s5, s6, s7⟩
                    go_simp
                    with_reducible rfl
                  rotate_left
                  · simp only [Act.put, List.setIfInBounds_toArray, List.set_cons_zero, List.set_cons_succ, i64_w, i32_w]
                    rfl
                  refine one_ (i := 5) (N := some 33) #[true, true, true, true, true, true, false] rfl rfl (by kernel_rfl) (by decide) (fun K hK => ?_)
                  refine goes_ Try.func121 (by kernel_rfl) rfl #[.agg #[.int .i64 a0_0, .int .i64 a0_1, .int .i64 a0_2, .slice A0_3 l0_3.length c0_3], .agg #[.int .i64 ((rd_T47 l2 x9_2).f0), .int .i64 ((rd_T47 l2 x9_2).f1), .int .i64 ((rd_T47 l2 x9_2).f2), .int .i64 ((rd_T47 l2 x9_2).f3)]] (by rfl) rfl rfl (by (try simp only [List.map_toArray, List.map_cons, List.map_nil]); first | done | rfl | (simp only [List.length_drop, List.length_take]; rfl)) ?_
                  with_reducible refine (spec_validBox.calls a0_0 a0_1 a0_2 _ _ l0_3 ((rd_T47 l2 x9_2).f0) ((rd_T47 l2 x9_2).f1) ((rd_T47 l2 x9_2).f2) ((rd_T47 l2 x9_2).f3) false _ ?side1 ?side2 A39.out).mono ?_
                  (case side1 => repeat (first | exact (Kd.C_below HR0_3.out HB.out) | (with_reducible refine Kd.C_alloc ?_ _) | (with_reducible refine Kd.C_drewN ?_ _) | (with_reducible refine Kd.C_drew ?_)))
                  (case side2 => exact HC0_3.out)
                  rintro e w51 ⟨rfl, hb⟩
                  refine ⟨_, rfl, ?_⟩
                  have n0_ := Aside0.mk (Kd.R_below (by (with_reducible repeat (first | apply Kd.R_alloc | apply Kd.R_drewN | apply Kd.R_drew)); exact HO_73012003.out) hb)
                  have n1_ := Aside0.mk (blk_below (g := gb73001) (o := .cells #[.int .i64 a0_0, .int .i64 a0_1, .int .i64 a0_2, .slice A0_3 l0_3.length c0_3] 27 (0, 0)) (by (with_reducible repeat (first | refine blk_drewN ?_ _ | refine blk_drew ?_ | refine blk_alloc ?_ _)); exact BK73001.out) hb)
                  have n2_ := Aside0.mk (blk_below (g := gb73002) (o := .cells #[.int .i64 a1_0, .int .i64 a1_1, .int .i64 a1_2, .slice A1_3 l1_3.length c1_3] 27 (0, 0)) (by (with_reducible repeat (first | refine blk_drewN ?_ _ | refine blk_drew ?_ | refine blk_alloc ?_ _)); exact BK73002.out) hb)
                  have n3_ := Aside0.mk (blk_below (g := gb73003) (o := .cells #[.int .i64 x73004000_2, .int .i64 x73004001_2, .int .i64 x73004002_2, .slice none 0 0] 27 (0, 0)) (by (with_reducible repeat (first | refine blk_drewN ?_ _ | refine blk_drew ?_ | refine blk_alloc ?_ _)); exact BK73003.out) hb)
                  have n4_ := Aside0.mk (blk_below (g := gb73011) (o := .cells #[.int .i64 t73005, .int .i64 t73006, .int .i64 t73007, u73012003] 27 (0, 0)) (by (with_reducible repeat (first | refine blk_drewN ?_ _ | refine blk_drew ?_ | refine blk_alloc ?_ _)); exact BK73011.out) hb)
                  have n5_ := Aside0.mk (below_step (by repeat (first | (with_reducible first | exact HB.out | apply below_alloc | apply pw_below_drewN | apply below_drew1 | refine below_set ?_ GE73001.out | refine below_set ?_ GE73002.out | refine below_set ?_ GE73003.out | refine below_set ?_ GE73011.out) | exact HB.out)) hb)
                  clear HO_73012003
                  clear BK73001
                  clear BK73002
                  clear BK73003
                  clear BK73011
                  clear HB
                  have HO_73012003 := n0_
                  have BK73001 := n1_
                  have BK73002 := n2_
                  have BK73003 := n3_
                  have BK73011 := n4_
                  have HB := n5_
                  clear n0_ n1_ n2_ n3_ n4_ n5_
                  (try clear hb)
                  (try clear hb2)
                  (try clear hk)
                  (try clear hi)
                  refine hK.out _ _ ⟨(blk_cell BK73001.out 0).trans rfl, (blk_cell BK73001.out 1).trans rfl, (blk_cell BK73001.out 2).trans rfl, (blk_cell BK73001.out 3).trans rfl, ((HB.out.cell (World.block_lt_of_cell? w _ hw73012_0)).trans hw73012_0), ((HB.out.cell (World.block_lt_of_cell? w _ hw73012_1)).trans hw73012_1), ((HB.out.cell (World.block_lt_of_cell? w _ hw73012_2)).trans hw73012_2), ((HB.out.cell (World.block_lt_of_cell? w _ hw73012_3)).trans hw73012_3)⟩ (fun hHeld => ?_)
                  clear hK K
                  refine norm_ (a' := ?_) ?_ ?_
                  rotate_left
                  · show Act.put _ (some 33) _ = _
                    simp only [Act.put, List.setIfInBounds_toArray, List.set_cons_zero, List.set_cons_succ, i64_w, i32_w]
                    rfl
                  refine pure_ (i := 6) (N := some 34) (v := ?_) (a' := ?_) #[true, true, true, true, true, true, true] rfl rfl (by kernel_rfl) (fun _ _ _ h => h) (Or.inl ⟨by rfl, ?_⟩) ?_ ?_
                  rotate_left
                  · intro w'
                    go_simp
                    with_reducible rfl
                  rotate_left
                  · simp only [Act.put, List.setIfInBounds_toArray, List.set_cons_zero, List.set_cons_succ, i64_w, i32_w]
                    rfl
                  refine done_ (by kernel_rfl) ?_
                  have hnb52 := NB73003_73001.out
                  have hnc52 := NB73001_73003.out
                  have hnb53 := NB73003_73002.out
                  have hnc53 := NB73002_73003.out
                  have hnb54 := NB73003_73011.out
                  have hnc54 := NB73011_73003.out
                  have hcz55_0 : w51.cell? ⟨gb73003, 0, none⟩ = some (.int .i64 x73004000_2) := (blk_cell BK73003.out 0).trans rfl
                  have hcz55_1 : w51.cell? ⟨gb73003, 1, none⟩ = some (.int .i64 x73004001_2) := (blk_cell BK73003.out 1).trans rfl
                  have hcz55_2 : w51.cell? ⟨gb73003, 2, none⟩ = some (.int .i64 x73004002_2) := (blk_cell BK73003.out 2).trans rfl
                  have hcz55_3 : w51.cell? ⟨gb73003, 3, none⟩ = some (.slice none 0 0) := (blk_cell BK73003.out 3).trans rfl
                  have hfz55_0 := blk_frozen BK73003.out 0
                  have hfz55_1 := blk_frozen BK73003.out 1
                  have hfz55_2 := blk_frozen BK73003.out 2
                  have hfz55_3 := blk_frozen BK73003.out 3
                  try go_wp2
                  refine bodyPost_ret (results_ct rfl _ _ gb73003 27 #[.int .i64 0, .int .i64 0, .int .i64 0, .slice none 0 0] (0, 0) _ rfl (by (with_reducible repeat (first | refine blk_drewN ?_ _ | refine blk_drew ?_ | refine blk_alloc ?_ _)); refine blk_put (cs := #[.int .i64 0, .int .i64 0, .int .i64 0, .slice none 0 0]) ?_ 3 _ rfl; (with_reducible repeat (first | refine blk_drewN ?_ _ | refine blk_drew ?_ | refine blk_alloc ?_ _)); refine blk_put (cs := #[.int .i64 0, .int .i64 0, .int .i64 x73004002_2, .slice none 0 0]) ?_ 2 _ rfl; (with_reducible repeat (first | refine blk_drewN ?_ _ | refine blk_drew ?_ | refine blk_alloc ?_ _)); refine blk_put (cs := #[.int .i64 0, .int .i64 x73004001_2, .int .i64 x73004002_2, .slice none 0 0]) ?_ 1 _ rfl; (with_reducible repeat (first | refine blk_drewN ?_ _ | refine blk_drew ?_ | refine blk_alloc ?_ _)); refine blk_put (cs := #[.int .i64 x73004000_2, .int .i64 x73004001_2, .int .i64 x73004002_2, .slice none 0 0]) ?_ 0 _ rfl; (with_reducible repeat (first | refine blk_drewN ?_ _ | refine blk_drew ?_ | refine blk_alloc ?_ _)); exact BK73003.out) Try.underlying27 rfl (by kernel_rfl)) rfl ?_
                  exact ⟨_, by first | rfl | (simp [errW_none, errW_some] <;> rfl) | (simp [*, errW_none, errW_some] <;> rfl), by first | exact Kd.R_nil _ _ _ _ _ | exact Kd.N_nil _ _ _ _ _ | exact Kd.V_nil _ _ _ _ _ | exact Kd.Q_nil _ _ _ _ _ | exact Kd.S_nil _ _ _ _ _, by repeat (first | (with_reducible first | exact HB.out | apply below_alloc | apply pw_below_drewN | apply below_drew1 | refine below_set ?_ GE73001.out | refine below_set ?_ GE73002.out | refine below_set ?_ GE73003.out | refine below_set ?_ GE73011.out) | exact HB.out)⟩
              · rw [if_neg c38] at H
                exact absurd H (by simp)
            · rw [if_neg c37] at H
              have c37b0 : decide (x9_2 < (l2.length : Int)) = false := decide_eq_false c37
              clear c37
              simp only [Option.some.injEq, Prod.mk.injEq] at H
              obtain ⟨rfl, rfl, rfl, rfl, rfl⟩ := H
              have hnb56 := NB73011_73001.out
              have hnc56 := NB73001_73011.out
              have hnb57 := NB73011_73002.out
              have hnc57 := NB73002_73011.out
              have hnb58 := NB73011_73003.out
              have hnc58 := NB73003_73011.out
              have hcz59_0 : wr.cell? ⟨gb73011, 0, none⟩ = some (.int .i64 t73005) := (blk_cell BK73011.out 0).trans rfl
              have hcz59_1 : wr.cell? ⟨gb73011, 1, none⟩ = some (.int .i64 t73006) := (blk_cell BK73011.out 1).trans rfl
              have hcz59_2 : wr.cell? ⟨gb73011, 2, none⟩ = some (.int .i64 t73007) := (blk_cell BK73011.out 2).trans rfl
              have hcz59_3 : wr.cell? ⟨gb73011, 3, none⟩ = some (u73012003) := (blk_cell BK73011.out 3).trans rfl
              have hfz59_0 := blk_frozen BK73011.out 0
              have hfz59_1 := blk_frozen BK73011.out 1
              have hfz59_2 := blk_frozen BK73011.out 2
              have hfz59_3 := blk_frozen BK73011.out 3
              have hnb60 := NB73003_73001.out
              have hnc60 := NB73001_73003.out
              have hnb61 := NB73003_73002.out
              have hnc61 := NB73002_73003.out
              have hcz62_0 : wr.cell? ⟨gb73003, 0, none⟩ = some (.int .i64 x73004000_2) := (blk_cell BK73003.out 0).trans rfl
              have hcz62_1 : wr.cell? ⟨gb73003, 1, none⟩ = some (.int .i64 x73004001_2) := (blk_cell BK73003.out 1).trans rfl
              have hcz62_2 : wr.cell? ⟨gb73003, 2, none⟩ = some (.int .i64 x73004002_2) := (blk_cell BK73003.out 2).trans rfl
              have hcz62_3 : wr.cell? ⟨gb73003, 3, none⟩ = some (.slice none 0 0) := (blk_cell BK73003.out 3).trans rfl
              have hfz62_0 := blk_frozen BK73003.out 0
              have hfz62_1 := blk_frozen BK73003.out 1
              have hfz62_2 := blk_frozen BK73003.out 2
              have hfz62_3 := blk_frozen BK73003.out 3
              obtain ⟨Ao63, co63, eo63⟩ := Kd.R_slice HO_73012003.out
              subst eo63
              go_wp2
              refine bodyPost_ret (results_ct rfl _ _ gb73003 27 #[.int .i64 t73005, .int .i64 t73006, .int .i64 t73007, .slice Ao63 x73012003_2.length co63] (0, 0) _ rfl (by (with_reducible repeat (first | refine blk_drewN ?_ _ | refine blk_drew ?_ | refine blk_alloc ?_ _)); refine blk_put (cs := #[.int .i64 t73005, .int .i64 t73006, .int .i64 t73007, .slice none 0 0]) ?_ 3 _ rfl; (with_reducible repeat (first | refine blk_drewN ?_ _ | refine blk_drew ?_ | refine blk_alloc ?_ _)); refine blk_put (cs := #[.int .i64 t73005, .int .i64 t73006, .int .i64 x73004002_2, .slice none 0 0]) ?_ 2 _ rfl; (with_reducible repeat (first | refine blk_drewN ?_ _ | refine blk_drew ?_ | refine blk_alloc ?_ _)); refine blk_put (cs := #[.int .i64 t73005, .int .i64 x73004001_2, .int .i64 x73004002_2, .slice none 0 0]) ?_ 1 _ rfl; (with_reducible repeat (first | refine blk_drewN ?_ _ | refine blk_drew ?_ | refine blk_alloc ?_ _)); refine blk_put (cs := #[.int .i64 x73004000_2, .int .i64 x73004001_2, .int .i64 x73004002_2, .slice none 0 0]) ?_ 0 _ rfl; (with_reducible repeat (first | refine blk_drewN ?_ _ | refine blk_drew ?_ | refine blk_alloc ?_ _)); exact BK73003.out) Try.underlying27 rfl (by kernel_rfl)) rfl ?_
              exact ⟨_, by first | rfl | (simp [errW_none, errW_some] <;> rfl) | (simp [*, errW_none, errW_some] <;> rfl), by (with_reducible repeat (first | apply Kd.R_alloc | apply Kd.R_drewN | apply Kd.R_drew)); exact Kd.R_mono (Kd.R_far (p := ⟨gb73003, 3, none⟩) (Kd.R_far (p := ⟨gb73003, 2, none⟩) (Kd.R_far (p := ⟨gb73003, 1, none⟩) (Kd.R_far (p := ⟨gb73003, 0, none⟩) (Kd.R_types HO_73012003.out BK73003.out (by decide)) (fun _ hk => hk.2) (.int .i64 t73005)) (fun _ hk => hk.2) (.int .i64 t73006)) (fun _ hk => hk.2) (.int .i64 t73007)) (fun _ hk => hk.2) (.slice Ao63 x73012003_2.length co63)) (fun _ hk => trivial), by repeat (first | (with_reducible first | exact HB.out | apply below_alloc | apply pw_below_drewN | apply below_drew1 | refine below_set ?_ GE73001.out | refine below_set ?_ GE73002.out | refine below_set ?_ GE73003.out | refine below_set ?_ GE73011.out) | exact HB.out)⟩


def impl_isSide.f (a0 : Int) : Option (Bool) := if a0 ≥ 1 then (some (decide (a0 ≤ 16))) else (some false)
set_option maxHeartbeats 8000000 in
set_option maxRecDepth 100000 in
theorem impl_isSide.calls (a0 : Int) (r : Bool) (w : World) (h : impl_isSide.f a0 = some r) :
    Calls Try.prog 153 #[.int .i64 a0] w fun e w' => e = .returned (.bool r) ∧ Drawn0 w w' := by
  have H : (if a0 ≥ 1 then (some (decide (a0 ≤ 16))) else (some false)) = some r := h
  clear h
  by_cases c2 : a0 ≥ 1
  · rw [if_pos c2] at H
    have c2b0 : decide (1 ≤ a0) = true := decide_eq_true c2
    clear c2
    obtain rfl := Option.some.inj H
    go_enter Try.func153, Try.ntmps153
    go_wp2
    go_ret
    exact ⟨by first | rfl | (simp; done) | (simp [*]; done), by repeat (first | exact Drawn0.refl _ | apply Drawn0.step)⟩
  · rw [if_neg c2] at H
    have c2b0 : decide (1 ≤ a0) = false := decide_eq_false c2
    clear c2
    obtain rfl := Option.some.inj H
    go_enter Try.func153, Try.ntmps153
    go_wp2
    go_ret
    exact ⟨by first | rfl | (simp; done) | (simp [*]; done), by repeat (first | exact Drawn0.refl _ | apply Drawn0.step)⟩


def impl_isShape.f (a0 : Int) (a1 : Int) (a2 : Int) : Option (Bool) := (impl_isSide.f a0).bind fun t132001 => (if t132001 = true then ((impl_isSide.f a1).bind fun t132002 => (if t132002 = true then (if a2 ≥ 1 then (some (decide (a2 ≤ 4))) else (some false)) else (some false))) else (some false))
set_option maxHeartbeats 8000000 in
set_option maxRecDepth 100000 in
theorem impl_isShape.calls (a0 : Int) (a1 : Int) (a2 : Int) (r : Bool) (w : World) (h : impl_isShape.f a0 a1 a2 = some r) :
    Calls Try.prog 131 #[.int .i64 a0, .int .i64 a1, .int .i64 a2] w fun e w' => e = .returned (.bool r) ∧ Drawn0 w w' := by
  have H : ((impl_isSide.f a0).bind fun t132001 => (if t132001 = true then ((impl_isSide.f a1).bind fun t132002 => (if t132002 = true then (if a2 ≥ 1 then (some (decide (a2 ≤ 4))) else (some false)) else (some false))) else (some false))) = some r := h
  clear h
  replace H := Option.bind_eq_some_iff.mp H
  obtain ⟨t132001, A40, H⟩ := H
  replace H : (if t132001 = true then ((impl_isSide.f a1).bind fun t132002 => (if t132002 = true then (if a2 ≥ 1 then (some (decide (a2 ≤ 4))) else (some false)) else (some false))) else (some false)) = some r := H
  have A4 := Aside0.mk A40
  clear A40
  by_cases c5 : t132001 = true
  · subst c5
    have H1 : ((impl_isSide.f a1).bind fun t132002 => (if t132002 = true then (if a2 ≥ 1 then (some (decide (a2 ≤ 4))) else (some false)) else (some false))) = some r := by rw [if_pos rfl] at H; exact H
    clear H
    have H := H1
    clear H1
    replace H := Option.bind_eq_some_iff.mp H
    obtain ⟨t132002, A60, H⟩ := H
    replace H : (if t132002 = true then (if a2 ≥ 1 then (some (decide (a2 ≤ 4))) else (some false)) else (some false)) = some r := H
    have A6 := Aside0.mk A60
    clear A60
    by_cases c7 : t132002 = true
    · subst c7
      have H1 : (if a2 ≥ 1 then (some (decide (a2 ≤ 4))) else (some false)) = some r := by rw [if_pos rfl] at H; exact H
      clear H
      have H := H1
      clear H1
      by_cases c8 : a2 ≥ 1
      · rw [if_pos c8] at H
        have c8b0 : decide (1 ≤ a2) = true := decide_eq_true c8
        clear c8
        obtain rfl := Option.some.inj H
        go_enter Try.func131, Try.ntmps131
        go_wp2_with (first | ((with_reducible refine gate_callee (f := 153) rfl ?_); refine goesL_ (some 8) rfl rfl Try.func153 (by kernel_rfl) rfl #[.int .i64 a0] rfl (by (try simp only [List.map_toArray, List.map_cons, List.map_nil]); first | done | rfl | (simp only [List.length_drop, List.length_take]; rfl)) ?_; (with_reducible refine (impl_isSide.calls a0 true _ A4.out).mono ?_); rintro e w' ⟨rfl, ⟨nd, rfl⟩⟩; refine ⟨_, rfl, ?_⟩) | (go_at_call 153; (with_reducible refine (impl_isSide.calls a1 true _ A6.out).mono ?_); rintro e w' ⟨rfl, ⟨nd, rfl⟩⟩))
        go_ret
        exact ⟨by first | rfl | (simp; done) | (simp [*]; done), by repeat (first | exact Drawn0.refl _ | apply Drawn0.step)⟩
      · rw [if_neg c8] at H
        have c8b0 : decide (1 ≤ a2) = false := decide_eq_false c8
        clear c8
        obtain rfl := Option.some.inj H
        go_enter Try.func131, Try.ntmps131
        go_wp2_with (first | ((with_reducible refine gate_callee (f := 153) rfl ?_); refine goesL_ (some 8) rfl rfl Try.func153 (by kernel_rfl) rfl #[.int .i64 a0] rfl (by (try simp only [List.map_toArray, List.map_cons, List.map_nil]); first | done | rfl | (simp only [List.length_drop, List.length_take]; rfl)) ?_; (with_reducible refine (impl_isSide.calls a0 true _ A4.out).mono ?_); rintro e w' ⟨rfl, ⟨nd, rfl⟩⟩; refine ⟨_, rfl, ?_⟩) | (go_at_call 153; (with_reducible refine (impl_isSide.calls a1 true _ A6.out).mono ?_); rintro e w' ⟨rfl, ⟨nd, rfl⟩⟩))
        go_ret
        exact ⟨by first | rfl | (simp; done) | (simp [*]; done), by repeat (first | exact Drawn0.refl _ | apply Drawn0.step)⟩
    · replace c7 := Bool.eq_false_iff.mpr c7
      subst c7
      have H1 : (some false) = some r := by rw [if_neg (show ¬ (false = true) by decide)] at H; exact H
      clear H
      have H := H1
      clear H1
      obtain rfl := Option.some.inj H
      go_enter Try.func131, Try.ntmps131
      go_wp2_with (first | ((with_reducible refine gate_callee (f := 153) rfl ?_); refine goesL_ (some 8) rfl rfl Try.func153 (by kernel_rfl) rfl #[.int .i64 a0] rfl (by (try simp only [List.map_toArray, List.map_cons, List.map_nil]); first | done | rfl | (simp only [List.length_drop, List.length_take]; rfl)) ?_; (with_reducible refine (impl_isSide.calls a0 true _ A4.out).mono ?_); rintro e w' ⟨rfl, ⟨nd, rfl⟩⟩; refine ⟨_, rfl, ?_⟩) | (go_at_call 153; (with_reducible refine (impl_isSide.calls a1 false _ A6.out).mono ?_); rintro e w' ⟨rfl, ⟨nd, rfl⟩⟩))
      go_ret
      exact ⟨by first | rfl | (simp; done) | (simp [*]; done), by repeat (first | exact Drawn0.refl _ | apply Drawn0.step)⟩
  · replace c5 := Bool.eq_false_iff.mpr c5
    subst c5
    have H1 : (some false) = some r := by rw [if_neg (show ¬ (false = true) by decide)] at H; exact H
    clear H
    have H := H1
    clear H1
    obtain rfl := Option.some.inj H
    go_enter Try.func131, Try.ntmps131
    go_wp2_with (first | ((with_reducible refine gate_callee (f := 153) rfl ?_); refine goesL_ (some 8) rfl rfl Try.func153 (by kernel_rfl) rfl #[.int .i64 a0] rfl (by (try simp only [List.map_toArray, List.map_cons, List.map_nil]); first | done | rfl | (simp only [List.length_drop, List.length_take]; rfl)) ?_; (with_reducible refine (impl_isSide.calls a0 false _ A4.out).mono ?_); rintro e w' ⟨rfl, ⟨nd, rfl⟩⟩; refine ⟨_, rfl, ?_⟩))
    go_ret
    exact ⟨by first | rfl | (simp; done) | (simp [*]; done), by repeat (first | exact Drawn0.refl _ | apply Drawn0.step)⟩


/- Words of this session's own hand-made walks: where the first element lies for which a test holds; draws that follow each other. -/

theorem dtrans {a b c : World} (h : Drawn0 a b) (k : Drawn0 b c) : Drawn0 a c := by
  obtain ⟨n, rfl⟩ := k
  exact h.step n

/-- where the first element is for which p holds; -1 -/
def idxF {α : Type} (p : α → Bool) : List α → Int
  | [] => -1
  | x :: xs => if p x then 0 else (let r := idxF p xs; if r < 0 then -1 else r + 1)
theorem idxF_any {α : Type} (p : α → Bool) (l : List α) : decide (idxF p l ≥ 0) = l.any p := by
  induction l with
  | nil => simp [idxF]
  | cons x xs ih =>
    unfold idxF
    by_cases h : p x = true
    · simp [h]
    · simp only [h, List.any_cons, Bool.false_or, ← ih]
      simp only [Bool.false_eq_true, if_false]
      split
      · simp; omega
      · simp; omega
/-- p fails at all that lies before k -/
def SawNone {α : Type} (p : α → Bool) (l : List α) (k : Nat) : Prop := ∀ j, j < k → ∀ h : j < l.length, p l[j] = false
theorem SawNone.succ {α : Type} {p : α → Bool} {l : List α} {k : Nat} (h : SawNone p l k) (hk : k < l.length) (hp : p l[k] = false) : SawNone p l (k + 1) := by
  intro j hj hl
  by_cases e : j = k
  · subst e; exact hp
  · exact h j (by omega) hl
theorem idxF_at {α : Type} (p : α → Bool) (l : List α) (k : Nat) (hk : k < l.length) (hs : SawNone p l k) (hp : p l[k] = true) : idxF p l = k := by
  induction l generalizing k with
  | nil => simp at hk
  | cons x xs ih =>
    unfold idxF
    cases k with
    | zero => simp at hp; simp [hp]
    | succ k =>
      have h0 : p x = false := hs 0 (by omega) (by simp)
      have := ih k (by simpa using hk) (fun j hj h => hs (j + 1) (by omega) (by simpa using h)) (by simpa using hp)
      simp [h0, this]; omega
theorem idxF_none {α : Type} (p : α → Bool) (l : List α) (hs : SawNone p l l.length) : idxF p l = -1 := by
  induction l with
  | nil => rfl
  | cons x xs ih =>
    unfold idxF
    have h0 : p x = false := hs 0 (by simp) (by simp)
    have := ih (fun j hj h => hs (j + 1) (by simpa using hj) (by simpa using h))
    simp [h0, this]
theorem rd_get (l : List Int) (k : Nat) (hk : k < l.length) : rd l k = l[k] := by simp [rd, hk]
theorem ret_bool {a b : Bool} (h : a = b) : Ending.returned (.bool a) = .returned (.bool b) := by rw [h]

/- slices.IndexFunc over whole numbers: where the first element lies for which the function value's answer is true. -/

set_option maxHeartbeats 1000000 in
theorem idxFunc_int (g : Nat) (lb : Array Value) (p : Int → Bool) (A : Option Addr) (c : Nat) (l : List Int) (w : World)
    (eg : ∀ args W, (callFunc g args).run Try.prog W = .ok (.enter g args) W)
    (hp : ∀ (W : World) (x : Int), Below w.heap.size w W → Calls Try.prog g (#[.int .i64 x] ++ lb) W fun e W' => e = .returned (.bool (p x)) ∧ Drawn0 W W')
    (hr : Kd.C (Kd.int .i64) w A l.length l) :
    Calls Try.prog 162 #[.slice A l.length c, .func (.func g) #[] lb] w fun e w' => e = .returned (.int .i64 (idxF p l)) ∧ Drawn0 w w' := by
  have hm : l.length ≤ 9223372036854775807 := hr.2.1
  have HP := Aside0.mk hp
  have HR := Aside0.mk hr
  clear hp hr
  go_enter Try.func162, Try.ntmps162
  go_wp2
  go_loopw [8] (fun v8 W => ∃ k : Nat, v8 = .int .i64 k ∧ k ≤ l.length ∧ SawNone p l k ∧ Drawn0 w W) (fun v8 _ => l.length - (intOf v8).toNat)
  case atStart => exact ⟨0, rfl, by omega, fun j hj => by omega, Drawn0.refl _⟩
  case round =>
    obtain ⟨k, rfl, hk, hs, hd⟩ := hrel
    by_cases hlt : k < l.length
    · obtain ⟨ad, e, hx⟩ := Kd.at_int HR.out (k : Int) (by omega) (by omega)
      cases e
      rw [rd_get l k hlt, Int.toNat_natCast] at hx
      replace hx := (hd.below.cell (World.block_lt_of_cell? w _ hx)).trans hx
      by_cases hv : p l[k] = true
      · have HV := Aside0.mk hv
        clear hv
        go_wp2_with (first | (go_at_fn g; refine (HP.out _ _ hd.below).mono ?_; rintro e w' ⟨rfl, hd2⟩; rw [HV.out]))
        go_ret
        exact ⟨by rw [idxF_at p l k hlt hs HV.out]; rfl, dtrans hd hd2⟩
      · replace hv : p l[k] = false := by simpa using hv
        have hs' := hs.succ hlt hv
        have HV := Aside0.mk hv
        clear hv
        go_wp2_with (first | (go_at_fn g; refine (HP.out _ _ hd.below).mono ?_; rintro e w' ⟨rfl, hd2⟩; rw [HV.out]))
        go_roundw
        case rel => exact ⟨k + 1, by go_num, by omega, hs', dtrans hd hd2⟩
        case measure => simp [intOf]; omega
    · go_wp2
      go_ret
      have : k = l.length := by omega
      subst this
      exact ⟨by rw [idxF_none p l hs]; rfl, hd⟩

/- slices.ContainsFunc over whole numbers. -/

set_option maxHeartbeats 1000000 in
theorem containsFunc_int (g : Nat) (lb : Array Value) (p : Int → Bool) (A : Option Addr) (c : Nat) (l : List Int) (w : World)
    (eg : ∀ args W, (callFunc g args).run Try.prog W = .ok (.enter g args) W)
    (hp : ∀ (W : World) (x : Int), Below w.heap.size w W → Calls Try.prog g (#[.int .i64 x] ++ lb) W fun e W' => e = .returned (.bool (p x)) ∧ Drawn0 W W')
    (hr : Kd.C (Kd.int .i64) w A l.length l) :
    Calls Try.prog 154 #[.slice A l.length c, .func (.func g) #[] lb] w fun e w' => e = .returned (.bool (l.any p)) ∧ Drawn0 w w' := by
  have HP := Aside0.mk hp
  have HR := Aside0.mk hr
  clear hp hr
  go_enter Try.func154, Try.ntmps154
  go_wp2_with (first | (go_at_call 162; refine (idxFunc_int g lb p _ _ _ _ eg HP.out HR.out).mono ?_; rintro e w' ⟨rfl, hd⟩))
  go_ret
  exact ⟨ret_bool (by first | exact idxF_any p l | (rw [← idxF_any p l])), hd⟩

/- impl.areBytes: every number is in 0..255. -/

def notByte (n : Int) : Bool := decide (n < 0) || decide (n > 255)
def impl_areBytes.f (l0 : List Int) : Option Bool := some (!l0.any notByte)

theorem areBytes1 (n : Int) (w : World) : Calls Try.prog 155 #[.int .i64 n] w fun e w' => e = .returned (.bool (notByte n)) ∧ Drawn0 w w' := by
  by_cases h1 : n < 0 <;> by_cases h2 : n > 255
  all_goals
    go_enter Try.func155, Try.ntmps155
    go_wp2
    go_ret
    exact ⟨by simp [notByte, *], Drawn0.refl _⟩

set_option maxHeartbeats 1000000 in
theorem impl_areBytes.calls (A0 : Option Addr) (c0 : Nat) (l0 : List Int) (r : Bool) (w : World) (hr0 : Kd.C (Kd.int .i64) w A0 l0.length l0) (hc0 : l0.length ≤ c0) (h : impl_areBytes.f l0 = some r) :
    Calls Try.prog 132 #[.slice A0 l0.length c0] w fun e w' => e = .returned (.bool r) ∧ Drawn0 w w' := by
  obtain rfl := Option.some.inj h
  clear h
  have HR := Aside0.mk hr0
  clear hr0
  have eg : ∀ args W, (callFunc 155 args).run Try.prog W = .ok (.enter 155 args) W := enters_of Try.func155 (by kernel_rfl) rfl
  go_enter Try.func132, Try.ntmps132
  go_wp2_with (first | (go_at_call 154; refine (containsFunc_int 155 #[] notByte _ _ _ _ eg (fun W x _ => areBytes1 x W) HR.out).mono ?_; rintro e w' ⟨rfl, hd⟩))
  go_ret
  exact ⟨rfl, hd⟩

def impl_isImage.f (a0_0 : Int) (a0_1 : Int) (a0_2 : Int) (l0_3 : List Int) : Option (Bool) := (impl_isShape.f a0_0 a0_1 a0_2).bind fun t84002 => (if t84002 = true then (if (l0_3.length : Int) = (wrap64 ((wrap64 (a0_0 * a0_1)) * a0_2)) then ((impl_areBytes.f l0_3).bind fun t84003 => (some t84003)) else (some false)) else (some false))
set_option maxHeartbeats 8000000 in
set_option maxRecDepth 100000 in
theorem impl_isImage.calls (a0_0 : Int) (a0_1 : Int) (a0_2 : Int) (A0_3 : Option Addr) (c0_3 : Nat) (l0_3 : List Int) (r : Bool) (w : World) (hr0_3 : Kd.C (Kd.int .i64) w A0_3 l0_3.length l0_3) (hc0_3 : l0_3.length ≤ c0_3) (h : impl_isImage.f a0_0 a0_1 a0_2 l0_3 = some r) :
    Calls Try.prog 83 #[.agg #[.int .i64 a0_0, .int .i64 a0_1, .int .i64 a0_2, .slice A0_3 l0_3.length c0_3]] w fun e w' => e = .returned (.bool r) ∧ Below w.heap.size w w' := by
  have hu27 := Try.underlying27
  have HR0_3 := Aside0.mk hr0_3
  have HC0_3 := Aside0.mk hc0_3
  clear hr0_3 hc0_3
  have HB := Aside0.mk (Below.refl w.heap.size w)
  have H : ((impl_isShape.f a0_0 a0_1 a0_2).bind fun t84002 => (if t84002 = true then (if (l0_3.length : Int) = (wrap64 ((wrap64 (a0_0 * a0_1)) * a0_2)) then ((impl_areBytes.f l0_3).bind fun t84003 => (some t84003)) else (some false)) else (some false))) = some r := h
  clear h
  replace H := Option.bind_eq_some_iff.mp H
  obtain ⟨t84002, A20, H⟩ := H
  replace H : (if t84002 = true then (if (l0_3.length : Int) = (wrap64 ((wrap64 (a0_0 * a0_1)) * a0_2)) then ((impl_areBytes.f l0_3).bind fun t84003 => (some t84003)) else (some false)) else (some false)) = some r := H
  have A2 := Aside0.mk A20
  clear A20
  by_cases c3 : t84002 = true
  · subst c3
    have H1 : (if (l0_3.length : Int) = (wrap64 ((wrap64 (a0_0 * a0_1)) * a0_2)) then ((impl_areBytes.f l0_3).bind fun t84003 => (some t84003)) else (some false)) = some r := by rw [if_pos rfl] at H; exact H
    clear H
    have H := H1
    clear H1
    by_cases c4 : (l0_3.length : Int) = (wrap64 ((wrap64 (a0_0 * a0_1)) * a0_2))
    · rw [if_pos c4] at H
      have c4b0 : ((l0_3.length : Int) == (wrap64 ((wrap64 (a0_0 * a0_1)) * a0_2))) = true := beq_iff_eq.mpr c4
      have c4b1 : ((l0_3.length : Int) != (wrap64 ((wrap64 (a0_0 * a0_1)) * a0_2))) = false := bne_eq_false_iff_eq.mpr c4
      clear c4
      replace H := Option.bind_eq_some_iff.mp H
      obtain ⟨t84003, A50, H⟩ := H
      replace H : (some t84003) = some r := H
      have A5 := Aside0.mk A50
      clear A50
      obtain rfl := Option.some.inj H
      go_enter Try.func83, Try.ntmps83
      go_wp2_with (first | ((with_reducible refine gate_dst (N := 1) rfl ?_); (try (refine gate_guard (by rfl) ?_; dsimp only)); refine box_event ?hg (N := 1) ?hd (cs := #[.int .i64 a0_0, .int .i64 a0_1, .int .i64 a0_2, .slice A0_3 l0_3.length c0_3]) (t := 27) ?hr ?_; (case hd => rfl); (case hg => rfl); (case hr => first | (go_simp; done) | (go_simp; rfl)); intro gb84001 hg w6 hbox hb; have n0_ := Aside0.mk (below_step (by repeat (first | (with_reducible first | exact HB.out | apply below_alloc | apply pw_below_drewN | apply below_drew1) | exact HB.out)) hb); have n1_ := Aside0.mk (hbox); have n2_ := Aside0.mk ((by rw [hg]; exact (below_size (by repeat (first | (with_reducible first | exact HB.out | apply below_alloc | apply pw_below_drewN | apply below_drew1) | exact HB.out))) : w.heap.size ≤ gb84001)); have n3_ := Aside0.mk ((by rw [hg]; exact (below_size (by repeat (first | (with_reducible first | exact HB.out | apply below_alloc | apply pw_below_drewN | apply below_drew1) | exact HB.out))) : w.heap.size ≤ gb84001)); clear HB; have HB := n0_; have BK84001 := n1_; have GW84001 := n2_; have GE84001 := n3_; clear n0_ n1_ n2_ n3_; clear hb hbox hg; have hcz7_0 : w6.cell? ⟨gb84001, 0, none⟩ = some (.int .i64 a0_0) := (blk_cell BK84001.out 0).trans rfl; have hcz7_1 : w6.cell? ⟨gb84001, 1, none⟩ = some (.int .i64 a0_1) := (blk_cell BK84001.out 1).trans rfl; have hcz7_2 : w6.cell? ⟨gb84001, 2, none⟩ = some (.int .i64 a0_2) := (blk_cell BK84001.out 2).trans rfl; have hcz7_3 : w6.cell? ⟨gb84001, 3, none⟩ = some (.slice A0_3 l0_3.length c0_3) := (blk_cell BK84001.out 3).trans rfl; have hfz7_0 := blk_frozen BK84001.out 0; have hfz7_1 := blk_frozen BK84001.out 1; have hfz7_2 := blk_frozen BK84001.out 2; have hfz7_3 := blk_frozen BK84001.out 3) | ((with_reducible refine gate_callee (f := 131) rfl ?_); refine goesL_ (some 9) rfl rfl Try.func131 (by kernel_rfl) rfl #[.int .i64 a0_0, .int .i64 a0_1, .int .i64 a0_2] rfl (by (try simp only [List.map_toArray, List.map_cons, List.map_nil]); first | done | rfl | (simp only [List.length_drop, List.length_take]; rfl)) ?_; (with_reducible refine (impl_isShape.calls a0_0 a0_1 a0_2 true _ A2.out).mono ?_); rintro e w' ⟨rfl, ⟨nd, rfl⟩⟩; refine ⟨_, rfl, ?_⟩) | (go_at_call 132; (with_reducible refine (impl_areBytes.calls _ _ l0_3 t84003 _ ?side1 ?side2 A5.out).mono ?_); (case side1 => repeat (first | exact (Kd.C_below HR0_3.out (by repeat (first | (with_reducible first | exact HB.out | apply below_alloc | apply pw_below_drewN | apply below_drew1 | refine below_set ?_ GE84001.out) | exact HB.out))) | (with_reducible refine Kd.C_alloc ?_ _) | (with_reducible refine Kd.C_drewN ?_ _) | (with_reducible refine Kd.C_drew ?_))); (case side2 => exact HC0_3.out); rintro e w' ⟨rfl, ⟨nd, rfl⟩⟩))
      go_ret
      exact ⟨by first | rfl | (simp [errW_none, errW_some] <;> rfl) | (simp [*, errW_none, errW_some] <;> rfl), by repeat (first | (with_reducible first | exact HB.out | apply below_alloc | apply pw_below_drewN | apply below_drew1 | refine below_set ?_ GE84001.out) | exact HB.out)⟩
    · rw [if_neg c4] at H
      have c4b0 : ((l0_3.length : Int) == (wrap64 ((wrap64 (a0_0 * a0_1)) * a0_2))) = false := beq_eq_false_iff_ne.mpr c4
      have c4b1 : ((l0_3.length : Int) != (wrap64 ((wrap64 (a0_0 * a0_1)) * a0_2))) = true := bne_iff_ne.mpr c4
      obtain rfl := Option.some.inj H
      go_enter Try.func83, Try.ntmps83
      go_wp2_with (first | ((with_reducible refine gate_dst (N := 1) rfl ?_); (try (refine gate_guard (by rfl) ?_; dsimp only)); refine box_event ?hg (N := 1) ?hd (cs := #[.int .i64 a0_0, .int .i64 a0_1, .int .i64 a0_2, .slice A0_3 l0_3.length c0_3]) (t := 27) ?hr ?_; (case hd => rfl); (case hg => rfl); (case hr => first | (go_simp; done) | (go_simp; rfl)); intro gb84001 hg w8 hbox hb; have n0_ := Aside0.mk (below_step (by repeat (first | (with_reducible first | exact HB.out | apply below_alloc | apply pw_below_drewN | apply below_drew1) | exact HB.out)) hb); have n1_ := Aside0.mk (hbox); have n2_ := Aside0.mk ((by rw [hg]; exact (below_size (by repeat (first | (with_reducible first | exact HB.out | apply below_alloc | apply pw_below_drewN | apply below_drew1) | exact HB.out))) : w.heap.size ≤ gb84001)); have n3_ := Aside0.mk ((by rw [hg]; exact (below_size (by repeat (first | (with_reducible first | exact HB.out | apply below_alloc | apply pw_below_drewN | apply below_drew1) | exact HB.out))) : w.heap.size ≤ gb84001)); clear HB; have HB := n0_; have BK84001 := n1_; have GW84001 := n2_; have GE84001 := n3_; clear n0_ n1_ n2_ n3_; clear hb hbox hg; have hcz9_0 : w8.cell? ⟨gb84001, 0, none⟩ = some (.int .i64 a0_0) := (blk_cell BK84001.out 0).trans rfl; have hcz9_1 : w8.cell? ⟨gb84001, 1, none⟩ = some (.int .i64 a0_1) := (blk_cell BK84001.out 1).trans rfl; have hcz9_2 : w8.cell? ⟨gb84001, 2, none⟩ = some (.int .i64 a0_2) := (blk_cell BK84001.out 2).trans rfl; have hcz9_3 : w8.cell? ⟨gb84001, 3, none⟩ = some (.slice A0_3 l0_3.length c0_3) := (blk_cell BK84001.out 3).trans rfl; have hfz9_0 := blk_frozen BK84001.out 0; have hfz9_1 := blk_frozen BK84001.out 1; have hfz9_2 := blk_frozen BK84001.out 2; have hfz9_3 := blk_frozen BK84001.out 3) | ((with_reducible refine gate_callee (f := 131) rfl ?_); refine goesL_ (some 9) rfl rfl Try.func131 (by kernel_rfl) rfl #[.int .i64 a0_0, .int .i64 a0_1, .int .i64 a0_2] rfl (by (try simp only [List.map_toArray, List.map_cons, List.map_nil]); first | done | rfl | (simp only [List.length_drop, List.length_take]; rfl)) ?_; (with_reducible refine (impl_isShape.calls a0_0 a0_1 a0_2 true _ A2.out).mono ?_); rintro e w' ⟨rfl, ⟨nd, rfl⟩⟩; refine ⟨_, rfl, ?_⟩))
      go_ret
      exact ⟨by first | rfl | (simp [errW_none, errW_some] <;> rfl) | (simp [*, errW_none, errW_some] <;> rfl), by repeat (first | (with_reducible first | exact HB.out | apply below_alloc | apply pw_below_drewN | apply below_drew1 | refine below_set ?_ GE84001.out) | exact HB.out)⟩
  · replace c3 := Bool.eq_false_iff.mpr c3
    subst c3
    have H1 : (some false) = some r := by rw [if_neg (show ¬ (false = true) by decide)] at H; exact H
    clear H
    have H := H1
    clear H1
    obtain rfl := Option.some.inj H
    go_enter Try.func83, Try.ntmps83
    go_wp2_with (first | ((with_reducible refine gate_dst (N := 1) rfl ?_); (try (refine gate_guard (by rfl) ?_; dsimp only)); refine box_event ?hg (N := 1) ?hd (cs := #[.int .i64 a0_0, .int .i64 a0_1, .int .i64 a0_2, .slice A0_3 l0_3.length c0_3]) (t := 27) ?hr ?_; (case hd => rfl); (case hg => rfl); (case hr => first | (go_simp; done) | (go_simp; rfl)); intro gb84001 hg w10 hbox hb; have n0_ := Aside0.mk (below_step (by repeat (first | (with_reducible first | exact HB.out | apply below_alloc | apply pw_below_drewN | apply below_drew1) | exact HB.out)) hb); have n1_ := Aside0.mk (hbox); have n2_ := Aside0.mk ((by rw [hg]; exact (below_size (by repeat (first | (with_reducible first | exact HB.out | apply below_alloc | apply pw_below_drewN | apply below_drew1) | exact HB.out))) : w.heap.size ≤ gb84001)); have n3_ := Aside0.mk ((by rw [hg]; exact (below_size (by repeat (first | (with_reducible first | exact HB.out | apply below_alloc | apply pw_below_drewN | apply below_drew1) | exact HB.out))) : w.heap.size ≤ gb84001)); clear HB; have HB := n0_; have BK84001 := n1_; have GW84001 := n2_; have GE84001 := n3_; clear n0_ n1_ n2_ n3_; clear hb hbox hg; have hcz11_0 : w10.cell? ⟨gb84001, 0, none⟩ = some (.int .i64 a0_0) := (blk_cell BK84001.out 0).trans rfl; have hcz11_1 : w10.cell? ⟨gb84001, 1, none⟩ = some (.int .i64 a0_1) := (blk_cell BK84001.out 1).trans rfl; have hcz11_2 : w10.cell? ⟨gb84001, 2, none⟩ = some (.int .i64 a0_2) := (blk_cell BK84001.out 2).trans rfl; have hcz11_3 : w10.cell? ⟨gb84001, 3, none⟩ = some (.slice A0_3 l0_3.length c0_3) := (blk_cell BK84001.out 3).trans rfl; have hfz11_0 := blk_frozen BK84001.out 0; have hfz11_1 := blk_frozen BK84001.out 1; have hfz11_2 := blk_frozen BK84001.out 2; have hfz11_3 := blk_frozen BK84001.out 3) | ((with_reducible refine gate_callee (f := 131) rfl ?_); refine goesL_ (some 9) rfl rfl Try.func131 (by kernel_rfl) rfl #[.int .i64 a0_0, .int .i64 a0_1, .int .i64 a0_2] rfl (by (try simp only [List.map_toArray, List.map_cons, List.map_nil]); first | done | rfl | (simp only [List.length_drop, List.length_take]; rfl)) ?_; (with_reducible refine (impl_isShape.calls a0_0 a0_1 a0_2 false _ A2.out).mono ?_); rintro e w' ⟨rfl, ⟨nd, rfl⟩⟩; refine ⟨_, rfl, ?_⟩))
    go_ret
    exact ⟨by first | rfl | (simp [errW_none, errW_some] <;> rfl) | (simp [*, errW_none, errW_some] <;> rfl), by repeat (first | (with_reducible first | exact HB.out | apply below_alloc | apply pw_below_drewN | apply below_drew1 | refine below_set ?_ GE84001.out) | exact HB.out)⟩

end Go.Proofs.Ytnofkbbcbpjhfaa.Q
