/- A part of the proof that the statement FnCoverImageSaid holds, under no condition of its own: Opaque layers are pasted: the law FnCoverImage over lists of numbers alone. -/
import Derived.Test.YtnofkbbcbpjhfaaCFnCoverImage1
import Derived.Test.YtnofkbbcbpjhfaaCFnCoverImage2
namespace Go.Proofs.Ytnofkbbcbpjhfaa.Q
open Go.RowKit Go.Proofs.YtnofkbbcbpjhfaaW.PrintWords Go.Proofs.YtnofkbbcbpjhfaaW.PrintLast Go.Proofs.YtnofkbbcbpjhfaaW.PrintMore
attribute [local go_sem] max2_int min2_int max_two min_two max_three min_three max_four min_four
set_option linter.unusedVariables false
set_option linter.unusedSimpArgs false
def spec_CoverImage.j0 : Nat → Bool → Int → Int → Int → List Int → Int → Int → Int → List Int → Int → Int → Int → Int → Bool → Option (Int × Int × Int × List Int × Bool)
  | 0, _, _, _, _, _, _, _, _, _, _, _, _, _, _ => none
  | k + 1, x16, x61002000, x61002001, x61002002, x61002003, x61003000, x61003001, x61003002, x61003003, x61003004, x61003005, x61003006, x61003007, x61003008 => if x16 = true then (some (0, 0, 0, ([] : List Int), false)) else ((spec_copyImage.f x61002000 x61002001 x61002002 x61002003).bind fun bt61006 => ((spec_blendPaste.f k bt61006.1 bt61006.2.1 bt61006.2.2.1 bt61006.2.2.2 x61003000 x61003001 x61003002 x61003003 x61003004 x61003005 x61003006 x61003007 x61003008).bind fun t61013 => (some (bt61006.1, bt61006.2.1, bt61006.2.2.1, t61013, true))))
def spec_CoverImage.f (k : Nat) (a0_0 : Int) (a0_1 : Int) (a0_2 : Int) (l0_3 : List Int) (a1_0 : Int) (a1_1 : Int) (a1_2 : Int) (l1_3 : List Int) (a1_4 : Int) (a1_5 : Int) (a1_6 : Int) (a1_7 : Int) (a1_8 : Bool) : Option (Int × Int × Int × List Int × Bool) := (spec_validImage.f k a0_0 a0_1 a0_2 l0_3).bind fun t61004 => (if t61004 = true then ((spec_validLayer.f k a1_0 a1_1 a1_2 l1_3 a1_4 a1_5 a1_6 a1_7 a1_8 a0_2).bind fun t61005 => (spec_CoverImage.j0 k (!t61005) a0_0 a0_1 a0_2 l0_3 a1_0 a1_1 a1_2 l1_3 a1_4 a1_5 a1_6 a1_7 a1_8)) else (spec_CoverImage.j0 k true a0_0 a0_1 a0_2 l0_3 a1_0 a1_1 a1_2 l1_3 a1_4 a1_5 a1_6 a1_7 a1_8))
theorem spec_CoverImage.mono_l : ∀ k, (∀ y0 y1 y2 y3 y4 y5 y6 y7 y8 y9 y10 y11 y12 y13, LeO (spec_CoverImage.j0 k y0 y1 y2 y3 y4 y5 y6 y7 y8 y9 y10 y11 y12 y13) (spec_CoverImage.j0 (k + 1) y0 y1 y2 y3 y4 y5 y6 y7 y8 y9 y10 y11 y12 y13))
  | 0 => fun _ _ _ _ _ _ _ _ _ _ _ _ _ _ r h => by simp [spec_CoverImage.j0] at h
  | k + 1 => by
    have ih0 := spec_CoverImage.mono_l k
    · intro y0 y1 y2 y3 y4 y5 y6 y7 y8 y9 y10 y11 y12 y13
      unfold spec_CoverImage.j0
      repeat' first | (with_reducible exact spec_blendPaste.mono _ _ _ _ _ _ _ _ _ _ _ _ _ _) | (with_reducible exact LeO.refl _) | (with_reducible refine LeO.ite ?_ ?_) | (with_reducible refine LeO.bind ?_ (fun _ => ?_))
theorem spec_CoverImage.mono : ∀ a0 a1 a2 a3 a4 a5 a6 a7 a8 a9 a10 a11 a12 k, LeO (spec_CoverImage.f k a0 a1 a2 a3 a4 a5 a6 a7 a8 a9 a10 a11 a12) (spec_CoverImage.f (k + 1) a0 a1 a2 a3 a4 a5 a6 a7 a8 a9 a10 a11 a12) := by
  intro a0 a1 a2 a3 a4 a5 a6 a7 a8 a9 a10 a11 a12 k
  have ih0 := spec_CoverImage.mono_l k
  unfold spec_CoverImage.f
  repeat' first | (with_reducible exact ih0 _ _ _ _ _ _ _ _ _ _ _ _ _ _) | (with_reducible exact spec_validImage.mono _ _ _ _ _) | (with_reducible exact spec_validLayer.mono _ _ _ _ _ _ _ _ _ _ _) | (with_reducible refine LeO.ite ?_ ?_) | (with_reducible refine LeO.bind ?_ (fun _ => ?_))
set_option maxHeartbeats 8000000 in
set_option maxRecDepth 100000 in
theorem spec_CoverImage.calls (k : Nat) (a0_0 : Int) (a0_1 : Int) (a0_2 : Int) (A0_3 : Option Addr) (c0_3 : Nat) (l0_3 : List Int) (a1_0 : Int) (a1_1 : Int) (a1_2 : Int) (A1_3 : Option Addr) (c1_3 : Nat) (l1_3 : List Int) (a1_4 : Int) (a1_5 : Int) (a1_6 : Int) (a1_7 : Int) (a1_8 : Bool) (r1 : Int) (r2 : Int) (r3 : Int) (r4 : List Int) (r5 : Bool) (w : World) (hr0_3 : Kd.C (Kd.int .i64) w A0_3 l0_3.length l0_3) (hc0_3 : l0_3.length ≤ c0_3) (hr1_3 : Kd.C (Kd.int .i64) w A1_3 l1_3.length l1_3) (hc1_3 : l1_3.length ≤ c1_3) (h : spec_CoverImage.f k a0_0 a0_1 a0_2 l0_3 a1_0 a1_1 a1_2 l1_3 a1_4 a1_5 a1_6 a1_7 a1_8 = some (r1, r2, r3, r4, r5)) :
    Calls Try.prog 60 #[.agg #[.int .i64 a0_0, .int .i64 a0_1, .int .i64 a0_2, .slice A0_3 l0_3.length c0_3], .agg #[.int .i64 a1_0, .int .i64 a1_1, .int .i64 a1_2, .slice A1_3 l1_3.length c1_3, .int .i64 a1_4, .int .i64 a1_5, .int .i64 a1_6, .int .i64 a1_7, .bool a1_8]] w fun e w' => ∃ v3_ : Value, e = .returned (.tuple #[.agg #[.int .i64 r1, .int .i64 r2, .int .i64 r3, v3_], .bool r5]) ∧ Kd.R (Kd.int .i64) 3 w' w.heap.size (fun _ => True) v3_ r4 ∧ Below w.heap.size w w' := by
  have hu27 := Try.underlying27
  have hu55 := Try.underlying55
  have HR0_3 := Aside0.mk hr0_3
  have HC0_3 := Aside0.mk hc0_3
  clear hr0_3 hc0_3
  have HR1_3 := Aside0.mk hr1_3
  have HC1_3 := Aside0.mk hc1_3
  clear hr1_3 hc1_3
  have HB := Aside0.mk (Below.refl w.heap.size w)
  have H : ((spec_validImage.f k a0_0 a0_1 a0_2 l0_3).bind fun t61004 => (if t61004 = true then ((spec_validLayer.f k a1_0 a1_1 a1_2 l1_3 a1_4 a1_5 a1_6 a1_7 a1_8 a0_2).bind fun t61005 => (spec_CoverImage.j0 k (!t61005) a0_0 a0_1 a0_2 l0_3 a1_0 a1_1 a1_2 l1_3 a1_4 a1_5 a1_6 a1_7 a1_8)) else (spec_CoverImage.j0 k true a0_0 a0_1 a0_2 l0_3 a1_0 a1_1 a1_2 l1_3 a1_4 a1_5 a1_6 a1_7 a1_8))) = some (r1, r2, r3, r4, r5) := h
  clear h
  have HC3 := Aside0.mk H
  clear H
  go_enter Try.func60, Try.ntmps60
  go_upto_region 1 with (first | ((with_reducible refine gate_dst (N := 2) rfl ?_); refine box_event ?hg (N := 2) ?hd (cs := #[.int .i64 a0_0, .int .i64 a0_1, .int .i64 a0_2, .slice A0_3 l0_3.length c0_3]) (t := 27) ?hr ?_; (case hd => rfl); (case hg => rfl); (case hr => (go_simp; done)); intro gb61001 hg w4 hbox hb; have n0_ := Aside0.mk (below_step HB.out hb); have n1_ := Aside0.mk (hbox); have n2_ := Aside0.mk ((by rw [hg]; exact (below_size HB.out) : w.heap.size ≤ gb61001)); have n3_ := Aside0.mk ((by rw [hg]; exact (below_size HB.out) : w.heap.size ≤ gb61001)); clear HB; have HB := n0_; have BK61001 := n1_; have GW61001 := n2_; have GE61001 := n3_; clear n0_ n1_ n2_ n3_; clear hb hbox hg) | ((with_reducible refine gate_dst (N := 3) rfl ?_); refine box_event ?hg (N := 3) ?hd (cs := #[.int .i64 a1_0, .int .i64 a1_1, .int .i64 a1_2, .slice A1_3 l1_3.length c1_3, .int .i64 a1_4, .int .i64 a1_5, .int .i64 a1_6, .int .i64 a1_7, .bool a1_8]) (t := 55) ?hr ?_; (case hd => rfl); (case hg => rfl); (case hr => (go_simp; done)); intro gb61002 hg w5 hbox hb; have n0_ := Aside0.mk (blk_below BK61001.out hb); have n1_ := Aside0.mk (below_step HB.out hb); have n2_ := Aside0.mk (hbox); have n3_ := Aside0.mk ((by rw [hg]; exact (below_size HB.out) : w.heap.size ≤ gb61002)); have n4_ := Aside0.mk ((by rw [hg]; exact (below_size HB.out) : w.heap.size ≤ gb61002)); have n5_ := Aside0.mk ((by rw [hg]; exact Nat.ne_of_lt (blk_lt BK61001.out) : gb61001 ≠ gb61002)); have n6_ := Aside0.mk ((by rw [hg]; exact Nat.ne_of_gt (blk_lt BK61001.out) : gb61002 ≠ gb61001)); clear BK61001; clear HB; have BK61001 := n0_; have HB := n1_; have BK61002 := n2_; have GW61002 := n3_; have GE61002 := n4_; have NB61001_61002 := n5_; have NB61002_61001 := n6_; clear n0_ n1_ n2_ n3_ n4_ n5_ n6_; clear hb hbox hg) | ((with_reducible refine gate_dst (N := 4) rfl ?_); refine box_event ?hg (N := 4) ?hd (cs := #[.int .i64 0, .int .i64 0, .int .i64 0, .slice none 0 0]) (t := 27) ?hr ?_; (case hd => rfl); (case hg => rfl); (case hr => (go_simp; done)); intro gb61003 hg w6 hbox hb; have n0_ := Aside0.mk (blk_below BK61001.out hb); have n1_ := Aside0.mk (blk_below BK61002.out hb); have n2_ := Aside0.mk (below_step HB.out hb); have n3_ := Aside0.mk (hbox); have n4_ := Aside0.mk ((by rw [hg]; exact (below_size HB.out) : w.heap.size ≤ gb61003)); have n5_ := Aside0.mk ((by rw [hg]; exact (below_size HB.out) : w.heap.size ≤ gb61003)); have n6_ := Aside0.mk ((by rw [hg]; exact Nat.ne_of_lt (blk_lt BK61001.out) : gb61001 ≠ gb61003)); have n7_ := Aside0.mk ((by rw [hg]; exact Nat.ne_of_gt (blk_lt BK61001.out) : gb61003 ≠ gb61001)); have n8_ := Aside0.mk ((by rw [hg]; exact Nat.ne_of_lt (blk_lt BK61002.out) : gb61002 ≠ gb61003)); have n9_ := Aside0.mk ((by rw [hg]; exact Nat.ne_of_gt (blk_lt BK61002.out) : gb61003 ≠ gb61002)); clear BK61001; clear BK61002; clear HB; have BK61001 := n0_; have BK61002 := n1_; have HB := n2_; have BK61003 := n3_; have GW61003 := n4_; have GE61003 := n5_; have NB61001_61003 := n6_; have NB61003_61001 := n7_; have NB61002_61003 := n8_; have NB61003_61002 := n9_; clear n0_ n1_ n2_ n3_ n4_ n5_ n6_ n7_ n8_ n9_; clear hb hbox hg))
  go_cut [16] (fun v16 wc => ∃ (kq : Nat) (x16_2 : Bool), v16 = .bool x16_2 ∧ Aside0 (spec_CoverImage.j0 kq x16_2 a0_0 a0_1 a0_2 l0_3 a1_0 a1_1 a1_2 l1_3 a1_4 a1_5 a1_6 a1_7 a1_8 = some (r1, r2, r3, r4, r5)) ∧ Aside0 (kq ≤ k) ∧ Aside0 (wc.heap[gb61001]? = some (.cells #[.int .i64 a0_0, .int .i64 a0_1, .int .i64 a0_2, (.slice A0_3 l0_3.length c0_3)] 27 (0, 0))) ∧ Aside0 (wc.heap[gb61002]? = some (.cells #[.int .i64 a1_0, .int .i64 a1_1, .int .i64 a1_2, (.slice A1_3 l1_3.length c1_3), .int .i64 a1_4, .int .i64 a1_5, .int .i64 a1_6, .int .i64 a1_7, .bool a1_8] 55 (0, 0))) ∧ Aside0 (wc.heap[gb61003]? = some (.cells #[.int .i64 0, .int .i64 0, .int .i64 0, (.slice none 0 0)] 27 (0, 0))) ∧ Aside0 (Below w.heap.size w wc))
  case first =>
    have H := HC3.out
    clear HC3
    replace H := Option.bind_eq_some_iff.mp H
    obtain ⟨t61004, A70, H⟩ := H
    replace H : (if t61004 = true then ((spec_validLayer.f k a1_0 a1_1 a1_2 l1_3 a1_4 a1_5 a1_6 a1_7 a1_8 a0_2).bind fun t61005 => (spec_CoverImage.j0 k (!t61005) a0_0 a0_1 a0_2 l0_3 a1_0 a1_1 a1_2 l1_3 a1_4 a1_5 a1_6 a1_7 a1_8)) else (spec_CoverImage.j0 k true a0_0 a0_1 a0_2 l0_3 a1_0 a1_1 a1_2 l1_3 a1_4 a1_5 a1_6 a1_7 a1_8)) = some (r1, r2, r3, r4, r5) := H
    have A7 := Aside0.mk A70
    clear A70
    by_cases c8 : t61004 = true
    · subst c8
      have H1 : ((spec_validLayer.f k a1_0 a1_1 a1_2 l1_3 a1_4 a1_5 a1_6 a1_7 a1_8 a0_2).bind fun t61005 => (spec_CoverImage.j0 k (!t61005) a0_0 a0_1 a0_2 l0_3 a1_0 a1_1 a1_2 l1_3 a1_4 a1_5 a1_6 a1_7 a1_8)) = some (r1, r2, r3, r4, r5) := by rw [if_pos rfl] at H; exact H
      clear H
      have H := H1
      clear H1
      replace H := Option.bind_eq_some_iff.mp H
      obtain ⟨t61005, A90, H⟩ := H
      replace H : (spec_CoverImage.j0 k (!t61005) a0_0 a0_1 a0_2 l0_3 a1_0 a1_1 a1_2 l1_3 a1_4 a1_5 a1_6 a1_7 a1_8) = some (r1, r2, r3, r4, r5) := H
      have A9 := Aside0.mk A90
      clear A90
      have H' := Aside0.mk H
      clear H
      have hnb10 := NB61001_61002.out
      have hnc10 := NB61002_61001.out
      have hnb11 := NB61001_61003.out
      have hnc11 := NB61003_61001.out
      have hcz12_0 : w6.cell? ⟨gb61001, 0, none⟩ = some (.int .i64 a0_0) := (blk_cell BK61001.out 0).trans rfl
      have hcz12_1 : w6.cell? ⟨gb61001, 1, none⟩ = some (.int .i64 a0_1) := (blk_cell BK61001.out 1).trans rfl
      have hcz12_2 : w6.cell? ⟨gb61001, 2, none⟩ = some (.int .i64 a0_2) := (blk_cell BK61001.out 2).trans rfl
      have hcz12_3 : w6.cell? ⟨gb61001, 3, none⟩ = some (.slice A0_3 l0_3.length c0_3) := (blk_cell BK61001.out 3).trans rfl
      have hfz12_0 := blk_frozen BK61001.out 0
      have hfz12_1 := blk_frozen BK61001.out 1
      have hfz12_2 := blk_frozen BK61001.out 2
      have hfz12_3 := blk_frozen BK61001.out 3
      go_wp2_with (first | ((with_reducible refine gate_callee (f := 89) rfl ?_); refine goesL_ (some 8) rfl rfl Try.func89 (by kernel_rfl) rfl #[.agg #[.int .i64 a0_0, .int .i64 a0_1, .int .i64 a0_2, .slice A0_3 l0_3.length c0_3]] rfl (by (try simp only [List.map_toArray, List.map_cons, List.map_nil]); rfl) ?_; (with_reducible refine (spec_validImage.calls k a0_0 a0_1 a0_2 _ _ l0_3 true _ ?side1 ?side2 A7.out).mono ?_); (case side1 => repeat (exact (Kd.C_below HR0_3.out HB.out))); (case side2 => exact HC0_3.out); rintro e w13 ⟨rfl, hb⟩; refine ⟨_, rfl, ?_⟩; have n0_ := Aside0.mk (blk_below BK61001.out hb); have n1_ := Aside0.mk (blk_below BK61002.out hb); have n2_ := Aside0.mk (blk_below BK61003.out hb); have n3_ := Aside0.mk (below_step HB.out hb); clear BK61001; clear BK61002; clear BK61003; clear HB; have BK61001 := n0_; have BK61002 := n1_; have BK61003 := n2_; have HB := n3_; clear n0_ n1_ n2_ n3_; (try clear hb); have hnb14 := NB61002_61003.out; have hnc14 := NB61003_61002.out; have hcz15_0 : w13.cell? ⟨gb61002, 0, none⟩ = some (.int .i64 a1_0) := (blk_cell BK61002.out 0).trans rfl; have hcz15_1 : w13.cell? ⟨gb61002, 1, none⟩ = some (.int .i64 a1_1) := (blk_cell BK61002.out 1).trans rfl; have hcz15_2 : w13.cell? ⟨gb61002, 2, none⟩ = some (.int .i64 a1_2) := (blk_cell BK61002.out 2).trans rfl; have hcz15_3 : w13.cell? ⟨gb61002, 3, none⟩ = some (.slice A1_3 l1_3.length c1_3) := (blk_cell BK61002.out 3).trans rfl; have hcz15_4 : w13.cell? ⟨gb61002, 4, none⟩ = some (.int .i64 a1_4) := (blk_cell BK61002.out 4).trans rfl; have hcz15_5 : w13.cell? ⟨gb61002, 5, none⟩ = some (.int .i64 a1_5) := (blk_cell BK61002.out 5).trans rfl; have hcz15_6 : w13.cell? ⟨gb61002, 6, none⟩ = some (.int .i64 a1_6) := (blk_cell BK61002.out 6).trans rfl; have hcz15_7 : w13.cell? ⟨gb61002, 7, none⟩ = some (.int .i64 a1_7) := (blk_cell BK61002.out 7).trans rfl; have hcz15_8 : w13.cell? ⟨gb61002, 8, none⟩ = some (.bool a1_8) := (blk_cell BK61002.out 8).trans rfl; have hfz15_0 := blk_frozen BK61002.out 0; have hfz15_1 := blk_frozen BK61002.out 1; have hfz15_2 := blk_frozen BK61002.out 2; have hfz15_3 := blk_frozen BK61002.out 3; have hfz15_4 := blk_frozen BK61002.out 4; have hfz15_5 := blk_frozen BK61002.out 5; have hfz15_6 := blk_frozen BK61002.out 6; have hfz15_7 := blk_frozen BK61002.out 7; have hfz15_8 := blk_frozen BK61002.out 8; have hcz16_0 : w13.cell? ⟨gb61001, 0, none⟩ = some (.int .i64 a0_0) := (blk_cell BK61001.out 0).trans rfl; have hcz16_1 : w13.cell? ⟨gb61001, 1, none⟩ = some (.int .i64 a0_1) := (blk_cell BK61001.out 1).trans rfl; have hcz16_2 : w13.cell? ⟨gb61001, 2, none⟩ = some (.int .i64 a0_2) := (blk_cell BK61001.out 2).trans rfl; have hcz16_3 : w13.cell? ⟨gb61001, 3, none⟩ = some (.slice A0_3 l0_3.length c0_3) := (blk_cell BK61001.out 3).trans rfl; have hfz16_0 := blk_frozen BK61001.out 0; have hfz16_1 := blk_frozen BK61001.out 1; have hfz16_2 := blk_frozen BK61001.out 2; have hfz16_3 := blk_frozen BK61001.out 3) | (go_at_call 101; (with_reducible refine (spec_validLayer.calls k a1_0 a1_1 a1_2 _ _ l1_3 a1_4 a1_5 a1_6 a1_7 a1_8 a0_2 t61005 _ ?side1 ?side2 A9.out).mono ?_); (case side1 => repeat (exact (Kd.C_below HR1_3.out HB.out))); (case side2 => exact HC1_3.out); rintro e w17 ⟨rfl, hb⟩; have n0_ := Aside0.mk (blk_below BK61001.out hb); have n1_ := Aside0.mk (blk_below BK61002.out hb); have n2_ := Aside0.mk (blk_below BK61003.out hb); have n3_ := Aside0.mk (below_step HB.out hb); clear BK61001; clear BK61002; clear BK61003; clear HB; have BK61001 := n0_; have BK61002 := n1_; have BK61003 := n2_; have HB := n3_; clear n0_ n1_ n2_ n3_; (try clear hb)))
      go_meet
      case rel => exact ⟨_, (!t61005), (by rfl), H', ⟨by omega⟩, ⟨by (with_reducible repeat (first | refine blk_drewN ?_ _ | refine blk_drew ?_ | refine blk_alloc ?_ _)); exact BK61001.out⟩, ⟨by (with_reducible repeat (first | refine blk_drewN ?_ _ | refine blk_drew ?_ | refine blk_alloc ?_ _)); exact BK61002.out⟩, ⟨by (with_reducible repeat (first | refine blk_drewN ?_ _ | refine blk_drew ?_ | refine blk_alloc ?_ _)); exact BK61003.out⟩, ⟨by exact HB.out⟩⟩
    · replace c8 := Bool.eq_false_iff.mpr c8
      subst c8
      have H1 : (spec_CoverImage.j0 k true a0_0 a0_1 a0_2 l0_3 a1_0 a1_1 a1_2 l1_3 a1_4 a1_5 a1_6 a1_7 a1_8) = some (r1, r2, r3, r4, r5) := by rw [if_neg (show ¬ (false = true) by decide)] at H; exact H
      clear H
      have H := H1
      clear H1
      have H' := Aside0.mk H
      clear H
      have hnb18 := NB61001_61002.out
      have hnc18 := NB61002_61001.out
      have hnb19 := NB61001_61003.out
      have hnc19 := NB61003_61001.out
      have hcz20_0 : w6.cell? ⟨gb61001, 0, none⟩ = some (.int .i64 a0_0) := (blk_cell BK61001.out 0).trans rfl
      have hcz20_1 : w6.cell? ⟨gb61001, 1, none⟩ = some (.int .i64 a0_1) := (blk_cell BK61001.out 1).trans rfl
      have hcz20_2 : w6.cell? ⟨gb61001, 2, none⟩ = some (.int .i64 a0_2) := (blk_cell BK61001.out 2).trans rfl
      have hcz20_3 : w6.cell? ⟨gb61001, 3, none⟩ = some (.slice A0_3 l0_3.length c0_3) := (blk_cell BK61001.out 3).trans rfl
      have hfz20_0 := blk_frozen BK61001.out 0
      have hfz20_1 := blk_frozen BK61001.out 1
      have hfz20_2 := blk_frozen BK61001.out 2
      have hfz20_3 := blk_frozen BK61001.out 3
      go_wp2_with (first | ((with_reducible refine gate_callee (f := 89) rfl ?_); refine goesL_ (some 8) rfl rfl Try.func89 (by kernel_rfl) rfl #[.agg #[.int .i64 a0_0, .int .i64 a0_1, .int .i64 a0_2, .slice A0_3 l0_3.length c0_3]] rfl (by (try simp only [List.map_toArray, List.map_cons, List.map_nil]); rfl) ?_; (with_reducible refine (spec_validImage.calls k a0_0 a0_1 a0_2 _ _ l0_3 false _ ?side1 ?side2 A7.out).mono ?_); (case side1 => repeat (exact (Kd.C_below HR0_3.out HB.out))); (case side2 => exact HC0_3.out); rintro e w21 ⟨rfl, hb⟩; refine ⟨_, rfl, ?_⟩; have n0_ := Aside0.mk (blk_below BK61001.out hb); have n1_ := Aside0.mk (blk_below BK61002.out hb); have n2_ := Aside0.mk (blk_below BK61003.out hb); have n3_ := Aside0.mk (below_step HB.out hb); clear BK61001; clear BK61002; clear BK61003; clear HB; have BK61001 := n0_; have BK61002 := n1_; have BK61003 := n2_; have HB := n3_; clear n0_ n1_ n2_ n3_; (try clear hb)))
      go_meet
      case rel => exact ⟨_, (true), (by rfl), H', ⟨by omega⟩, ⟨by (with_reducible repeat (first | refine blk_drewN ?_ _ | refine blk_drew ?_ | refine blk_alloc ?_ _)); exact BK61001.out⟩, ⟨by (with_reducible repeat (first | refine blk_drewN ?_ _ | refine blk_drew ?_ | refine blk_alloc ?_ _)); exact BK61002.out⟩, ⟨by (with_reducible repeat (first | refine blk_drewN ?_ _ | refine blk_drew ?_ | refine blk_alloc ?_ _)); exact BK61003.out⟩, ⟨by exact HB.out⟩⟩
  case rest =>
    clear HC3
    try clear c1
    try clear p2
    try clear c6
    try clear c8
    try clear c10
    try clear c11
    try clear c14
    try clear c18
    try clear c19
    try clear hcz12_0
    try clear hcz12_1
    try clear hcz12_2
    try clear hcz12_3
    try clear hcz15_0
    try clear hcz15_1
    try clear hcz15_2
    try clear hcz15_3
    try clear hcz15_4
    try clear hcz15_5
    try clear hcz15_6
    try clear hcz15_7
    try clear hcz15_8
    try clear hcz16_0
    try clear hcz16_1
    try clear hcz16_2
    try clear hcz16_3
    try clear hcz20_0
    try clear hcz20_1
    try clear hcz20_2
    try clear hcz20_3
    try clear hfz12_0
    try clear hfz12_1
    try clear hfz12_2
    try clear hfz12_3
    try clear hfz15_0
    try clear hfz15_1
    try clear hfz15_2
    try clear hfz15_3
    try clear hfz15_4
    try clear hfz15_5
    try clear hfz15_6
    try clear hfz15_7
    try clear hfz15_8
    try clear hfz16_0
    try clear hfz16_1
    try clear hfz16_2
    try clear hfz16_3
    try clear hfz20_0
    try clear hfz20_1
    try clear hfz20_2
    try clear hfz20_3
    obtain ⟨kq, x16_2, rfl, HA, HJ2, BK61001, BK61002, BK61003, HB⟩ := hcut
    cases kq with
    | zero => exact absurd HA.out (by simp [spec_CoverImage.j0])
    | succ kj2 =>
      have H := HA.out
      clear HA
      simp only [spec_CoverImage.j0] at H
      by_cases c22 : x16_2 = true
      · subst c22
        have H1 : (some (0, 0, 0, ([] : List Int), false)) = some (r1, r2, r3, r4, r5) := by rw [if_pos rfl] at H; exact H
        clear H
        have H := H1
        clear H1
        simp only [Option.some.injEq, Prod.mk.injEq] at H
        obtain ⟨rfl, rfl, rfl, rfl, rfl⟩ := H
        have hnb23 := NB61003_61001.out
        have hnc23 := NB61001_61003.out
        have hnb24 := NB61003_61002.out
        have hnc24 := NB61002_61003.out
        have hcz25_0 : wc.cell? ⟨gb61003, 0, none⟩ = some (.int .i64 0) := (blk_cell BK61003.out 0).trans rfl
        have hcz25_1 : wc.cell? ⟨gb61003, 1, none⟩ = some (.int .i64 0) := (blk_cell BK61003.out 1).trans rfl
        have hcz25_2 : wc.cell? ⟨gb61003, 2, none⟩ = some (.int .i64 0) := (blk_cell BK61003.out 2).trans rfl
        have hcz25_3 : wc.cell? ⟨gb61003, 3, none⟩ = some (.slice none 0 0) := (blk_cell BK61003.out 3).trans rfl
        have hfz25_0 := blk_frozen BK61003.out 0
        have hfz25_1 := blk_frozen BK61003.out 1
        have hfz25_2 := blk_frozen BK61003.out 2
        have hfz25_3 := blk_frozen BK61003.out 3
        go_wp2
        refine bodyPost_ret (results_ct rfl _ _ gb61003 27 #[.int .i64 0, .int .i64 0, .int .i64 0, .slice none 0 0] (0, 0) _ rfl (by refine blk_put (cs := #[.int .i64 0, .int .i64 0, .int .i64 0, .slice none 0 0]) ?_ 3 _ rfl; (with_reducible repeat (first | refine blk_drewN ?_ _ | refine blk_drew ?_ | refine blk_alloc ?_ _)); refine blk_put (cs := #[.int .i64 0, .int .i64 0, .int .i64 0, .slice none 0 0]) ?_ 2 _ rfl; (with_reducible repeat (first | refine blk_drewN ?_ _ | refine blk_drew ?_ | refine blk_alloc ?_ _)); refine blk_put (cs := #[.int .i64 0, .int .i64 0, .int .i64 0, .slice none 0 0]) ?_ 1 _ rfl; (with_reducible repeat (first | refine blk_drewN ?_ _ | refine blk_drew ?_ | refine blk_alloc ?_ _)); refine blk_put (cs := #[.int .i64 0, .int .i64 0, .int .i64 0, .slice none 0 0]) ?_ 0 _ rfl; (with_reducible repeat (first | refine blk_drewN ?_ _ | refine blk_drew ?_ | refine blk_alloc ?_ _)); exact BK61003.out) Try.underlying27 rfl (by kernel_rfl)) rfl ?_
        exact ⟨_, by rfl, by exact Kd.R_nil _ _ _ _ _, by repeat (with_reducible first | exact HB.out | refine below_set ?_ GE61003.out)⟩
      · replace c22 := Bool.eq_false_iff.mpr c22
        subst c22
        have H1 : ((spec_copyImage.f a0_0 a0_1 a0_2 l0_3).bind fun bt61006 => ((spec_blendPaste.f kj2 bt61006.1 bt61006.2.1 bt61006.2.2.1 bt61006.2.2.2 a1_0 a1_1 a1_2 l1_3 a1_4 a1_5 a1_6 a1_7 a1_8).bind fun t61013 => (some (bt61006.1, bt61006.2.1, bt61006.2.2.1, t61013, true)))) = some (r1, r2, r3, r4, r5) := by rw [if_neg (show ¬ (false = true) by decide)] at H; exact H
        clear H
        have H := H1
        clear H1
        replace H := Option.bind_eq_some_iff.mp H
        obtain ⟨⟨t61006, t61007, t61008, t61009⟩, A260, H⟩ := H
        replace H : ((spec_blendPaste.f kj2 t61006 t61007 t61008 t61009 a1_0 a1_1 a1_2 l1_3 a1_4 a1_5 a1_6 a1_7 a1_8).bind fun t61013 => (some (t61006, t61007, t61008, t61013, true))) = some (r1, r2, r3, r4, r5) := H
        have A26 := Aside0.mk A260
        clear A260
        replace H := Option.bind_eq_some_iff.mp H
        obtain ⟨t61013, A270, H⟩ := H
        replace H : (some (t61006, t61007, t61008, t61013, true)) = some (r1, r2, r3, r4, r5) := H
        have A27 := Aside0.mk A270
        clear A270
        simp only [Option.some.injEq, Prod.mk.injEq] at H
        obtain ⟨rfl, rfl, rfl, rfl, rfl⟩ := H
        have hnb28 := NB61001_61002.out
        have hnc28 := NB61002_61001.out
        have hnb29 := NB61001_61003.out
        have hnc29 := NB61003_61001.out
        have hcz30_0 : wc.cell? ⟨gb61001, 0, none⟩ = some (.int .i64 a0_0) := (blk_cell BK61001.out 0).trans rfl
        have hcz30_1 : wc.cell? ⟨gb61001, 1, none⟩ = some (.int .i64 a0_1) := (blk_cell BK61001.out 1).trans rfl
        have hcz30_2 : wc.cell? ⟨gb61001, 2, none⟩ = some (.int .i64 a0_2) := (blk_cell BK61001.out 2).trans rfl
        have hcz30_3 : wc.cell? ⟨gb61001, 3, none⟩ = some (.slice A0_3 l0_3.length c0_3) := (blk_cell BK61001.out 3).trans rfl
        have hfz30_0 := blk_frozen BK61001.out 0
        have hfz30_1 := blk_frozen BK61001.out 1
        have hfz30_2 := blk_frozen BK61001.out 2
        have hfz30_3 := blk_frozen BK61001.out 3
        go_wp2_with (first | ((with_reducible refine gate_callee (f := 113) rfl ?_); refine goesL_ (some 19) rfl rfl Try.func113 (by kernel_rfl) rfl #[.agg #[.int .i64 a0_0, .int .i64 a0_1, .int .i64 a0_2, .slice A0_3 l0_3.length c0_3]] rfl (by (try simp only [List.map_toArray, List.map_cons, List.map_nil]); rfl) ?_; (with_reducible refine (spec_copyImage.calls a0_0 a0_1 a0_2 _ _ l0_3 t61006 t61007 t61008 t61009 _ ?side1 ?side2 A26.out).mono ?_); (case side1 => repeat (exact (Kd.C_below HR0_3.out HB.out))); (case side2 => exact HC0_3.out); rintro e w31 ⟨v61010, rfl, ho0, hb⟩; refine ⟨_, rfl, ?_⟩; have n0_ := Aside0.mk (Kd.R_lower ho0 (below_size HB.out)); have n1_ := Aside0.mk (blk_below BK61001.out hb); have n2_ := Aside0.mk (blk_below BK61002.out hb); have n3_ := Aside0.mk (blk_below BK61003.out hb); have n4_ := Aside0.mk (below_step HB.out hb); clear BK61001; clear BK61002; clear BK61003; clear HB; have HO61011 := n0_; have BK61001 := n1_; have BK61002 := n2_; have BK61003 := n3_; have HB := n4_; clear n0_ n1_ n2_ n3_ n4_; (try clear hb); (try clear ho0)) | ((with_reducible refine gate_dst (N := 6) rfl ?_); refine box_event ?hg (N := 6) ?hd (cs := #[.int .i64 0, .int .i64 0, .int .i64 0, .slice none 0 0]) (t := 27) ?hr ?_; (case hd => rfl); (case hg => rfl); (case hr => (go_simp; done)); intro gb61012 hg w32 hbox hb; have n0_ := Aside0.mk (Kd.R_below HO61011.out hb); have n1_ := Aside0.mk (blk_below BK61001.out hb); have n2_ := Aside0.mk (blk_below BK61002.out hb); have n3_ := Aside0.mk (blk_below BK61003.out hb); have n4_ := Aside0.mk (below_step HB.out hb); have n5_ := Aside0.mk (hbox); have n6_ := Aside0.mk ((by rw [hg]; exact (below_size HB.out) : w.heap.size ≤ gb61012)); have n7_ := Aside0.mk ((by rw [hg]; exact (below_size HB.out) : w.heap.size ≤ gb61012)); have n8_ := Aside0.mk ((by rw [hg]; exact Nat.ne_of_lt (blk_lt BK61001.out) : gb61001 ≠ gb61012)); have n9_ := Aside0.mk ((by rw [hg]; exact Nat.ne_of_gt (blk_lt BK61001.out) : gb61012 ≠ gb61001)); have n10_ := Aside0.mk ((by rw [hg]; exact Nat.ne_of_lt (blk_lt BK61002.out) : gb61002 ≠ gb61012)); have n11_ := Aside0.mk ((by rw [hg]; exact Nat.ne_of_gt (blk_lt BK61002.out) : gb61012 ≠ gb61002)); have n12_ := Aside0.mk ((by rw [hg]; exact Nat.ne_of_lt (blk_lt BK61003.out) : gb61003 ≠ gb61012)); have n13_ := Aside0.mk ((by rw [hg]; exact Nat.ne_of_gt (blk_lt BK61003.out) : gb61012 ≠ gb61003)); clear HO61011; clear BK61001; clear BK61002; clear BK61003; clear HB; have HO61011 := n0_; have BK61001 := n1_; have BK61002 := n2_; have BK61003 := n3_; have HB := n4_; have BK61012 := n5_; have GW61012 := n6_; have GE61012 := n7_; have NB61001_61012 := n8_; have NB61012_61001 := n9_; have NB61002_61012 := n10_; have NB61012_61002 := n11_; have NB61003_61012 := n12_; have NB61012_61003 := n13_; clear n0_ n1_ n2_ n3_ n4_ n5_ n6_ n7_ n8_ n9_ n10_ n11_ n12_ n13_; clear hb hbox hg; have hnb33 := NB61012_61001.out; have hnc33 := NB61001_61012.out; have hnb34 := NB61012_61002.out; have hnc34 := NB61002_61012.out; have hnb35 := NB61012_61003.out; have hnc35 := NB61003_61012.out; have hcz36_0 : w32.cell? ⟨gb61012, 0, none⟩ = some (.int .i64 0) := (blk_cell BK61012.out 0).trans rfl; have hcz36_1 : w32.cell? ⟨gb61012, 1, none⟩ = some (.int .i64 0) := (blk_cell BK61012.out 1).trans rfl; have hcz36_2 : w32.cell? ⟨gb61012, 2, none⟩ = some (.int .i64 0) := (blk_cell BK61012.out 2).trans rfl; have hcz36_3 : w32.cell? ⟨gb61012, 3, none⟩ = some (.slice none 0 0) := (blk_cell BK61012.out 3).trans rfl; have hfz36_0 := blk_frozen BK61012.out 0; have hfz36_1 := blk_frozen BK61012.out 1; have hfz36_2 := blk_frozen BK61012.out 2; have hfz36_3 := blk_frozen BK61012.out 3; obtain ⟨Ao37, co37, eo37⟩ := Kd.R_slice HO61011.out; subst eo37) | ((with_reducible refine gate_store (t := 27) (p := 6) rfl ?_); refine store_event (t := 27) (p := 6) (v := ?vo_w38) (w1 := ((((w32.setCell ⟨gb61012, 0, none⟩ (.int .i64 t61006)).setCell ⟨gb61012, 1, none⟩ (.int .i64 t61007)).setCell ⟨gb61012, 2, none⟩ (.int .i64 t61008)).setCell ⟨gb61012, 3, none⟩ (.slice Ao37 t61009.length co37))) ?hg ?ho ?hn ?hr ?_; (case ho => rfl); (case hg => rfl); (case hn => rfl); (case hr => (go_simp; done)); intro w38 hw; have n0_ : Aside0 (Kd.R (Kd.int .i64) 3 w38 w.heap.size (fun _ => True) (.slice Ao37 t61009.length co37) t61009) := ⟨(by rw [hw]; exact (by exact Kd.R_mono (Kd.R_far (p := ⟨gb61012, 3, none⟩) (Kd.R_far (p := ⟨gb61012, 2, none⟩) (Kd.R_far (p := ⟨gb61012, 1, none⟩) (Kd.R_far (p := ⟨gb61012, 0, none⟩) (Kd.R_types HO61011.out BK61012.out (by decide)) (fun _ hk => hk.2) (.int .i64 t61006)) (fun _ hk => hk.2) (.int .i64 t61007)) (fun _ hk => hk.2) (.int .i64 t61008)) (fun _ hk => hk.2) (.slice Ao37 t61009.length co37)) (fun _ hk => trivial)))⟩; have n1_ : Aside0 (w38.heap[gb61001]? = some (.cells #[.int .i64 a0_0, .int .i64 a0_1, .int .i64 a0_2, .slice A0_3 l0_3.length c0_3] 27 (0, 0))) := ⟨(by rw [hw]; exact (by refine blk_far ?_ NB61001_61012.out _; (with_reducible repeat (first | refine blk_drewN ?_ _ | refine blk_drew ?_ | refine blk_alloc ?_ _)); refine blk_far ?_ NB61001_61012.out _; (with_reducible repeat (first | refine blk_drewN ?_ _ | refine blk_drew ?_ | refine blk_alloc ?_ _)); refine blk_far ?_ NB61001_61012.out _; (with_reducible repeat (first | refine blk_drewN ?_ _ | refine blk_drew ?_ | refine blk_alloc ?_ _)); refine blk_far ?_ NB61001_61012.out _; (with_reducible repeat (first | refine blk_drewN ?_ _ | refine blk_drew ?_ | refine blk_alloc ?_ _)); exact BK61001.out))⟩; have n2_ : Aside0 (w38.heap[gb61002]? = some (.cells #[.int .i64 a1_0, .int .i64 a1_1, .int .i64 a1_2, .slice A1_3 l1_3.length c1_3, .int .i64 a1_4, .int .i64 a1_5, .int .i64 a1_6, .int .i64 a1_7, .bool a1_8] 55 (0, 0))) := ⟨(by rw [hw]; exact (by refine blk_far ?_ NB61002_61012.out _; (with_reducible repeat (first | refine blk_drewN ?_ _ | refine blk_drew ?_ | refine blk_alloc ?_ _)); refine blk_far ?_ NB61002_61012.out _; (with_reducible repeat (first | refine blk_drewN ?_ _ | refine blk_drew ?_ | refine blk_alloc ?_ _)); refine blk_far ?_ NB61002_61012.out _; (with_reducible repeat (first | refine blk_drewN ?_ _ | refine blk_drew ?_ | refine blk_alloc ?_ _)); refine blk_far ?_ NB61002_61012.out _; (with_reducible repeat (first | refine blk_drewN ?_ _ | refine blk_drew ?_ | refine blk_alloc ?_ _)); exact BK61002.out))⟩; have n3_ : Aside0 (w38.heap[gb61003]? = some (.cells #[.int .i64 0, .int .i64 0, .int .i64 0, .slice none 0 0] 27 (0, 0))) := ⟨(by rw [hw]; exact (by refine blk_far ?_ NB61003_61012.out _; (with_reducible repeat (first | refine blk_drewN ?_ _ | refine blk_drew ?_ | refine blk_alloc ?_ _)); refine blk_far ?_ NB61003_61012.out _; (with_reducible repeat (first | refine blk_drewN ?_ _ | refine blk_drew ?_ | refine blk_alloc ?_ _)); refine blk_far ?_ NB61003_61012.out _; (with_reducible repeat (first | refine blk_drewN ?_ _ | refine blk_drew ?_ | refine blk_alloc ?_ _)); refine blk_far ?_ NB61003_61012.out _; (with_reducible repeat (first | refine blk_drewN ?_ _ | refine blk_drew ?_ | refine blk_alloc ?_ _)); exact BK61003.out))⟩; have n4_ : Aside0 (w38.heap[gb61012]? = some (.cells #[.int .i64 t61006, .int .i64 t61007, .int .i64 t61008, .slice Ao37 t61009.length co37] 27 (0, 0))) := ⟨(by rw [hw]; exact (by refine blk_put (cs := #[.int .i64 t61006, .int .i64 t61007, .int .i64 t61008, .slice none 0 0]) ?_ 3 _ rfl; (with_reducible repeat (first | refine blk_drewN ?_ _ | refine blk_drew ?_ | refine blk_alloc ?_ _)); refine blk_put (cs := #[.int .i64 t61006, .int .i64 t61007, .int .i64 0, .slice none 0 0]) ?_ 2 _ rfl; (with_reducible repeat (first | refine blk_drewN ?_ _ | refine blk_drew ?_ | refine blk_alloc ?_ _)); refine blk_put (cs := #[.int .i64 t61006, .int .i64 0, .int .i64 0, .slice none 0 0]) ?_ 1 _ rfl; (with_reducible repeat (first | refine blk_drewN ?_ _ | refine blk_drew ?_ | refine blk_alloc ?_ _)); refine blk_put (cs := #[.int .i64 0, .int .i64 0, .int .i64 0, .slice none 0 0]) ?_ 0 _ rfl; (with_reducible repeat (first | refine blk_drewN ?_ _ | refine blk_drew ?_ | refine blk_alloc ?_ _)); exact BK61012.out))⟩; have n5_ : Aside0 (Below w.heap.size w w38) := ⟨(by rw [hw]; exact (by repeat (with_reducible first | exact HB.out | refine below_set ?_ GE61012.out)))⟩; clear hw; clear HO61011; clear BK61001; clear BK61002; clear BK61003; clear BK61012; clear HB; have HO61011 := n0_; have BK61001 := n1_; have BK61002 := n2_; have BK61003 := n3_; have BK61012 := n4_; have HB := n5_; clear n0_ n1_ n2_ n3_ n4_ n5_; have hcz39_0 : w38.cell? ⟨gb61012, 0, none⟩ = some (.int .i64 t61006) := (blk_cell BK61012.out 0).trans rfl; have hcz39_1 : w38.cell? ⟨gb61012, 1, none⟩ = some (.int .i64 t61007) := (blk_cell BK61012.out 1).trans rfl; have hcz39_2 : w38.cell? ⟨gb61012, 2, none⟩ = some (.int .i64 t61008) := (blk_cell BK61012.out 2).trans rfl; have hcz39_3 : w38.cell? ⟨gb61012, 3, none⟩ = some (.slice Ao37 t61009.length co37) := (blk_cell BK61012.out 3).trans rfl; have hfz39_0 := blk_frozen BK61012.out 0; have hfz39_1 := blk_frozen BK61012.out 1; have hfz39_2 := blk_frozen BK61012.out 2; have hfz39_3 := blk_frozen BK61012.out 3; have hnb40 := NB61002_61003.out; have hnc40 := NB61003_61002.out; have hcz41_0 : w38.cell? ⟨gb61002, 0, none⟩ = some (.int .i64 a1_0) := (blk_cell BK61002.out 0).trans rfl; have hcz41_1 : w38.cell? ⟨gb61002, 1, none⟩ = some (.int .i64 a1_1) := (blk_cell BK61002.out 1).trans rfl; have hcz41_2 : w38.cell? ⟨gb61002, 2, none⟩ = some (.int .i64 a1_2) := (blk_cell BK61002.out 2).trans rfl; have hcz41_3 : w38.cell? ⟨gb61002, 3, none⟩ = some (.slice A1_3 l1_3.length c1_3) := (blk_cell BK61002.out 3).trans rfl; have hcz41_4 : w38.cell? ⟨gb61002, 4, none⟩ = some (.int .i64 a1_4) := (blk_cell BK61002.out 4).trans rfl; have hcz41_5 : w38.cell? ⟨gb61002, 5, none⟩ = some (.int .i64 a1_5) := (blk_cell BK61002.out 5).trans rfl; have hcz41_6 : w38.cell? ⟨gb61002, 6, none⟩ = some (.int .i64 a1_6) := (blk_cell BK61002.out 6).trans rfl; have hcz41_7 : w38.cell? ⟨gb61002, 7, none⟩ = some (.int .i64 a1_7) := (blk_cell BK61002.out 7).trans rfl; have hcz41_8 : w38.cell? ⟨gb61002, 8, none⟩ = some (.bool a1_8) := (blk_cell BK61002.out 8).trans rfl; have hfz41_0 := blk_frozen BK61002.out 0; have hfz41_1 := blk_frozen BK61002.out 1; have hfz41_2 := blk_frozen BK61002.out 2; have hfz41_3 := blk_frozen BK61002.out 3; have hfz41_4 := blk_frozen BK61002.out 4; have hfz41_5 := blk_frozen BK61002.out 5; have hfz41_6 := blk_frozen BK61002.out 6; have hfz41_7 := blk_frozen BK61002.out 7; have hfz41_8 := blk_frozen BK61002.out 8) | ((with_reducible refine gate_callee (f := 114) rfl ?_); refine goesL_ (some 22) rfl rfl Try.func114 (by kernel_rfl) rfl #[.agg #[.int .i64 t61006, .int .i64 t61007, .int .i64 t61008, .slice Ao37 t61009.length co37], .agg #[.int .i64 a1_0, .int .i64 a1_1, .int .i64 a1_2, .slice A1_3 l1_3.length c1_3, .int .i64 a1_4, .int .i64 a1_5, .int .i64 a1_6, .int .i64 a1_7, .bool a1_8]] rfl (by (try simp only [List.map_toArray, List.map_cons, List.map_nil]); rfl) ?_; (with_reducible refine (spec_blendPaste.calls kj2 t61006 t61007 t61008 (fun k_ => some k_ = (.slice Ao37 t61009.length co37 : Value).ownBlock) (.slice Ao37 t61009.length co37) t61009 a1_0 a1_1 a1_2 _ _ l1_3 a1_4 a1_5 a1_6 a1_7 a1_8 t61013 w _ ?side1 ?side2 ?side3 ?side4 A27.out).mono ?_); (case side1 => repeat (with_reducible exact HB.out)); (case side2 => exact Kd.R_tight rfl HO61011.out); (case side3 => exact Kd.C_kept_came (Kd.heap_int .i64) HR1_3.out HB.out (fun k_ hs_ => (fun e_ => Kd.R_base HO61011.out k_ e_.symm) hs_)); (case side4 => exact HC1_3.out); rintro e w42 ⟨rfl, hy0, hb, hkp⟩; refine ⟨_, rfl, ?_⟩; have n0_ := Aside0.mk (blk_kept BK61001.out hkp (fun hs_ => (fun e_ => (Kd.R_ne HO61011.out BK61001.out (by decide)) e_) hs_)); have n1_ := Aside0.mk (blk_kept BK61002.out hkp (fun hs_ => (fun e_ => (Kd.R_ne HO61011.out BK61002.out (by decide)) e_) hs_)); have n2_ := Aside0.mk (blk_kept BK61003.out hkp (fun hs_ => (fun e_ => (Kd.R_ne HO61011.out BK61003.out (by decide)) e_) hs_)); have n3_ := Aside0.mk (Kd.R_reok rfl hy0 (fun k_ e_ => HO61011.out.1 k_ e_)); have n4_ := Aside0.mk (blk_kept BK61012.out hkp (fun hs_ => (fun e_ => (Kd.R_ne HO61011.out BK61012.out (by decide)) e_) hs_)); have n5_ := Aside0.mk (hb); clear BK61001; clear BK61002; clear BK61003; clear HO61011; clear BK61012; clear HB; have BK61001 := n0_; have BK61002 := n1_; have BK61003 := n2_; have HO61011 := n3_; have BK61012 := n4_; have HB := n5_; clear n0_ n1_ n2_ n3_ n4_ n5_; (try clear hb); (try clear hkp); (try clear hy0); have hcz43_0 : w42.cell? ⟨gb61012, 0, none⟩ = some (.int .i64 t61006) := (blk_cell BK61012.out 0).trans rfl; have hcz43_1 : w42.cell? ⟨gb61012, 1, none⟩ = some (.int .i64 t61007) := (blk_cell BK61012.out 1).trans rfl; have hcz43_2 : w42.cell? ⟨gb61012, 2, none⟩ = some (.int .i64 t61008) := (blk_cell BK61012.out 2).trans rfl; have hcz43_3 : w42.cell? ⟨gb61012, 3, none⟩ = some (.slice Ao37 t61009.length co37) := (blk_cell BK61012.out 3).trans rfl; have hfz43_0 := blk_frozen BK61012.out 0; have hfz43_1 := blk_frozen BK61012.out 1; have hfz43_2 := blk_frozen BK61012.out 2; have hfz43_3 := blk_frozen BK61012.out 3; have hcz44_0 : w42.cell? ⟨gb61003, 0, none⟩ = some (.int .i64 0) := (blk_cell BK61003.out 0).trans rfl; have hcz44_1 : w42.cell? ⟨gb61003, 1, none⟩ = some (.int .i64 0) := (blk_cell BK61003.out 1).trans rfl; have hcz44_2 : w42.cell? ⟨gb61003, 2, none⟩ = some (.int .i64 0) := (blk_cell BK61003.out 2).trans rfl; have hcz44_3 : w42.cell? ⟨gb61003, 3, none⟩ = some (.slice none 0 0) := (blk_cell BK61003.out 3).trans rfl; have hfz44_0 := blk_frozen BK61003.out 0; have hfz44_1 := blk_frozen BK61003.out 1; have hfz44_2 := blk_frozen BK61003.out 2; have hfz44_3 := blk_frozen BK61003.out 3))
        refine bodyPost_ret (results_ct rfl _ _ gb61003 27 #[.int .i64 t61006, .int .i64 t61007, .int .i64 t61008, .slice Ao37 t61009.length co37] (0, 0) _ rfl (by refine blk_put (cs := #[.int .i64 t61006, .int .i64 t61007, .int .i64 t61008, .slice none 0 0]) ?_ 3 _ rfl; (with_reducible repeat (first | refine blk_drewN ?_ _ | refine blk_drew ?_ | refine blk_alloc ?_ _)); refine blk_put (cs := #[.int .i64 t61006, .int .i64 t61007, .int .i64 0, .slice none 0 0]) ?_ 2 _ rfl; (with_reducible repeat (first | refine blk_drewN ?_ _ | refine blk_drew ?_ | refine blk_alloc ?_ _)); refine blk_put (cs := #[.int .i64 t61006, .int .i64 0, .int .i64 0, .slice none 0 0]) ?_ 1 _ rfl; (with_reducible repeat (first | refine blk_drewN ?_ _ | refine blk_drew ?_ | refine blk_alloc ?_ _)); refine blk_put (cs := #[.int .i64 0, .int .i64 0, .int .i64 0, .slice none 0 0]) ?_ 0 _ rfl; (with_reducible repeat (first | refine blk_drewN ?_ _ | refine blk_drew ?_ | refine blk_alloc ?_ _)); exact BK61003.out) Try.underlying27 rfl (by kernel_rfl)) rfl ?_
        exact ⟨_, by rfl, by (with_reducible repeat (first | apply Kd.R_alloc | apply Kd.R_drewN | apply Kd.R_drew)); exact Kd.R_mono (Kd.R_far (p := ⟨gb61003, 3, none⟩) (Kd.R_far (p := ⟨gb61003, 2, none⟩) (Kd.R_far (p := ⟨gb61003, 1, none⟩) (Kd.R_far (p := ⟨gb61003, 0, none⟩) (Kd.R_types HO61011.out BK61003.out (by decide)) (fun _ hk => hk.2) (.int .i64 t61006)) (fun _ hk => hk.2) (.int .i64 t61007)) (fun _ hk => hk.2) (.int .i64 t61008)) (fun _ hk => hk.2) (.slice Ao37 t61009.length co37)) (fun _ hk => trivial), by repeat (with_reducible first | exact HB.out | refine below_set ?_ GE61003.out)⟩


/-- A state of type 144 at block g of W; what its slices lead to came in by w0. -/
def IsS144 (w0 W : World) (g : Nat) (f0 : List Int) (f1 : Int) : Prop := ∃ A0 c0, W.heap[g]? = some (.cells #[.slice A0 f0.length c0, .int .i64 f1] 144 (0, 0)) ∧ w0.heap.size ≤ g ∧ Kd.C (Kd.int .u8) w0 A0 f0.length f0
theorem IsS144.grown {w0 W : World} {g : Nat} {f0 : List Int} {f1 : Int} {W1 : World} {row : Option Nat} (h : IsS144 w0 W g f0 f1) (hw : W.grownBy W1 row) (hne : some g ≠ row) : IsS144 w0 W1 g f0 f1 := by
  obtain ⟨A0, c0, hb, hg, hr0⟩ := h
  exact ⟨A0, c0, blk_grown hb hw hne, hg, hr0⟩
theorem IsS144.own_neN {w0 W : World} {g : Nat} {f0 : List Int} {f1 : Int} {α : Type} {d : Kd α} {e : Nat} {base : Nat} {ok : Nat → Prop} {v : Value} {xs : List α} (h : IsS144 w0 W g f0 f1) (ho : Kd.N d e W base ok v xs) (ht : e ≠ 144) : some g ≠ v.ownBlock := by
  obtain ⟨A0, c0, hb, hg, hr0⟩ := h
  exact Kd.N_ne ho hb ht
theorem IsS144.fresh {w0 W : World} {g : Nat} {f0 : List Int} {f1 : Int} (h : IsS144 w0 W g f0 f1) : ∀ k, W.heap.size ≤ k → k ≠ g := by
  obtain ⟨A0, c0, hb, hg, hr0⟩ := h
  exact Kd.freshB hb
theorem IsS144.kept {w0 W : World} {g : Nat} {f0 : List Int} {f1 : Int} {W1 : World} {S : Nat → Prop} (h : IsS144 w0 W g f0 f1) (hk : Kept W W1 S) (hne : ¬ S g) : IsS144 w0 W1 g f0 f1 := by
  obtain ⟨A0, c0, hb, hg, hr0⟩ := h
  exact ⟨A0, c0, blk_kept hb hk hne, hg, hr0⟩
theorem IsS144.below {w0 W : World} {g : Nat} {f0 : List Int} {f1 : Int} {W1 : World} (h : IsS144 w0 W g f0 f1) (hw : Below W.heap.size W W1) : IsS144 w0 W1 g f0 f1 := h.grown (grown_of_below hw none) (by simp)
theorem IsS144.alloc {w0 W : World} {g : Nat} {f0 : List Int} {f1 : Int} (h : IsS144 w0 W g f0 f1) (o : Obj) : IsS144 w0 (W.alloc o) g f0 f1 := h.below (below_alloc (Below.refl _ _) o)
theorem IsS144.drewN {w0 W : World} {g : Nat} {f0 : List Int} {f1 : Int} (h : IsS144 w0 W g f0 f1) (m : Nat) : IsS144 w0 (W.drewN m) g f0 f1 := h
theorem IsS144.drew {w0 W : World} {g : Nat} {f0 : List Int} {f1 : Int} (h : IsS144 w0 W g f0 f1) : IsS144 w0 W.drew g f0 f1 := h
theorem IsS144.at_ {w0 W : World} {g : Nat} {f0 : List Int} {f1 : Int} {w' : World} {m : Nat} (hq : W.drewN m = w') (h : IsS144 w0 W g f0 f1) : IsS144 w0 w' g f0 f1 := by subst hq; exact IsS144.drewN h m
theorem IsS144.apart {w0 W : World} {g : Nat} {f0 : List Int} {f1 : Int} {α : Type} {d : Kd α} {e : Nat} {base : Nat} {ok : Nat → Prop} {v : Value} {xs : List α} (h : IsS144 w0 W g f0 f1) (ho : d.R e W base ok v xs) (ht : ∀ q, q ∈ e :: d.E → q ≠ 144) : d.R e W base (fun k => ok k ∧ k ≠ g) v xs := by
  obtain ⟨A0, c0, hb, hg, hr0⟩ := h
  exact Kd.R_types ho hb ht
theorem IsS144.own_ne {w0 W : World} {g : Nat} {f0 : List Int} {f1 : Int} {α : Type} {d : Kd α} {e : Nat} {base : Nat} {ok : Nat → Prop} {v : Value} {xs : List α} (h : IsS144 w0 W g f0 f1) (ho : d.R e W base ok v xs) (ht : e ≠ 144) : some g ≠ v.ownBlock := by
  obtain ⟨A0, c0, hb, hg, hr0⟩ := h
  exact Kd.R_ne ho hb ht
theorem IsS144.apartQ {w0 W : World} {g : Nat} {f0 : List Int} {f1 : Int} {α : Type} {d : Kd α} {e : Nat} {base : Nat} {ok : Nat → Prop} {v : Value} {xs : List α} (h : IsS144 w0 W g f0 f1) (ho : d.Q e W base ok v xs) (ht : ∀ q, q ∈ e :: d.E → q ≠ 144) : d.Q e W base (fun k => ok k ∧ k ≠ g) v xs := by
  obtain ⟨A0, c0, hb, hg, hr0⟩ := h
  exact Kd.Q_types ho hb ht
theorem IsS144.own_neQ {w0 W : World} {g : Nat} {f0 : List Int} {f1 : Int} {α : Type} {d : Kd α} {e : Nat} {base : Nat} {ok : Nat → Prop} {v : Value} {xs : List α} (h : IsS144 w0 W g f0 f1) (ho : d.Q e W base ok v xs) (ht : e ≠ 144) : some g ≠ v.ownBlock := by
  obtain ⟨A0, c0, hb, hg, hr0⟩ := h
  exact Kd.Q_ne ho hb ht
theorem IsS144.apartS {w0 W : World} {g : Nat} {f0 : List Int} {f1 : Int} {α : Type} {d : Kd α} {e : Nat} {base : Nat} {ok : Nat → Prop} {v : Value} {xs : List α} (h : IsS144 w0 W g f0 f1) (ho : d.S e W base ok v xs) (ht : ∀ q, q ∈ e :: d.E → q ≠ 144) : d.S e W base (fun k => ok k ∧ k ≠ g) v xs := by
  obtain ⟨A0, c0, hb, hg, hr0⟩ := h
  exact Kd.S_types ho hb ht
theorem IsS144.own_neS {w0 W : World} {g : Nat} {f0 : List Int} {f1 : Int} {α : Type} {d : Kd α} {e : Nat} {base : Nat} {ok : Nat → Prop} {v : Value} {xs : List α} (h : IsS144 w0 W g f0 f1) (ho : d.S e W base ok v xs) (ht : e ≠ 144) : some g ≠ v.ownBlock := by
  obtain ⟨A0, c0, hb, hg, hr0⟩ := h
  exact Kd.S_ne ho hb ht
theorem IsS144.lt {w0 W : World} {g : Nat} {f0 : List Int} {f1 : Int} (h : IsS144 w0 W g f0 f1) : g < W.heap.size := by
  obtain ⟨A0, c0, hb, hg, hr0⟩ := h
  exact blk_lt hb
theorem IsS144.ge {w0 W : World} {g : Nat} {f0 : List Int} {f1 : Int} (h : IsS144 w0 W g f0 f1) : w0.heap.size ≤ g := by
  obtain ⟨A0, c0, hb, hg, hr0⟩ := h
  exact hg
theorem IsS144.ne_blk {w0 W : World} {g : Nat} {f0 : List Int} {f1 : Int} {a : Nat} {cs : Array Value} {t : TypeId} {fr : Nat × Nat} (h : IsS144 w0 W g f0 f1) (hb2 : W.heap[a]? = some (.cells cs t fr)) (ht : t ≠ 144) : g ≠ a := by
  obtain ⟨A0, c0, hb, hg, hr0⟩ := h
  rintro rfl
  rw [hb] at hb2
  injection hb2 with hb2
  injection hb2 with _ ht2
  exact ht ht2.symm
theorem IsS144.far {w0 W : World} {g : Nat} {f0 : List Int} {f1 : Int} {p : Addr} (h : IsS144 w0 W g f0 f1) (hne : g ≠ p.block) (u : Value) : IsS144 w0 (W.setCell p u) g f0 f1 := by
  obtain ⟨A0, c0, hb, hg, hr0⟩ := h
  exact ⟨A0, c0, blk_far hb hne u, hg, hr0⟩
theorem cellS144_0 {W : World} {g : Nat} {A0 : Option Addr} {c0 : Nat} {f0 : List Int} {f1 : Int} (h : W.heap[g]? = some (.cells #[.slice A0 f0.length c0, .int .i64 f1] 144 (0, 0))) : W.cell? ⟨g, 0, none⟩ = some (.slice A0 f0.length c0) := (blk_cell h 0).trans rfl
theorem cellS144_1 {W : World} {g : Nat} {A0 : Option Addr} {c0 : Nat} {f0 : List Int} {f1 : Int} (h : W.heap[g]? = some (.cells #[.slice A0 f0.length c0, .int .i64 f1] 144 (0, 0))) : W.cell? ⟨g, 1, none⟩ = some (.int .i64 f1) := (blk_cell h 1).trans rfl
theorem IsS144.set_1 {w0 W : World} {g : Nat} {f0 : List Int} {f1 : Int} (h : IsS144 w0 W g f0 f1) (x : Int) : IsS144 w0 (W.setCell ⟨g, 1, none⟩ (.int .i64 x)) g f0 x := by
  obtain ⟨A0, c0, hb, hg, hr0⟩ := h
  exact ⟨A0, c0, by simpa using blk_set hb 1 (.int .i64 x), hg, hr0⟩
theorem IsS144.new (w0 W : World) (A0 : Option Addr) (c0 : Nat) (f0 : List Int) (f1 : Int) (hB : Below w0.heap.size w0 W) (hr0 : Kd.C (Kd.int .u8) w0 A0 f0.length f0) : IsS144 w0 (W.alloc (.cells #[.slice A0 f0.length c0, .int .i64 f1] 144)) W.heap.size f0 f1 := ⟨A0, c0, by simpa using heap_alloc_new W _, hB.size, hr0⟩

def spec_reader_pick.j0 : Nat → Int → Bool → List Int → Int → Option (Int × Int)
  | 0, _, _, _, _ => none
  | k + 1, x1, x24, x1000, x1001 => if x24 = true then (some (0, x1001)) else (if (wrap64 (x1001 - 1)) < (x1000.length : Int) then (if 0 ≤ (wrap64 (x1001 - 1)) then (if x1 = 0 then (none) else (some (Int.tmod (wrap64 (rd x1000 (wrap64 (x1001 - 1)))) x1, x1001))) else (none)) else (if (x1000.length : Int) = 0 then (none) else (if 0 ≤ (Int.tmod (wrap64 (x1001 - 1)) (x1000.length : Int)) then (if (Int.tmod (wrap64 (x1001 - 1)) (x1000.length : Int)) < (x1000.length : Int) then (if 0 ≤ (Int.tmod (wrap64 ((wrap64 ((wrap64 (x1001 - 1)) * 7)) + 3)) (x1000.length : Int)) then (if (Int.tmod (wrap64 ((wrap64 ((wrap64 (x1001 - 1)) * 7)) + 3)) (x1000.length : Int)) < (x1000.length : Int) then (if x1 = 0 then (none) else (some (Int.tmod (Go.bits .xor .i64 (wrap64 ((wrap64 ((wrap64 ((wrap64 ((wrap64 (rd x1000 (Int.tmod (wrap64 (x1001 - 1)) (x1000.length : Int)))) * 131)) + (wrap64 ((wrap64 (rd x1000 (Int.tmod (wrap64 ((wrap64 ((wrap64 (x1001 - 1)) * 7)) + 3)) (x1000.length : Int)))) * 1117)))) + (wrap64 ((wrap64 (x1001 - 1)) * 29)))) + (wrap64 ((wrap64 (Int.tdiv (wrap64 (x1001 - 1)) (x1000.length : Int))) * 53)))) (wrap64 (Int.tdiv (wrap64 ((wrap64 ((wrap64 ((wrap64 ((wrap64 (rd x1000 (Int.tmod (wrap64 (x1001 - 1)) (x1000.length : Int)))) * 131)) + (wrap64 ((wrap64 (rd x1000 (Int.tmod (wrap64 ((wrap64 ((wrap64 (x1001 - 1)) * 7)) + 3)) (x1000.length : Int)))) * 1117)))) + (wrap64 ((wrap64 (x1001 - 1)) * 29)))) + (wrap64 ((wrap64 (Int.tdiv (wrap64 (x1001 - 1)) (x1000.length : Int))) * 53)))) 64))) x1, x1001))) else (none)) else (none)) else (none)) else (none))))
def spec_reader_pick.f (k : Nat) (s0_0 : List Int) (s0_1 : Int) (a1 : Int) : Option (Int × Int) := if a1 < 1 then (spec_reader_pick.j0 k a1 true s0_0 (wrap64 (s0_1 + 1))) else (spec_reader_pick.j0 k a1 ((s0_0.length : Int) == 0) s0_0 (wrap64 (s0_1 + 1)))
theorem spec_reader_pick.mono_l : ∀ k, (∀ y0 y1 y2 y3, LeO (spec_reader_pick.j0 k y0 y1 y2 y3) (spec_reader_pick.j0 (k + 1) y0 y1 y2 y3))
  | 0 => fun _ _ _ _ r h => by simp [spec_reader_pick.j0] at h
  | k + 1 => by
    have ih0 := spec_reader_pick.mono_l k
    · intro y0 y1 y2 y3
      unfold spec_reader_pick.j0
      repeat' first
      | (with_reducible exact ih0 _ _ _ _)
      | (with_reducible exact LeO.refl _)
      | (with_reducible exact LeO.none _)
      | (with_reducible refine LeO.ite ?_ ?_)
      | (with_reducible refine LeO.bind ?_ (fun _ => ?_))
      | exact ih0 _ _ _ _
      | exact LeO.none _
      | refine LeO.ite ?_ ?_
      | refine LeO.bind ?_ (fun _ => ?_)
theorem spec_reader_pick.mono : ∀ a0 a1 a2 k, LeO (spec_reader_pick.f k a0 a1 a2) (spec_reader_pick.f (k + 1) a0 a1 a2) := by
  intro a0 a1 a2 k
  have ih0 := spec_reader_pick.mono_l k
  unfold spec_reader_pick.f
  repeat' first
      | (with_reducible exact ih0 _ _ _ _)
      | (with_reducible exact LeO.refl _)
      | (with_reducible exact LeO.none _)
      | (with_reducible refine LeO.ite ?_ ?_)
      | (with_reducible refine LeO.bind ?_ (fun _ => ?_))
      | exact ih0 _ _ _ _
      | exact LeO.none _
      | refine LeO.ite ?_ ?_
      | refine LeO.bind ?_ (fun _ => ?_)
set_option maxHeartbeats 8000000 in
set_option maxRecDepth 100000 in
theorem spec_reader_pick.calls (k : Nat) (g : Nat) (s0_0 : List Int) (s0_1 : Int) (a1 : Int) (r1 : Int) (r2 : Int) (w0 w : World) (hI : IsS144 w0 w g s0_0 s0_1) (hB : Below w0.heap.size w0 w) (h : spec_reader_pick.f k s0_0 s0_1 a1 = some (r1, r2)) :
    Calls Try.prog 127 #[.pointer (some ⟨g, 0, none⟩), .int .i64 a1] w fun e w' => e = .returned (.int .i64 r1) ∧ IsS144 w0 w' g s0_0 r2 ∧ Below w0.heap.size w0 w' ∧ KeepBut w w' g none := by
  have HI0 := Aside0.mk hI
  have HK := Aside0.mk (KeepBut.refl w g none)
  have HL := Aside0.mk hB.size
  clear hI
  have HW0 := Aside0.mk hB.size
  have HB := Aside0.mk hB
  clear hB
  have H : (if a1 < 1 then (spec_reader_pick.j0 k a1 true s0_0 (wrap64 (s0_1 + 1))) else (spec_reader_pick.j0 k a1 ((s0_0.length : Int) == 0) s0_0 (wrap64 (s0_1 + 1)))) = some (r1, r2) := h
  clear h
  have HC3 := Aside0.mk H
  clear H
  obtain ⟨ASz4_0, cSz4_0, HGz4, hgz4, HSz4_0⟩ := HI0.out
  have hcz4_0 := cellS144_0 HGz4
  have hcz4_1 := cellS144_1 HGz4
  have hfz4_1 := blk_frozen HGz4 1
  clear HGz4 hgz4
  go_enter Try.func127, Try.ntmps127
  go_upto_region 2 with (fail)
  repeat (go_quiet (fail); go_upto_region 2 with (fail))
  go_cut [24] (fun v24 wc => ∃ (kq : Nat) (x24_2 : Bool), v24 = .bool x24_2 ∧ Aside0 (spec_reader_pick.j0 kq a1 x24_2 s0_0 (wrap64 (s0_1 + 1)) = some (r1, r2)) ∧ Aside0 (kq ≤ k) ∧ Aside0 (IsS144 w0 wc g s0_0 (wrap64 (s0_1 + 1))) ∧ Aside0 (KeepBut w wc g none) ∧ Aside0 (Below w0.heap.size w0 wc))
  case first =>
    have H := HC3.out
    clear HC3
    by_cases c5 : a1 < 1
    · rw [if_pos c5] at H
      have c5b0 : decide (a1 < 1) = true := decide_eq_true c5
      clear c5
      (first | rw [c5b0] | (simp only [i64_w, i32_w]; rw [c5b0]) | skip)
      have H' := Aside0.mk H
      clear H
      go_wp2
      repeat (go_quiet (fail); try go_wp2)
      go_meet
      case rel => exact ⟨_, (true), (by first | rfl | (simp; done) | (simp [*]; done)), H', ⟨by first | omega | exact Nat.le_refl _⟩, ⟨by repeat (first | (with_reducible first | exact HI0.out | apply IsS144.alloc | apply IsS144.drewN | apply IsS144.drew | apply IsS144.set_1) | exact HI0.out)⟩, ⟨by repeat (first | (with_reducible first | exact HK.out | apply KeepBut.set_ | apply keep_drewN | apply keep_drew | apply keep_alloc) | exact HK.out)⟩, ⟨by repeat (first | (with_reducible first | exact HB.out | apply below_alloc | apply pw_below_drewN | apply below_drew1 | refine below_set ?_ (IsS144.ge HI0.out)) | exact HB.out)⟩⟩
    · rw [if_neg c5] at H
      have c5b0 : decide (a1 < 1) = false := decide_eq_false c5
      clear c5
      (first | rw [c5b0] | (simp only [i64_w, i32_w]; rw [c5b0]) | skip)
      have H' := Aside0.mk H
      clear H
      obtain ⟨ASz6_0, cSz6_0, HGz6, hgz6, HSz6_0⟩ := HI0.out
      have hcz6_0 := cellS144_0 HGz6
      have hcz6_1 := cellS144_1 HGz6
      have hfz6_1 := blk_frozen HGz6 1
      clear HGz6 hgz6
      go_wp2
      repeat (go_quiet (fail); try go_wp2)
      go_meet
      case rel => exact ⟨_, (((s0_0.length : Int) == 0)), (by first | rfl | (simp; done) | (simp [*]; done)), H', ⟨by first | omega | exact Nat.le_refl _⟩, ⟨by repeat (first | (with_reducible first | exact HI0.out | apply IsS144.alloc | apply IsS144.drewN | apply IsS144.drew | apply IsS144.set_1) | exact HI0.out)⟩, ⟨by repeat (first | (with_reducible first | exact HK.out | apply KeepBut.set_ | apply keep_drewN | apply keep_drew | apply keep_alloc) | exact HK.out)⟩, ⟨by repeat (first | (with_reducible first | exact HB.out | apply below_alloc | apply pw_below_drewN | apply below_drew1 | refine below_set ?_ (IsS144.ge HI0.out)) | exact HB.out)⟩⟩
  case rest =>
    clear HC3
    try clear c1
    try clear p2
    try clear c5
    try clear c5b0
    try clear p6
    try clear hcz4_0
    try clear hcz4_1
    try clear hcz6_0
    try clear hcz6_1
    try clear hfz4_1
    try clear hfz6_1
    obtain ⟨kq, x24_2, rfl, HA, HJ2, HI0, HK, HB⟩ := hcut
    cases kq with
    | zero => exact absurd HA.out (by simp [spec_reader_pick.j0])
    | succ kj2 =>
      have H := HA.out
      clear HA
      simp only [spec_reader_pick.j0] at H
      by_cases c7 : x24_2 = true
      · subst c7
        have H1 : (some (0, (wrap64 (s0_1 + 1)))) = some (r1, r2) := by rw [if_pos rfl] at H; exact H
        clear H
        have H := H1
        clear H1
        simp only [Option.some.injEq, Prod.mk.injEq] at H
        obtain ⟨rfl, rfl⟩ := H
        go_wp2
        repeat (go_quiet (fail); try go_wp2)
        go_ret
        exact ⟨by first | rfl | (simp [errW_none, errW_some] <;> rfl) | (simp [*, errW_none, errW_some] <;> rfl), by repeat (first | (with_reducible first | exact HI0.out | apply IsS144.alloc | apply IsS144.drewN | apply IsS144.drew | apply IsS144.set_1) | exact HI0.out), by repeat (first | (with_reducible first | exact HB.out | apply below_alloc | apply pw_below_drewN | apply below_drew1 | refine below_set ?_ (IsS144.ge HI0.out)) | exact HB.out), by repeat (first | (with_reducible first | exact HK.out | apply KeepBut.set_ | apply keep_drewN | apply keep_drew | apply keep_alloc) | exact HK.out)⟩
      · replace c7 := Bool.eq_false_iff.mpr c7
        subst c7
        have H1 : (if (wrap64 ((wrap64 (s0_1 + 1)) - 1)) < (s0_0.length : Int) then (if 0 ≤ (wrap64 ((wrap64 (s0_1 + 1)) - 1)) then (if a1 = 0 then (none) else (some (Int.tmod (wrap64 (rd s0_0 (wrap64 ((wrap64 (s0_1 + 1)) - 1)))) a1, (wrap64 (s0_1 + 1))))) else (none)) else (if (s0_0.length : Int) = 0 then (none) else (if 0 ≤ (Int.tmod (wrap64 ((wrap64 (s0_1 + 1)) - 1)) (s0_0.length : Int)) then (if (Int.tmod (wrap64 ((wrap64 (s0_1 + 1)) - 1)) (s0_0.length : Int)) < (s0_0.length : Int) then (if 0 ≤ (Int.tmod (wrap64 ((wrap64 ((wrap64 ((wrap64 (s0_1 + 1)) - 1)) * 7)) + 3)) (s0_0.length : Int)) then (if (Int.tmod (wrap64 ((wrap64 ((wrap64 ((wrap64 (s0_1 + 1)) - 1)) * 7)) + 3)) (s0_0.length : Int)) < (s0_0.length : Int) then (if a1 = 0 then (none) else (some (Int.tmod (Go.bits .xor .i64 (wrap64 ((wrap64 ((wrap64 ((wrap64 ((wrap64 (rd s0_0 (Int.tmod (wrap64 ((wrap64 (s0_1 + 1)) - 1)) (s0_0.length : Int)))) * 131)) + (wrap64 ((wrap64 (rd s0_0 (Int.tmod (wrap64 ((wrap64 ((wrap64 ((wrap64 (s0_1 + 1)) - 1)) * 7)) + 3)) (s0_0.length : Int)))) * 1117)))) + (wrap64 ((wrap64 ((wrap64 (s0_1 + 1)) - 1)) * 29)))) + (wrap64 ((wrap64 (Int.tdiv (wrap64 ((wrap64 (s0_1 + 1)) - 1)) (s0_0.length : Int))) * 53)))) (wrap64 (Int.tdiv (wrap64 ((wrap64 ((wrap64 ((wrap64 ((wrap64 (rd s0_0 (Int.tmod (wrap64 ((wrap64 (s0_1 + 1)) - 1)) (s0_0.length : Int)))) * 131)) + (wrap64 ((wrap64 (rd s0_0 (Int.tmod (wrap64 ((wrap64 ((wrap64 ((wrap64 (s0_1 + 1)) - 1)) * 7)) + 3)) (s0_0.length : Int)))) * 1117)))) + (wrap64 ((wrap64 ((wrap64 (s0_1 + 1)) - 1)) * 29)))) + (wrap64 ((wrap64 (Int.tdiv (wrap64 ((wrap64 (s0_1 + 1)) - 1)) (s0_0.length : Int))) * 53)))) 64))) a1, (wrap64 (s0_1 + 1))))) else (none)) else (none)) else (none)) else (none)))) = some (r1, r2) := by rw [if_neg (show ¬ (false = true) by decide)] at H; exact H
        clear H
        have H := H1
        clear H1
        by_cases c8 : (wrap64 ((wrap64 (s0_1 + 1)) - 1)) < (s0_0.length : Int)
        · rw [if_pos c8] at H
          have c8b0 : decide ((wrap64 ((wrap64 (s0_1 + 1)) - 1)) < (s0_0.length : Int)) = true := decide_eq_true c8
          clear c8
          obtain ⟨ji9, hji9⟩ : ∃ j_ : Int, (wrap64 ((wrap64 (s0_1 + 1)) - 1)) = j_ := ⟨_, rfl⟩
          replace H : (if 0 ≤ (ji9) then (if a1 = 0 then (none) else (some (Int.tmod (wrap64 (rd s0_0 (ji9))) a1, (wrap64 (s0_1 + 1))))) else (none)) = some (r1, r2) := by first | (rw [hji9] at H; exact H) | (simp only [hji9] at H ⊢; exact H)
          (try rw [hji9] at c8b0)
          have hji9w : (IntKind.i64.wrap ((wrap64 (s0_1 + 1)) - 1)) = ji9 := (i64_w _).trans hji9
          by_cases c10 : 0 ≤ (ji9)
          · rw [if_pos c10] at H
            have c10b0 : decide (0 ≤ (ji9)) = true := decide_eq_true c10
            clear c10
            by_cases c11 : a1 = 0
            · rw [if_pos c11] at H
              exact absurd H (by simp)
            · rw [if_neg c11] at H
              have c11b0 : (a1 == 0) = false := beq_eq_false_iff_ne.mpr c11
              have c11b1 : (a1 != 0) = true := bne_iff_ne.mpr c11
              simp only [Option.some.injEq, Prod.mk.injEq] at H
              obtain ⟨rfl, rfl⟩ := H
              obtain ⟨ASz12_0, cSz12_0, HGz12, hgz12, HSz12_0⟩ := HI0.out
              have hcz12_0 := cellS144_0 HGz12
              have hcz12_1 := cellS144_1 HGz12
              have hfz12_1 := blk_frozen HGz12 1
              clear HGz12 hgz12
              have p128001 : 0 ≤ ((ji9) : Int) := of_decide_eq_true (by first | (with_reducible assumption) | assumption)
              have q128001 : (ji9) < (s0_0.length : Int) := of_decide_eq_true (by first | (with_reducible assumption) | assumption)
              obtain ⟨ad128001, e128001, hx128001_0⟩ := Kd.at_int HSz12_0 (ji9) p128001 q128001
              cases e128001
              replace hx128001_0 := pw_cell_below HB.out hx128001_0
              replace p128001 := eq_true p128001
              replace q128001 := eq_true q128001
              go_wp2
              repeat (go_quiet (fail); try go_wp2)
              go_ret
              exact ⟨by first | rfl | (simp [errW_none, errW_some] <;> rfl) | (simp only [← hji9]; first | rfl | (simp [errW_none, errW_some] <;> rfl)) | (simp [*, errW_none, errW_some] <;> rfl), by repeat (first | (with_reducible first | exact HI0.out | apply IsS144.alloc | apply IsS144.drewN | apply IsS144.drew | apply IsS144.set_1) | exact HI0.out), by repeat (first | (with_reducible first | exact HB.out | apply below_alloc | apply pw_below_drewN | apply below_drew1 | refine below_set ?_ (IsS144.ge HI0.out)) | exact HB.out), by repeat (first | (with_reducible first | exact HK.out | apply KeepBut.set_ | apply keep_drewN | apply keep_drew | apply keep_alloc) | exact HK.out)⟩
          · rw [if_neg c10] at H
            exact absurd H (by simp)
        · rw [if_neg c8] at H
          have c8b0 : decide ((wrap64 ((wrap64 (s0_1 + 1)) - 1)) < (s0_0.length : Int)) = false := decide_eq_false c8
          clear c8
          by_cases c13 : (s0_0.length : Int) = 0
          · rw [if_pos c13] at H
            exact absurd H (by simp)
          · rw [if_neg c13] at H
            have c13b0 : ((s0_0.length : Int) == 0) = false := beq_eq_false_iff_ne.mpr c13
            have c13b1 : ((s0_0.length : Int) != 0) = true := bne_iff_ne.mpr c13
            have c13b2 : ¬ (s0_0 = []) := fun h_ => c13 (by rw [h_]; rfl)
            obtain ⟨ji14, hji14⟩ : ∃ j_ : Int, (Int.tmod (wrap64 ((wrap64 (s0_1 + 1)) - 1)) (s0_0.length : Int)) = j_ := ⟨_, rfl⟩
            replace H : (if 0 ≤ (ji14) then (if (ji14) < (s0_0.length : Int) then (if 0 ≤ (Int.tmod (wrap64 ((wrap64 ((wrap64 ((wrap64 (s0_1 + 1)) - 1)) * 7)) + 3)) (s0_0.length : Int)) then (if (Int.tmod (wrap64 ((wrap64 ((wrap64 ((wrap64 (s0_1 + 1)) - 1)) * 7)) + 3)) (s0_0.length : Int)) < (s0_0.length : Int) then (if a1 = 0 then (none) else (some (Int.tmod (Go.bits .xor .i64 (wrap64 ((wrap64 ((wrap64 ((wrap64 ((wrap64 (rd s0_0 (ji14))) * 131)) + (wrap64 ((wrap64 (rd s0_0 (Int.tmod (wrap64 ((wrap64 ((wrap64 ((wrap64 (s0_1 + 1)) - 1)) * 7)) + 3)) (s0_0.length : Int)))) * 1117)))) + (wrap64 ((wrap64 ((wrap64 (s0_1 + 1)) - 1)) * 29)))) + (wrap64 ((wrap64 (Int.tdiv (wrap64 ((wrap64 (s0_1 + 1)) - 1)) (s0_0.length : Int))) * 53)))) (wrap64 (Int.tdiv (wrap64 ((wrap64 ((wrap64 ((wrap64 ((wrap64 (rd s0_0 (ji14))) * 131)) + (wrap64 ((wrap64 (rd s0_0 (Int.tmod (wrap64 ((wrap64 ((wrap64 ((wrap64 (s0_1 + 1)) - 1)) * 7)) + 3)) (s0_0.length : Int)))) * 1117)))) + (wrap64 ((wrap64 ((wrap64 (s0_1 + 1)) - 1)) * 29)))) + (wrap64 ((wrap64 (Int.tdiv (wrap64 ((wrap64 (s0_1 + 1)) - 1)) (s0_0.length : Int))) * 53)))) 64))) a1, (wrap64 (s0_1 + 1))))) else (none)) else (none)) else (none)) else (none)) = some (r1, r2) := by first | (rw [hji14] at H; exact H) | (simp only [hji14] at H ⊢; exact H)
            by_cases c15 : 0 ≤ (ji14)
            · rw [if_pos c15] at H
              have c15b0 : decide (0 ≤ (ji14)) = true := decide_eq_true c15
              clear c15
              by_cases c16 : (ji14) < (s0_0.length : Int)
              · rw [if_pos c16] at H
                have c16b0 : decide ((ji14) < (s0_0.length : Int)) = true := decide_eq_true c16
                clear c16
                obtain ⟨ji17, hji17⟩ : ∃ j_ : Int, (Int.tmod (wrap64 ((wrap64 ((wrap64 ((wrap64 (s0_1 + 1)) - 1)) * 7)) + 3)) (s0_0.length : Int)) = j_ := ⟨_, rfl⟩
                replace H : (if 0 ≤ (ji17) then (if (ji17) < (s0_0.length : Int) then (if a1 = 0 then (none) else (some (Int.tmod (Go.bits .xor .i64 (wrap64 ((wrap64 ((wrap64 ((wrap64 ((wrap64 (rd s0_0 (ji14))) * 131)) + (wrap64 ((wrap64 (rd s0_0 (ji17))) * 1117)))) + (wrap64 ((wrap64 ((wrap64 (s0_1 + 1)) - 1)) * 29)))) + (wrap64 ((wrap64 (Int.tdiv (wrap64 ((wrap64 (s0_1 + 1)) - 1)) (s0_0.length : Int))) * 53)))) (wrap64 (Int.tdiv (wrap64 ((wrap64 ((wrap64 ((wrap64 ((wrap64 (rd s0_0 (ji14))) * 131)) + (wrap64 ((wrap64 (rd s0_0 (ji17))) * 1117)))) + (wrap64 ((wrap64 ((wrap64 (s0_1 + 1)) - 1)) * 29)))) + (wrap64 ((wrap64 (Int.tdiv (wrap64 ((wrap64 (s0_1 + 1)) - 1)) (s0_0.length : Int))) * 53)))) 64))) a1, (wrap64 (s0_1 + 1))))) else (none)) else (none)) = some (r1, r2) := by first | (rw [hji17] at H; exact H) | (simp only [hji17] at H ⊢; exact H)
                by_cases c18 : 0 ≤ (ji17)
                · rw [if_pos c18] at H
                  have c18b0 : decide (0 ≤ (ji17)) = true := decide_eq_true c18
                  clear c18
                  by_cases c19 : (ji17) < (s0_0.length : Int)
                  · rw [if_pos c19] at H
                    have c19b0 : decide ((ji17) < (s0_0.length : Int)) = true := decide_eq_true c19
                    clear c19
                    by_cases c20 : a1 = 0
                    · rw [if_pos c20] at H
                      exact absurd H (by simp)
                    · rw [if_neg c20] at H
                      have c20b0 : (a1 == 0) = false := beq_eq_false_iff_ne.mpr c20
                      have c20b1 : (a1 != 0) = true := bne_iff_ne.mpr c20
                      simp only [Option.some.injEq, Prod.mk.injEq] at H
                      obtain ⟨rfl, rfl⟩ := H
                      obtain ⟨ASz21_0, cSz21_0, HGz21, hgz21, HSz21_0⟩ := HI0.out
                      have hcz21_0 := cellS144_0 HGz21
                      have hcz21_1 := cellS144_1 HGz21
                      have hfz21_1 := blk_frozen HGz21 1
                      clear HGz21 hgz21
                      have p128002 : 0 ≤ ((ji14) : Int) := of_decide_eq_true (by first | (with_reducible assumption) | assumption)
                      have q128002 : (ji14) < (s0_0.length : Int) := of_decide_eq_true (by first | (with_reducible assumption) | assumption)
                      obtain ⟨ad128002, e128002, hx128002_0⟩ := Kd.at_int HSz21_0 (ji14) p128002 q128002
                      cases e128002
                      replace hx128002_0 := pw_cell_below HB.out hx128002_0
                      replace p128002 := eq_true p128002
                      replace q128002 := eq_true q128002
                      have p128003 : 0 ≤ ((ji17) : Int) := of_decide_eq_true (by first | (with_reducible assumption) | assumption)
                      have q128003 : (ji17) < (s0_0.length : Int) := of_decide_eq_true (by first | (with_reducible assumption) | assumption)
                      obtain ⟨ad128003, e128003, hx128003_0⟩ := Kd.at_int HSz21_0 (ji17) p128003 q128003
                      obtain rfl : ad128002 = ad128003 := (by injection e128003)
                      replace hx128003_0 := pw_cell_below HB.out hx128003_0
                      replace p128003 := eq_true p128003
                      replace q128003 := eq_true q128003
                      go_wp2
                      repeat (go_quiet (fail); try go_wp2)
                      go_ret
                      exact ⟨by first | rfl | (simp [errW_none, errW_some] <;> rfl) | (simp only [← hji14, ← hji17]; first | rfl | (simp [errW_none, errW_some] <;> rfl)) | (simp [*, errW_none, errW_some] <;> rfl), by repeat (first | (with_reducible first | exact HI0.out | apply IsS144.alloc | apply IsS144.drewN | apply IsS144.drew | apply IsS144.set_1) | exact HI0.out), by repeat (first | (with_reducible first | exact HB.out | apply below_alloc | apply pw_below_drewN | apply below_drew1 | refine below_set ?_ (IsS144.ge HI0.out)) | exact HB.out), by repeat (first | (with_reducible first | exact HK.out | apply KeepBut.set_ | apply keep_drewN | apply keep_drew | apply keep_alloc) | exact HK.out)⟩
                  · rw [if_neg c19] at H
                    exact absurd H (by simp)
                · rw [if_neg c18] at H
                  exact absurd H (by simp)
              · rw [if_neg c16] at H
                exact absurd H (by simp)
            · rw [if_neg c15] at H
              exact absurd H (by simp)


def spec_newReader.f (l0 : List Int) : Option (List Int × Int) := if (l0.length : Int) > 2000 then (if 2000 ≤ (l0.length : Int) then (some (l0.take 2000, 0)) else (none)) else (some (l0, 0))
set_option maxHeartbeats 8000000 in
set_option maxRecDepth 100000 in
theorem spec_newReader.calls (A0 : Option Addr) (c0 : Nat) (l0 : List Int) (r1 : List Int) (r2 : Int) (w0 w : World) (hB : Below w0.heap.size w0 w) (hr0 : Kd.C (Kd.int .u8) w0 A0 l0.length l0) (hc0 : l0.length ≤ c0) (h : spec_newReader.f l0 = some (r1, r2)) :
    Calls Try.prog 86 #[.slice A0 l0.length c0] w fun e w' => ∃ g_ : Nat, e = .returned (.pointer (some ⟨g_, 0, none⟩)) ∧ IsS144 w0 w' g_ r1 r2 ∧ Below w0.heap.size w0 w' ∧ Below w.heap.size w w' := by
  have hu144 := Try.underlying144
  have HR0 := Aside0.mk hr0
  have HC0 := Aside0.mk hc0
  clear hr0 hc0
  have HBW := Aside0.mk (Below.refl w.heap.size w)
  have HW0 := Aside0.mk hB.size
  have HB := Aside0.mk hB
  clear hB
  have H : (if (l0.length : Int) > 2000 then (if 2000 ≤ (l0.length : Int) then (some (l0.take 2000, 0)) else (none)) else (some (l0, 0))) = some (r1, r2) := h
  clear h
  by_cases c2 : (l0.length : Int) > 2000
  · rw [if_pos c2] at H
    have c2b0 : decide (2000 < (l0.length : Int)) = true := decide_eq_true c2
    have c2b1 : decide (2000 < l0.length) = true := decide_eq_true (by omega)
    clear c2
    by_cases c3 : 2000 ≤ (l0.length : Int)
    · rw [if_pos c3] at H
      have c3b0 := eq_true c3
      have c3b1 : decide (2000 ≤ (l0.length : Int)) = true := decide_eq_true c3
      clear c3
      simp only [Option.some.injEq, Prod.mk.injEq] at H
      obtain ⟨rfl, rfl⟩ := H
      obtain ⟨i04, hi04, _, hsz4, _⟩ := info_parts info5
      obtain ⟨hcut4, hA4, hC4⟩ := print_take_of (P := Try.prog) (Value.int .u8) 0 31 5 .i64 Try.underlying31 hi04 hsz4 A0 c0 l0 2000 (by omega) (of_decide_eq_true (by first | (with_reducible assumption) | assumption)) HC0.out
      have HR87001 := Aside0.mk (Kd.C_of_reads (h1 := fun _ => rfl) (hA4 _ (Kd.reads_of_C HR0.out)))
      have HC87001 := Aside0.mk hC4
      clear hA4 hC4 hi04 hsz4
      go_enter Try.func86, Try.ntmps86
      go_wp2_with (first | ((with_reducible refine gate_dst (N := 10) rfl ?_); refine box_event ?hg (N := 10) ?hd (cs := #[.slice A0 (l0.take 2000).length c0, .int .i64 0]) (t := 144) ?hr ?_; (case hd => rfl); (case hg => rfl); (case hr => first | (go_simp; done) | (go_simp; rfl)); intro gb87002 hg w5 hbox hb; have n0_ := Aside0.mk (below_step HBW.out hb); have n1_ := Aside0.mk (below_step (by repeat (first | (with_reducible first | exact HB.out | apply below_alloc | apply pw_below_drewN | apply below_drew1) | exact HB.out)) hb); have n2_ := Aside0.mk (hbox); have n3_ := Aside0.mk ((by rw [hg]; exact (below_size (by repeat (first | (with_reducible first | exact HBW.out | apply below_alloc | apply pw_below_drewN | apply below_drew1) | exact HBW.out))) : w.heap.size ≤ gb87002)); have n4_ := Aside0.mk ((Nat.le_trans HW0.out (by rw [hg]; exact (below_size (by repeat (first | (with_reducible first | exact HBW.out | apply below_alloc | apply pw_below_drewN | apply below_drew1) | exact HBW.out))) : w.heap.size ≤ gb87002) : w0.heap.size ≤ gb87002)); clear HBW; clear HB; have HBW := n0_; have HB := n1_; have BK87002 := n2_; have GW87002 := n3_; have GE87002 := n4_; clear n0_ n1_ n2_ n3_ n4_; clear hb hbox hg))
      go_ret
      exact ⟨_, rfl, (show IsS144 w0 _ gb87002 (l0.take 2000) 0 from ⟨_, _, by (with_reducible repeat (first | refine blk_drewN ?_ _ | refine blk_drew ?_ | refine blk_alloc ?_ _)); exact BK87002.out, GE87002.out, HR87001.out⟩), by repeat (first | (with_reducible first | exact HB.out | apply below_alloc | apply pw_below_drewN | apply below_drew1 | refine below_set ?_ GE87002.out) | exact HB.out), by repeat (first | (with_reducible first | exact HBW.out | apply below_alloc | apply pw_below_drewN | apply below_drew1 | refine below_set ?_ GW87002.out) | exact HBW.out)⟩
    · rw [if_neg c3] at H
      exact absurd H (by simp)
  · rw [if_neg c2] at H
    have c2b0 : decide (2000 < (l0.length : Int)) = false := decide_eq_false c2
    have c2b1 : decide (2000 < l0.length) = false := decide_eq_false (by omega)
    clear c2
    simp only [Option.some.injEq, Prod.mk.injEq] at H
    obtain ⟨rfl, rfl⟩ := H
    go_enter Try.func86, Try.ntmps86
    go_wp2_with (first | ((with_reducible refine gate_dst (N := 10) rfl ?_); refine box_event ?hg (N := 10) ?hd (cs := #[.slice A0 l0.length c0, .int .i64 0]) (t := 144) ?hr ?_; (case hd => rfl); (case hg => rfl); (case hr => first | (go_simp; done) | (go_simp; rfl)); intro gb87003 hg w6 hbox hb; have n0_ := Aside0.mk (below_step HBW.out hb); have n1_ := Aside0.mk (below_step (by repeat (first | (with_reducible first | exact HB.out | apply below_alloc | apply pw_below_drewN | apply below_drew1) | exact HB.out)) hb); have n2_ := Aside0.mk (hbox); have n3_ := Aside0.mk ((by rw [hg]; exact (below_size (by repeat (first | (with_reducible first | exact HBW.out | apply below_alloc | apply pw_below_drewN | apply below_drew1) | exact HBW.out))) : w.heap.size ≤ gb87003)); have n4_ := Aside0.mk ((Nat.le_trans HW0.out (by rw [hg]; exact (below_size (by repeat (first | (with_reducible first | exact HBW.out | apply below_alloc | apply pw_below_drewN | apply below_drew1) | exact HBW.out))) : w.heap.size ≤ gb87003) : w0.heap.size ≤ gb87003)); clear HBW; clear HB; have HBW := n0_; have HB := n1_; have BK87003 := n2_; have GW87003 := n3_; have GE87003 := n4_; clear n0_ n1_ n2_ n3_ n4_; clear hb hbox hg))
    go_ret
    exact ⟨_, rfl, (show IsS144 w0 _ gb87003 l0 0 from ⟨_, _, by (with_reducible repeat (first | refine blk_drewN ?_ _ | refine blk_drew ?_ | refine blk_alloc ?_ _)); exact BK87003.out, GE87003.out, HR0.out⟩), by repeat (first | (with_reducible first | exact HB.out | apply below_alloc | apply pw_below_drewN | apply below_drew1 | refine below_set ?_ GE87003.out) | exact HB.out), by repeat (first | (with_reducible first | exact HBW.out | apply below_alloc | apply pw_below_drewN | apply below_drew1 | refine below_set ?_ GW87003.out) | exact HBW.out)⟩


def spec_reader_one.f (k : Nat) (s0_0 : List Int) (s0_1 : Int) (l1 : List Int) : Option (Int × Int) := (spec_reader_pick.f k s0_0 s0_1 (l1.length : Int)).bind fun bt148001 => (if 0 ≤ bt148001.1 then (if bt148001.1 < (l1.length : Int) then (some (rd l1 bt148001.1, bt148001.2)) else (none)) else (none))
theorem spec_reader_one.mono : ∀ a0 a1 a2 k, LeO (spec_reader_one.f k a0 a1 a2) (spec_reader_one.f (k + 1) a0 a1 a2) := by
  intro a0 a1 a2 k
  unfold spec_reader_one.f
  repeat' first
      | (with_reducible exact spec_reader_pick.mono _ _ _ _)
      | (with_reducible exact LeO.refl _)
      | (with_reducible exact LeO.none _)
      | (with_reducible refine LeO.ite ?_ ?_)
      | (with_reducible refine LeO.bind ?_ (fun _ => ?_))
      | exact spec_reader_pick.mono _ _ _ _
      | exact LeO.none _
      | refine LeO.ite ?_ ?_
      | refine LeO.bind ?_ (fun _ => ?_)
set_option maxHeartbeats 8000000 in
set_option maxRecDepth 100000 in
theorem spec_reader_one.calls (k : Nat) (g : Nat) (s0_0 : List Int) (s0_1 : Int) (A1 : Option Addr) (c1 : Nat) (l1 : List Int) (r1 : Int) (r2 : Int) (w0 w : World) (hI : IsS144 w0 w g s0_0 s0_1) (hB : Below w0.heap.size w0 w) (hr1 : Kd.C (Kd.int .i64) w A1 l1.length l1) (hc1 : l1.length ≤ c1) (hf1 : ∀ ad, A1 = some ad → 0 < l1.length → ad.block ≠ g) (h : spec_reader_one.f k s0_0 s0_1 l1 = some (r1, r2)) :
    Calls Try.prog 147 #[.pointer (some ⟨g, 0, none⟩), .slice A1 l1.length c1] w fun e w' => e = .returned (.int .i64 r1) ∧ IsS144 w0 w' g s0_0 r2 ∧ Below w0.heap.size w0 w' ∧ KeepBut w w' g none := by
  have HR1 := Aside0.mk hr1
  have HC1 := Aside0.mk hc1
  clear hr1 hc1
  have HI0 := Aside0.mk hI
  have HK := Aside0.mk (KeepBut.refl w g none)
  have HL := Aside0.mk hB.size
  clear hI
  have HW0 := Aside0.mk hB.size
  have HB := Aside0.mk hB
  clear hB
  have H : ((spec_reader_pick.f k s0_0 s0_1 (l1.length : Int)).bind fun bt148001 => (if 0 ≤ bt148001.1 then (if bt148001.1 < (l1.length : Int) then (some (rd l1 bt148001.1, bt148001.2)) else (none)) else (none))) = some (r1, r2) := h
  clear h
  replace H := Option.bind_eq_some_iff.mp H
  obtain ⟨⟨t148001, t148002⟩, A30, H⟩ := H
  replace H : (if 0 ≤ t148001 then (if t148001 < (l1.length : Int) then (some (rd l1 t148001, t148002)) else (none)) else (none)) = some (r1, r2) := H
  have A3 := Aside0.mk A30
  clear A30
  by_cases c4 : 0 ≤ t148001
  · rw [if_pos c4] at H
    have c4b0 : decide (0 ≤ t148001) = true := decide_eq_true c4
    clear c4
    by_cases c5 : t148001 < (l1.length : Int)
    · rw [if_pos c5] at H
      have c5b0 : decide (t148001 < (l1.length : Int)) = true := decide_eq_true c5
      clear c5
      simp only [Option.some.injEq, Prod.mk.injEq] at H
      obtain ⟨rfl, rfl⟩ := H
      go_enter Try.func147, Try.ntmps147
      go_wp2_with (first | ((with_reducible refine gate_callee (f := 127) rfl ?_); refine goesL_ (some 9) rfl rfl Try.func127 (by kernel_rfl) rfl #[.pointer (some ⟨g, 0, none⟩), .int .i64 (l1.length : Int)] rfl (by (try simp only [List.map_toArray, List.map_cons, List.map_nil]); first | done | rfl | (simp only [List.length_drop, List.length_take]; rfl)) ?_; (with_reducible refine (spec_reader_pick.calls k g s0_0 s0_1 (l1.length : Int) t148001 t148002 w0 _ ?side1 ?side2 A3.out).mono ?_); (case side1 => repeat (first | (with_reducible first | exact HI0.out | apply IsS144.alloc | apply IsS144.drewN | apply IsS144.drew | apply IsS144.set_1) | exact HI0.out)); (case side2 => repeat (first | (with_reducible first | exact HB.out | apply below_alloc | apply pw_below_drewN | apply below_drew1 | refine below_set ?_ (IsS144.ge HI0.out)) | exact HB.out)); rintro e w6 ⟨rfl, hi, hb, hk⟩; refine ⟨_, rfl, ?_⟩; have n0_ := Aside0.mk (KeepBut.trans (by repeat (first | (with_reducible first | exact HK.out | apply KeepBut.set_ | apply keep_drewN | apply keep_drew | apply keep_alloc) | exact HK.out)) hk (.inl rfl)); have n1_ := Aside0.mk (hb); have n2_ := Aside0.mk (hi); clear HK; clear HB; clear HI0; have HK := n0_; have HB := n1_; have HI0 := n2_; clear n0_ n1_ n2_; (try clear hb); (try clear hb2); (try clear hk); (try clear hi); have p148003 : 0 ≤ (t148001 : Int) := of_decide_eq_true (by first | (with_reducible assumption) | assumption); have q148003 : t148001 < (l1.length : Int) := of_decide_eq_true (by first | (with_reducible assumption) | assumption); obtain ⟨ad148003, e148003, hx148003_0⟩ := Kd.at_int HR1.out t148001 p148003 q148003; cases e148003; replace hx148003_0 := keep_cell HK.out hx148003_0 (by first | (rw [add_block]; exact hf1 _ rfl (by omega)) | exact hf1 _ rfl (by omega) | exact hf1 ad148003 rfl (by omega)); replace p148003 := eq_true p148003; replace q148003 := eq_true q148003))
      go_ret
      exact ⟨by first | rfl | (simp [errW_none, errW_some] <;> rfl) | (simp [*, errW_none, errW_some] <;> rfl), by repeat (first | (with_reducible first | exact HI0.out | apply IsS144.alloc | apply IsS144.drewN | apply IsS144.drew | apply IsS144.set_1) | exact HI0.out), by repeat (first | (with_reducible first | exact HB.out | apply below_alloc | apply pw_below_drewN | apply below_drew1 | refine below_set ?_ (IsS144.ge HI0.out)) | exact HB.out), by repeat (first | (with_reducible first | exact HK.out | apply KeepBut.set_ | apply keep_drewN | apply keep_drew | apply keep_alloc) | exact HK.out)⟩
    · rw [if_neg c5] at H
      exact absurd H (by simp)
  · rw [if_neg c4] at H
    exact absurd H (by simp)


def spec_spoilImage.f (k : Nat) (s0_0 : List Int) (s0_1 : Int) (a1_0 : Int) (a1_1 : Int) (a1_2 : Int) (l1_3 : List Int) : Option (Int × Int × Int × List Int × Int) := (spec_reader_pick.f k s0_0 s0_1 40).bind fun bt137003 => (if bt137003.1 = 0 then ((spec_reader_one.f k s0_0 bt137003.2 (([0, 17, wrap64 (a1_0 + 1)] : List Int))).bind fun bt137008 => (some (bt137008.1, a1_1, a1_2, l1_3, bt137008.2))) else (if bt137003.1 = 1 then (if 1 ≤ (l1_3.length : Int) then (some (a1_0, a1_1, a1_2, (l1_3.drop (1 : Int).toNat), bt137003.2)) else none) else (if bt137003.1 = 2 then ((spec_reader_one.f k s0_0 bt137003.2 (([(-1), 256] : List Int))).bind fun bt137016 => (if 0 < (l1_3.length : Int) then (some (a1_0, a1_1, a1_2, (l1_3.set (0 : Int).toNat bt137016.1), bt137016.2)) else none)) else (if bt137003.1 = 3 then ((spec_reader_one.f k s0_0 bt137003.2 ([0, 5] : List Int)).bind fun bt137022 => (some (a1_0, a1_1, bt137022.1, l1_3, bt137022.2))) else (some (a1_0, a1_1, a1_2, l1_3, bt137003.2))))))
theorem spec_spoilImage.mono : ∀ a0 a1 a2 a3 a4 a5 k, LeO (spec_spoilImage.f k a0 a1 a2 a3 a4 a5) (spec_spoilImage.f (k + 1) a0 a1 a2 a3 a4 a5) := by
  intro a0 a1 a2 a3 a4 a5 k
  unfold spec_spoilImage.f
  repeat' first | (with_reducible exact spec_reader_one.mono _ _ _ _) | (with_reducible exact spec_reader_pick.mono _ _ _ _) | (with_reducible exact LeO.refl _) | (with_reducible refine LeO.ite ?_ ?_) | (with_reducible refine LeO.bind ?_ (fun _ => ?_))
set_option maxHeartbeats 8000000 in
set_option maxRecDepth 100000 in
theorem spec_spoilImage.calls (k : Nat) (g : Nat) (s0_0 : List Int) (s0_1 : Int) (a1_0 : Int) (a1_1 : Int) (a1_2 : Int) (P1_3_ : Nat → Prop) (u9000_ : Value) (l1_3 : List Int) (r1 : Int) (r2 : Int) (r3 : Int) (r4 : List Int) (r5 : Int) (w0 w : World) (hI : IsS144 w0 w g s0_0 s0_1) (hB : Below w0.heap.size w0 w) (ho1_3 : Kd.R (Kd.int .i64) 3 w w0.heap.size P1_3_ u9000_ l1_3) (h : spec_spoilImage.f k s0_0 s0_1 a1_0 a1_1 a1_2 l1_3 = some (r1, r2, r3, r4, r5)) :
    Calls Try.prog 136 #[.pointer (some ⟨g, 0, none⟩), .agg #[.int .i64 a1_0, .int .i64 a1_1, .int .i64 a1_2, u9000_]] w fun e w' => ∃ v3_ : Value, e = .returned (.agg #[.int .i64 r1, .int .i64 r2, .int .i64 r3, v3_]) ∧ Kd.Q (Kd.int .i64) 3 w' w0.heap.size (fun k_ => (P1_3_ k_ ∨ w.heap.size ≤ k_)) v3_ r4 ∧ IsS144 w0 w' g s0_0 r5 ∧ Below w0.heap.size w0 w' ∧ Kept w w' (fun k_ => (P1_3_ k_) ∨ k_ = g) := by
  have hu27 := Try.underlying27
  have HO1_3 := Aside0.mk (show Kd.R (Kd.int .i64) 3 w w0.heap.size (fun k_ => (P1_3_ k_ ∨ w.heap.size ≤ k_)) u9000_ l1_3 from Kd.R_mono ho1_3 (fun k_ hk => (.inl hk)))
  have HI0 := Aside0.mk hI
  have HL := Aside0.mk hB.size
  clear hI
  have HK := Aside0.mk (Kept.refl w (fun k_ => (P1_3_ k_) ∨ k_ = g))
  have HW0 := Aside0.mk hB.size
  have HB := Aside0.mk hB
  clear hB
  have H : ((spec_reader_pick.f k s0_0 s0_1 40).bind fun bt137003 => (if bt137003.1 = 0 then ((spec_reader_one.f k s0_0 bt137003.2 (([0, 17, wrap64 (a1_0 + 1)] : List Int))).bind fun bt137008 => (some (bt137008.1, a1_1, a1_2, l1_3, bt137008.2))) else (if bt137003.1 = 1 then (if 1 ≤ (l1_3.length : Int) then (some (a1_0, a1_1, a1_2, (l1_3.drop (1 : Int).toNat), bt137003.2)) else none) else (if bt137003.1 = 2 then ((spec_reader_one.f k s0_0 bt137003.2 (([(-1), 256] : List Int))).bind fun bt137016 => (if 0 < (l1_3.length : Int) then (some (a1_0, a1_1, a1_2, (l1_3.set (0 : Int).toNat bt137016.1), bt137016.2)) else none)) else (if bt137003.1 = 3 then ((spec_reader_one.f k s0_0 bt137003.2 ([0, 5] : List Int)).bind fun bt137022 => (some (a1_0, a1_1, bt137022.1, l1_3, bt137022.2))) else (some (a1_0, a1_1, a1_2, l1_3, bt137003.2))))))) = some (r1, r2, r3, r4, r5) := h
  clear h
  replace H := Option.bind_eq_some_iff.mp H
  obtain ⟨⟨t137003, t137004⟩, A30, H⟩ := H
  replace H : (if t137003 = 0 then ((spec_reader_one.f k s0_0 t137004 (([0, 17, wrap64 (a1_0 + 1)] : List Int))).bind fun bt137008 => (some (bt137008.1, a1_1, a1_2, l1_3, bt137008.2))) else (if t137003 = 1 then (if 1 ≤ (l1_3.length : Int) then (some (a1_0, a1_1, a1_2, (l1_3.drop (1 : Int).toNat), t137004)) else none) else (if t137003 = 2 then ((spec_reader_one.f k s0_0 t137004 (([(-1), 256] : List Int))).bind fun bt137016 => (if 0 < (l1_3.length : Int) then (some (a1_0, a1_1, a1_2, (l1_3.set (0 : Int).toNat bt137016.1), bt137016.2)) else none)) else (if t137003 = 3 then ((spec_reader_one.f k s0_0 t137004 ([0, 5] : List Int)).bind fun bt137022 => (some (a1_0, a1_1, bt137022.1, l1_3, bt137022.2))) else (some (a1_0, a1_1, a1_2, l1_3, t137004)))))) = some (r1, r2, r3, r4, r5) := H
  have A3 := Aside0.mk A30
  clear A30
  by_cases c4 : t137003 = 0
  · rw [if_pos c4] at H
    have c4b0 : (t137003 == 0) = true := beq_iff_eq.mpr c4
    have c4b1 : (t137003 != 0) = false := bne_eq_false_iff_eq.mpr c4
    clear c4
    obtain ⟨y137005, hy137005⟩ : ∃ y_ : List Int, y_ = (([0, 17, wrap64 (a1_0 + 1)] : List Int)) := ⟨_, rfl⟩
    replace H : ((spec_reader_one.f k s0_0 t137004 y137005).bind fun bt137008 => (some (bt137008.1, a1_1, a1_2, l1_3, bt137008.2))) = some (r1, r2, r3, r4, r5) := by (rw [hy137005]; with_reducible exact H)
    have Ny137005 := Aside0.mk hy137005
    clear hy137005
    replace H := Option.bind_eq_some_iff.mp H
    obtain ⟨⟨t137008, t137009⟩, A50, H⟩ := H
    replace H : (some (t137008, a1_1, a1_2, l1_3, t137009)) = some (r1, r2, r3, r4, r5) := H
    have A5 := Aside0.mk A50
    clear A50
    simp only [Option.some.injEq, Prod.mk.injEq] at H
    obtain ⟨rfl, rfl, rfl, rfl, rfl⟩ := H
    obtain ⟨Ao6, co6, eo6⟩ := Kd.R_slice HO1_3.out
    subst eo6
    go_enter Try.func136, Try.ntmps136
    go_wp2_with (first | ((with_reducible refine gate_dst (N := 3) rfl ?_); refine box_event ?hg (N := 3) ?hd (cs := #[.int .i64 a1_0, .int .i64 a1_1, .int .i64 a1_2, .slice Ao6 l1_3.length co6]) (t := 27) ?hr ?_; (case hd => rfl); (case hg => rfl); (case hr => (go_simp; done)); intro gb137001 hg w7 hbox hb; have n0_ := Aside0.mk (Kd.R_below HO1_3.out hb); have n1_ := Aside0.mk (IsS144.below HI0.out hb); have n2_ := Aside0.mk (Kept.below (S := (fun k_ => (P1_3_ k_) ∨ k_ = g)) HK.out hb); have n3_ := Aside0.mk (below_step HB.out hb); have n4_ := Aside0.mk (hbox); have n5_ := Aside0.mk (by rw [hg]; exact HK.out.1 : w.heap.size ≤ gb137001); have n6_ := Aside0.mk ((by rw [hg]; exact (below_size HB.out) : w0.heap.size ≤ gb137001)); have n7_ := Aside0.mk ((by rw [hg]; exact Nat.ne_of_lt (IsS144.lt (show IsS144 w0 _ g s0_0 s0_1 from by exact HI0.out)) : g ≠ gb137001)); have n8_ := Aside0.mk ((by rw [hg]; exact Nat.ne_of_gt (IsS144.lt (show IsS144 w0 _ g s0_0 s0_1 from by exact HI0.out)) : gb137001 ≠ g)); clear HO1_3; clear HI0; clear HK; clear HB; have HO1_3 := n0_; have HI0 := n1_; have HK := n2_; have HB := n3_; have BK137001 := n4_; have GW137001 := n5_; have GE137001 := n6_; have NB0_137001 := n7_; have NB137001_0 := n8_; clear n0_ n1_ n2_ n3_ n4_ n5_ n6_ n7_ n8_; clear hb hbox hg) | ((with_reducible refine gate_dst (N := 4) rfl ?_); refine box_event ?hg (N := 4) ?hd (cs := #[.int .i64 0, .int .i64 0, .int .i64 0, .slice none 0 0]) (t := 27) ?hr ?_; (case hd => rfl); (case hg => rfl); (case hr => (go_simp; done)); intro gb137002 hg w8 hbox hb; have n0_ := Aside0.mk (Kd.R_below HO1_3.out hb); have n1_ := Aside0.mk (IsS144.below HI0.out hb); have n2_ := Aside0.mk (blk_below BK137001.out hb); have n3_ := Aside0.mk (Kept.below (S := (fun k_ => (P1_3_ k_) ∨ k_ = g)) HK.out hb); have n4_ := Aside0.mk (below_step HB.out hb); have n5_ := Aside0.mk (hbox); have n6_ := Aside0.mk (by rw [hg]; exact HK.out.1 : w.heap.size ≤ gb137002); have n7_ := Aside0.mk ((by rw [hg]; exact (below_size HB.out) : w0.heap.size ≤ gb137002)); have n8_ := Aside0.mk ((by rw [hg]; exact Nat.ne_of_lt (blk_lt BK137001.out) : gb137001 ≠ gb137002)); have n9_ := Aside0.mk ((by rw [hg]; exact Nat.ne_of_gt (blk_lt BK137001.out) : gb137002 ≠ gb137001)); have n10_ := Aside0.mk ((by rw [hg]; exact Nat.ne_of_lt (IsS144.lt (show IsS144 w0 _ g s0_0 s0_1 from by exact HI0.out)) : g ≠ gb137002)); have n11_ := Aside0.mk ((by rw [hg]; exact Nat.ne_of_gt (IsS144.lt (show IsS144 w0 _ g s0_0 s0_1 from by exact HI0.out)) : gb137002 ≠ g)); clear HO1_3; clear HI0; clear BK137001; clear HK; clear HB; have HO1_3 := n0_; have HI0 := n1_; have BK137001 := n2_; have HK := n3_; have HB := n4_; have BK137002 := n5_; have GW137002 := n6_; have GE137002 := n7_; have NB137001_137002 := n8_; have NB137002_137001 := n9_; have NB0_137002 := n10_; have NB137002_0 := n11_; clear n0_ n1_ n2_ n3_ n4_ n5_ n6_ n7_ n8_ n9_ n10_ n11_; clear hb hbox hg) | ((with_reducible refine gate_callee (f := 127) rfl ?_); refine goesL_ (some 6) rfl rfl Try.func127 (by kernel_rfl) rfl #[.pointer (some ⟨g, 0, none⟩), .int .i64 40] rfl (by (try simp only [List.map_toArray, List.map_cons, List.map_nil]); rfl) ?_; (with_reducible refine (spec_reader_pick.calls k g s0_0 s0_1 40 t137003 t137004 w0 _ ?side1 ?side2 A3.out).mono ?_); (case side1 => repeat (with_reducible exact HI0.out)); (case side2 => repeat (with_reducible exact HB.out)); rintro e w9 ⟨rfl, hi, hb, hk⟩; refine ⟨_, rfl, ?_⟩; have n0_ := Aside0.mk (Kd.R_mono (Kd.R_keep (IsS144.apart (show IsS144 w0 _ g s0_0 s0_1 from by exact HI0.out) HO1_3.out (by decide)) hk (fun _ h => h.2)) (fun _ h => h.1)); have n1_ := Aside0.mk (KeepBut.blk hk (g' := gb137001) (o := .cells #[.int .i64 a1_0, .int .i64 a1_1, .int .i64 a1_2, .slice Ao6 l1_3.length co6] 27 (0, 0)) BK137001.out NB137001_0.out (by simp)); have n2_ := Aside0.mk (KeepBut.blk hk (g' := gb137002) (o := .cells #[.int .i64 0, .int .i64 0, .int .i64 0, .slice none 0 0] 27 (0, 0)) BK137002.out NB137002_0.out (by simp)); have n3_ := Aside0.mk (Kept.of_keep (S := (fun k_ => (P1_3_ k_) ∨ k_ = g)) HK.out hk (.inl (.inr rfl))); have n4_ := Aside0.mk (hb); have n5_ := Aside0.mk (hi); clear HO1_3; clear BK137001; clear BK137002; clear HK; clear HB; clear HI0; have HO1_3 := n0_; have BK137001 := n1_; have BK137002 := n2_; have HK := n3_; have HB := n4_; have HI0 := n5_; clear n0_ n1_ n2_ n3_ n4_ n5_; (try clear hb); (try clear hk); (try clear hi); have hnb10 := NB137001_137002.out; have hnc10 := NB137002_137001.out; have hnb11 := NB137001_0.out; have hnc11 := NB0_137001.out; have hcz12_0 : w9.cell? ⟨gb137001, 0, none⟩ = some (.int .i64 a1_0) := (blk_cell BK137001.out 0).trans rfl; have hcz12_1 : w9.cell? ⟨gb137001, 1, none⟩ = some (.int .i64 a1_1) := (blk_cell BK137001.out 1).trans rfl; have hcz12_2 : w9.cell? ⟨gb137001, 2, none⟩ = some (.int .i64 a1_2) := (blk_cell BK137001.out 2).trans rfl; have hcz12_3 : w9.cell? ⟨gb137001, 3, none⟩ = some (.slice Ao6 l1_3.length co6) := (blk_cell BK137001.out 3).trans rfl; have hfz12_0 := blk_frozen BK137001.out 0; have hfz12_1 := blk_frozen BK137001.out 1; have hfz12_2 := blk_frozen BK137001.out 2; have hfz12_3 := blk_frozen BK137001.out 3) | ((with_reducible refine gate_dst (N := 13) rfl ?_); refine Kd.R_lit (Kd.int .i64) _ 3 ?hg (N := 13) ?hd (xs := ([0, 17, wrap64 (a1_0 + 1)] : List Int)) (inner := [.int .i64 0, .int .i64 17, .int .i64 (wrap64 (a1_0 + 1))]) (ok := fun _ => True) (okp := fun _ => True) ?hr ?hp (fun _ hk => hk) trivial (Below.refl _ _) (Nat.le_refl _) (by simp) ?_; (case hd => rfl); (case hg => rfl); (case hr => (go_simp; done)); (case hp => exact (Reps.one (show Kd.M (Kd.int .i64) _ _ _ 0 [.int .i64 0] from rfl) (Reps.one (show Kd.M (Kd.int .i64) _ _ _ 17 [.int .i64 17] from rfl) (Reps.one (show Kd.M (Kd.int .i64) _ _ _ (wrap64 (a1_0 + 1)) [.int .i64 (wrap64 (a1_0 + 1))] from rfl) (Reps.none _ _))))); intro v137006 w13 ho14 hb hg_ hnew_; clear hg_ hnew_; (rw [← Ny137005.out] at ho14); have n0_ := Aside0.mk (Kd.R_elder' HO1_3.out (Kd.R_base ho14) hb); have n1_ := Aside0.mk (Kd.R_lower (Kd.R_new' (Kd.R_newM (M := fun k_ => (P1_3_ k_ ∨ w.heap.size ≤ k_)) ho14 HK.out.1 (fun k_ h_ => .inr h_)) (Kd.R_lt HO1_3.out)) (below_size HB.out)); have n2_ := Aside0.mk (IsS144.below HI0.out hb); have n3_ := Aside0.mk (blk_below BK137001.out hb); have n4_ := Aside0.mk (blk_below BK137002.out hb); have n5_ := Aside0.mk (Kept.below (S := (fun k_ => (P1_3_ k_) ∨ k_ = g)) HK.out hb); have n6_ := Aside0.mk (below_step HB.out hb); clear HO1_3; clear HI0; clear BK137001; clear BK137002; clear HK; clear HB; have HO1_3 := n0_; have HO137007 := n1_; have HI0 := n2_; have BK137001 := n3_; have BK137002 := n4_; have HK := n5_; have HB := n6_; clear n0_ n1_ n2_ n3_ n4_ n5_ n6_; clear hb ho14; obtain ⟨Ao15, co15, eo15⟩ := Kd.R_slice HO137007.out; subst eo15) | ((with_reducible refine gate_callee (f := 147) rfl ?_); refine goesL_ (some 14) rfl rfl Try.func147 (by kernel_rfl) rfl #[.pointer (some ⟨g, 0, none⟩), .slice Ao15 y137005.length co15] rfl (by (try simp only [List.map_toArray, List.map_cons, List.map_nil]); rfl) ?_; (with_reducible refine (spec_reader_one.calls k g s0_0 t137004 _ _ y137005 t137008 t137009 w0 _ ?side1 ?side2 ?side3 ?side4 ?side5 A5.out).mono ?_); (case side1 => repeat (with_reducible exact HI0.out)); (case side2 => repeat (with_reducible exact HB.out)); (case side3 => repeat (exact (Kd.R_reads' HO137007.out).2.2)); (case side4 => exact (Kd.R_reads' HO137007.out).2.1); (case side5 => exact far_slice (IsS144.own_ne HI0.out HO137007.out (by decide))); rintro e w16 ⟨rfl, hi, hb, hk⟩; refine ⟨_, rfl, ?_⟩; have n0_ := Aside0.mk (Kd.R_mono (Kd.R_keep (IsS144.apart (show IsS144 w0 _ g s0_0 t137004 from by exact HI0.out) HO1_3.out (by decide)) hk (fun _ h => h.2)) (fun _ h => h.1)); have n1_ := Aside0.mk (KeepBut.blk hk (g' := gb137001) (o := .cells #[.int .i64 a1_0, .int .i64 a1_1, .int .i64 a1_2, .slice Ao6 l1_3.length co6] 27 (0, 0)) BK137001.out NB137001_0.out (by simp)); have n2_ := Aside0.mk (KeepBut.blk hk (g' := gb137002) (o := .cells #[.int .i64 0, .int .i64 0, .int .i64 0, .slice none 0 0] 27 (0, 0)) BK137002.out NB137002_0.out (by simp)); have n3_ := Aside0.mk (Kd.R_mono (Kd.R_keep (IsS144.apart (show IsS144 w0 _ g s0_0 t137004 from by exact HI0.out) HO137007.out (by decide)) hk (fun _ h => h.2)) (fun _ h => h.1)); have n4_ := Aside0.mk (Kept.of_keep (S := (fun k_ => (P1_3_ k_) ∨ k_ = g)) HK.out hk (.inl (.inr rfl))); have n5_ := Aside0.mk (hb); have n6_ := Aside0.mk (hi); clear HO1_3; clear BK137001; clear BK137002; clear HO137007; clear HK; clear HB; clear HI0; have HO1_3 := n0_; have BK137001 := n1_; have BK137002 := n2_; have HO137007 := n3_; have HK := n4_; have HB := n5_; have HI0 := n6_; clear n0_ n1_ n2_ n3_ n4_ n5_ n6_; (try clear hb); (try clear hk); (try clear hi); have hcz17_0 : w16.cell? ⟨gb137001, 0, none⟩ = some (.int .i64 a1_0) := (blk_cell BK137001.out 0).trans rfl; have hcz17_1 : w16.cell? ⟨gb137001, 1, none⟩ = some (.int .i64 a1_1) := (blk_cell BK137001.out 1).trans rfl; have hcz17_2 : w16.cell? ⟨gb137001, 2, none⟩ = some (.int .i64 a1_2) := (blk_cell BK137001.out 2).trans rfl; have hcz17_3 : w16.cell? ⟨gb137001, 3, none⟩ = some (.slice Ao6 l1_3.length co6) := (blk_cell BK137001.out 3).trans rfl; have hfz17_0 := blk_frozen BK137001.out 0; have hfz17_1 := blk_frozen BK137001.out 1; have hfz17_2 := blk_frozen BK137001.out 2; have hfz17_3 := blk_frozen BK137001.out 3; have hnb18 := NB137002_0.out; have hnc18 := NB0_137002.out; have hcz19_0 : w16.cell? ⟨gb137002, 0, none⟩ = some (.int .i64 0) := (blk_cell BK137002.out 0).trans rfl; have hcz19_1 : w16.cell? ⟨gb137002, 1, none⟩ = some (.int .i64 0) := (blk_cell BK137002.out 1).trans rfl; have hcz19_2 : w16.cell? ⟨gb137002, 2, none⟩ = some (.int .i64 0) := (blk_cell BK137002.out 2).trans rfl; have hcz19_3 : w16.cell? ⟨gb137002, 3, none⟩ = some (.slice none 0 0) := (blk_cell BK137002.out 3).trans rfl; have hfz19_0 := blk_frozen BK137002.out 0; have hfz19_1 := blk_frozen BK137002.out 1; have hfz19_2 := blk_frozen BK137002.out 2; have hfz19_3 := blk_frozen BK137002.out 3))
    refine bodyPost_ret (results_cell_row rfl _ _ gb137002 27 #[.int .i64 t137008, .int .i64 a1_1, .int .i64 a1_2, .slice Ao6 l1_3.length co6] (0, 0) _ rfl (by refine blk_put (cs := #[.int .i64 t137008, .int .i64 a1_1, .int .i64 a1_2, .slice none 0 0]) ?_ 3 _ rfl; (with_reducible repeat (first | refine blk_drewN ?_ _ | refine blk_drew ?_ | refine blk_alloc ?_ _)); refine blk_put (cs := #[.int .i64 t137008, .int .i64 a1_1, .int .i64 0, .slice none 0 0]) ?_ 2 _ rfl; (with_reducible repeat (first | refine blk_drewN ?_ _ | refine blk_drew ?_ | refine blk_alloc ?_ _)); refine blk_put (cs := #[.int .i64 t137008, .int .i64 0, .int .i64 0, .slice none 0 0]) ?_ 1 _ rfl; (with_reducible repeat (first | refine blk_drewN ?_ _ | refine blk_drew ?_ | refine blk_alloc ?_ _)); refine blk_put (cs := #[.int .i64 0, .int .i64 0, .int .i64 0, .slice none 0 0]) ?_ 0 _ rfl; (with_reducible repeat (first | refine blk_drewN ?_ _ | refine blk_drew ?_ | refine blk_alloc ?_ _)); refine blk_far ?_ NB137002_137001.out _; (with_reducible repeat (first | refine blk_drewN ?_ _ | refine blk_drew ?_ | refine blk_alloc ?_ _)); exact BK137002.out) Try.underlying27 rfl (by kernel_rfl)) rfl ?_
    exact ⟨_, by rfl, Kd.Q_of_R (by exact Kd.R_mono (Kd.R_far (p := ⟨gb137002, 3, none⟩) (Kd.R_far (p := ⟨gb137002, 2, none⟩) (Kd.R_far (p := ⟨gb137002, 1, none⟩) (Kd.R_far (p := ⟨gb137002, 0, none⟩) (Kd.R_far (p := ⟨gb137001, 0, none⟩) (Kd.R_types (Kd.R_types HO1_3.out BK137001.out (by decide)) BK137002.out (by decide)) (fun _ hk => hk.1.2) (.int .i64 t137008)) (fun _ hk => hk.2) (.int .i64 t137008)) (fun _ hk => hk.2) (.int .i64 a1_1)) (fun _ hk => hk.2) (.int .i64 a1_2)) (fun _ hk => hk.2) (.slice Ao6 l1_3.length co6)) (fun _ hk => hk.1.1.1)), by repeat (with_reducible first | exact HI0.out | refine IsS144.far ?_ NB0_137001.out _ | refine IsS144.far ?_ NB0_137002.out _), by repeat (with_reducible first | exact HB.out | refine below_set ?_ GE137001.out | refine below_set ?_ GE137002.out), by repeat ((with_reducible first | exact HK.out | refine Kept.setCell ?_ (.inr GW137001.out) _ | refine Kept.setCell ?_ (.inr GW137002.out) _))⟩
  · rw [if_neg c4] at H
    have c4b0 : (t137003 == 0) = false := beq_eq_false_iff_ne.mpr c4
    have c4b1 : (t137003 != 0) = true := bne_iff_ne.mpr c4
    by_cases c20 : t137003 = 1
    · rw [if_pos c20] at H
      have c20b0 : (t137003 == 1) = true := beq_iff_eq.mpr c20
      have c20b1 : (t137003 != 1) = false := bne_eq_false_iff_eq.mpr c20
      clear c20
      by_cases c21 : 1 ≤ (l1_3.length : Int)
      · rw [if_pos c21] at H
        have c21b0 := eq_true c21
        have c21b1 : decide (1 ≤ (l1_3.length : Int)) = true := decide_eq_true c21
        clear c21
        obtain ⟨y137010, hy137010⟩ : ∃ y_ : List Int, y_ = (l1_3.drop (1 : Int).toNat) := ⟨_, rfl⟩
        replace H : (some (a1_0, a1_1, a1_2, y137010, t137004)) = some (r1, r2, r3, r4, r5) := by (rw [hy137010]; with_reducible exact H)
        have Ny137010 := Aside0.mk hy137010
        clear hy137010
        simp only [Option.some.injEq, Prod.mk.injEq] at H
        obtain ⟨rfl, rfl, rfl, rfl, rfl⟩ := H
        obtain ⟨Ao22, co22, eo22⟩ := Kd.R_slice HO1_3.out
        subst eo22
        go_enter Try.func136, Try.ntmps136
        go_wp2_with (first | ((with_reducible refine gate_dst (N := 3) rfl ?_); refine box_event ?hg (N := 3) ?hd (cs := #[.int .i64 a1_0, .int .i64 a1_1, .int .i64 a1_2, .slice Ao22 l1_3.length co22]) (t := 27) ?hr ?_; (case hd => rfl); (case hg => rfl); (case hr => (go_simp; done)); intro gb137001 hg w23 hbox hb; have n0_ := Aside0.mk (Kd.R_below HO1_3.out hb); have n1_ := Aside0.mk (IsS144.below HI0.out hb); have n2_ := Aside0.mk (Kept.below (S := (fun k_ => (P1_3_ k_) ∨ k_ = g)) HK.out hb); have n3_ := Aside0.mk (below_step HB.out hb); have n4_ := Aside0.mk (hbox); have n5_ := Aside0.mk (by rw [hg]; exact HK.out.1 : w.heap.size ≤ gb137001); have n6_ := Aside0.mk ((by rw [hg]; exact (below_size HB.out) : w0.heap.size ≤ gb137001)); have n7_ := Aside0.mk ((by rw [hg]; exact Nat.ne_of_lt (IsS144.lt (show IsS144 w0 _ g s0_0 s0_1 from by exact HI0.out)) : g ≠ gb137001)); have n8_ := Aside0.mk ((by rw [hg]; exact Nat.ne_of_gt (IsS144.lt (show IsS144 w0 _ g s0_0 s0_1 from by exact HI0.out)) : gb137001 ≠ g)); clear HO1_3; clear HI0; clear HK; clear HB; have HO1_3 := n0_; have HI0 := n1_; have HK := n2_; have HB := n3_; have BK137001 := n4_; have GW137001 := n5_; have GE137001 := n6_; have NB0_137001 := n7_; have NB137001_0 := n8_; clear n0_ n1_ n2_ n3_ n4_ n5_ n6_ n7_ n8_; clear hb hbox hg) | ((with_reducible refine gate_dst (N := 4) rfl ?_); refine box_event ?hg (N := 4) ?hd (cs := #[.int .i64 0, .int .i64 0, .int .i64 0, .slice none 0 0]) (t := 27) ?hr ?_; (case hd => rfl); (case hg => rfl); (case hr => (go_simp; done)); intro gb137002 hg w24 hbox hb; have n0_ := Aside0.mk (Kd.R_below HO1_3.out hb); have n1_ := Aside0.mk (IsS144.below HI0.out hb); have n2_ := Aside0.mk (blk_below BK137001.out hb); have n3_ := Aside0.mk (Kept.below (S := (fun k_ => (P1_3_ k_) ∨ k_ = g)) HK.out hb); have n4_ := Aside0.mk (below_step HB.out hb); have n5_ := Aside0.mk (hbox); have n6_ := Aside0.mk (by rw [hg]; exact HK.out.1 : w.heap.size ≤ gb137002); have n7_ := Aside0.mk ((by rw [hg]; exact (below_size HB.out) : w0.heap.size ≤ gb137002)); have n8_ := Aside0.mk ((by rw [hg]; exact Nat.ne_of_lt (blk_lt BK137001.out) : gb137001 ≠ gb137002)); have n9_ := Aside0.mk ((by rw [hg]; exact Nat.ne_of_gt (blk_lt BK137001.out) : gb137002 ≠ gb137001)); have n10_ := Aside0.mk ((by rw [hg]; exact Nat.ne_of_lt (IsS144.lt (show IsS144 w0 _ g s0_0 s0_1 from by exact HI0.out)) : g ≠ gb137002)); have n11_ := Aside0.mk ((by rw [hg]; exact Nat.ne_of_gt (IsS144.lt (show IsS144 w0 _ g s0_0 s0_1 from by exact HI0.out)) : gb137002 ≠ g)); clear HO1_3; clear HI0; clear BK137001; clear HK; clear HB; have HO1_3 := n0_; have HI0 := n1_; have BK137001 := n2_; have HK := n3_; have HB := n4_; have BK137002 := n5_; have GW137002 := n6_; have GE137002 := n7_; have NB137001_137002 := n8_; have NB137002_137001 := n9_; have NB0_137002 := n10_; have NB137002_0 := n11_; clear n0_ n1_ n2_ n3_ n4_ n5_ n6_ n7_ n8_ n9_ n10_ n11_; clear hb hbox hg) | ((with_reducible refine gate_callee (f := 127) rfl ?_); refine goesL_ (some 6) rfl rfl Try.func127 (by kernel_rfl) rfl #[.pointer (some ⟨g, 0, none⟩), .int .i64 40] rfl (by (try simp only [List.map_toArray, List.map_cons, List.map_nil]); rfl) ?_; (with_reducible refine (spec_reader_pick.calls k g s0_0 s0_1 40 t137003 t137004 w0 _ ?side1 ?side2 A3.out).mono ?_); (case side1 => repeat (with_reducible exact HI0.out)); (case side2 => repeat (with_reducible exact HB.out)); rintro e w25 ⟨rfl, hi, hb, hk⟩; refine ⟨_, rfl, ?_⟩; have n0_ := Aside0.mk (Kd.R_mono (Kd.R_keep (IsS144.apart (show IsS144 w0 _ g s0_0 s0_1 from by exact HI0.out) HO1_3.out (by decide)) hk (fun _ h => h.2)) (fun _ h => h.1)); have n1_ := Aside0.mk (KeepBut.blk hk (g' := gb137001) (o := .cells #[.int .i64 a1_0, .int .i64 a1_1, .int .i64 a1_2, .slice Ao22 l1_3.length co22] 27 (0, 0)) BK137001.out NB137001_0.out (by simp)); have n2_ := Aside0.mk (KeepBut.blk hk (g' := gb137002) (o := .cells #[.int .i64 0, .int .i64 0, .int .i64 0, .slice none 0 0] 27 (0, 0)) BK137002.out NB137002_0.out (by simp)); have n3_ := Aside0.mk (Kept.of_keep (S := (fun k_ => (P1_3_ k_) ∨ k_ = g)) HK.out hk (.inl (.inr rfl))); have n4_ := Aside0.mk (hb); have n5_ := Aside0.mk (hi); clear HO1_3; clear BK137001; clear BK137002; clear HK; clear HB; clear HI0; have HO1_3 := n0_; have BK137001 := n1_; have BK137002 := n2_; have HK := n3_; have HB := n4_; have HI0 := n5_; clear n0_ n1_ n2_ n3_ n4_ n5_; (try clear hb); (try clear hk); (try clear hi); have hnb26 := NB137001_137002.out; have hnc26 := NB137002_137001.out; have hnb27 := NB137001_0.out; have hnc27 := NB0_137001.out; have hcz28_0 : w25.cell? ⟨gb137001, 0, none⟩ = some (.int .i64 a1_0) := (blk_cell BK137001.out 0).trans rfl; have hcz28_1 : w25.cell? ⟨gb137001, 1, none⟩ = some (.int .i64 a1_1) := (blk_cell BK137001.out 1).trans rfl; have hcz28_2 : w25.cell? ⟨gb137001, 2, none⟩ = some (.int .i64 a1_2) := (blk_cell BK137001.out 2).trans rfl; have hcz28_3 : w25.cell? ⟨gb137001, 3, none⟩ = some (.slice Ao22 l1_3.length co22) := (blk_cell BK137001.out 3).trans rfl; have hfz28_0 := blk_frozen BK137001.out 0; have hfz28_1 := blk_frozen BK137001.out 1; have hfz28_2 := blk_frozen BK137001.out 2; have hfz28_3 := blk_frozen BK137001.out 3; have q29 : (1 : Int) ≤ ((l1_3.length : Int) : Int) := of_decide_eq_true (by (with_reducible assumption)); obtain ⟨i029, hi029, _, hsz29, _⟩ := info_parts info3; have hcut29 := cut_from (P := Try.prog) 22 3 .i64 Try.underlying22 hi029 1 hsz29 Ao22 l1_3.length co22 1 (by omega) q29; have hr29 := Kd.Q_drop (k := (1 : Int).toNat) (Kd.Q_of_R HO1_3.out) (by omega); obtain ⟨A29, hA29⟩ : ∃ A1, A1 = (if co22 = (1 : Int).toNat then Ao22 else (Ao22 : Option Addr).map (·.add ((1 : Int).toNat * 1))) := ⟨_, rfl⟩; obtain ⟨c29, hc29⟩ : ∃ c1, c1 = co22 - (1 : Int).toNat := ⟨_, rfl⟩; have hy29 : y137010.length = l1_3.length - (1 : Int).toNat := (by rw [Ny137010.out, List.length_drop]); rw [← Ny137010.out] at hr29; rw [← hy29, ← hA29, ← hc29] at hcut29; replace hr29 : Kd.Q (Kd.int .i64) 3 w25 w0.heap.size (fun k_ => (P1_3_ k_ ∨ w.heap.size ≤ k_)) (.slice A29 y137010.length c29) y137010 := (by rw [hA29, hc29, hy29]; exact hr29); have HE29 : Aside0 ((Value.slice A29 y137010.length c29).ownBlock = (.slice Ao22 l1_3.length co22 : Value).ownBlock) := ⟨by rw [hA29]; split <;> (cases (Ao22 : Option Addr) <;> rfl)⟩; clear hy29 hi029 hsz29 HO1_3 hA29 hc29; have HO137012 := Aside0.mk hr29; clear hr29; replace q29 := eq_true q29; have hnb30 := NB137002_0.out; have hnc30 := NB0_137002.out; have hcz31_0 : w25.cell? ⟨gb137002, 0, none⟩ = some (.int .i64 0) := (blk_cell BK137002.out 0).trans rfl; have hcz31_1 : w25.cell? ⟨gb137002, 1, none⟩ = some (.int .i64 0) := (blk_cell BK137002.out 1).trans rfl; have hcz31_2 : w25.cell? ⟨gb137002, 2, none⟩ = some (.int .i64 0) := (blk_cell BK137002.out 2).trans rfl; have hcz31_3 : w25.cell? ⟨gb137002, 3, none⟩ = some (.slice none 0 0) := (blk_cell BK137002.out 3).trans rfl; have hfz31_0 := blk_frozen BK137002.out 0; have hfz31_1 := blk_frozen BK137002.out 1; have hfz31_2 := blk_frozen BK137002.out 2; have hfz31_3 := blk_frozen BK137002.out 3))
        refine bodyPost_ret (results_cell_row rfl _ _ gb137002 27 #[.int .i64 a1_0, .int .i64 a1_1, .int .i64 a1_2, .slice A29 y137010.length c29] (0, 0) _ rfl (by refine blk_put (cs := #[.int .i64 a1_0, .int .i64 a1_1, .int .i64 a1_2, .slice none 0 0]) ?_ 3 _ rfl; (with_reducible repeat (first | refine blk_drewN ?_ _ | refine blk_drew ?_ | refine blk_alloc ?_ _)); refine blk_put (cs := #[.int .i64 a1_0, .int .i64 a1_1, .int .i64 0, .slice none 0 0]) ?_ 2 _ rfl; (with_reducible repeat (first | refine blk_drewN ?_ _ | refine blk_drew ?_ | refine blk_alloc ?_ _)); refine blk_put (cs := #[.int .i64 a1_0, .int .i64 0, .int .i64 0, .slice none 0 0]) ?_ 1 _ rfl; (with_reducible repeat (first | refine blk_drewN ?_ _ | refine blk_drew ?_ | refine blk_alloc ?_ _)); refine blk_put (cs := #[.int .i64 0, .int .i64 0, .int .i64 0, .slice none 0 0]) ?_ 0 _ rfl; (with_reducible repeat (first | refine blk_drewN ?_ _ | refine blk_drew ?_ | refine blk_alloc ?_ _)); refine blk_far ?_ NB137002_137001.out _; (with_reducible repeat (first | refine blk_drewN ?_ _ | refine blk_drew ?_ | refine blk_alloc ?_ _)); exact BK137002.out) Try.underlying27 rfl (by kernel_rfl)) rfl ?_
        exact ⟨_, by rfl, by (with_reducible repeat (first | apply Kd.Q_alloc | apply Kd.Q_drewN | apply Kd.Q_drew)); exact Kd.Q_mono (Kd.Q_far (p := ⟨gb137002, 3, none⟩) (Kd.Q_far (p := ⟨gb137002, 2, none⟩) (Kd.Q_far (p := ⟨gb137002, 1, none⟩) (Kd.Q_far (p := ⟨gb137002, 0, none⟩) (Kd.Q_far (p := ⟨gb137001, 3, none⟩) (Kd.Q_types (Kd.Q_types HO137012.out BK137001.out (by decide)) BK137002.out (by decide)) (fun _ hk => hk.1.2) (.slice A29 y137010.length c29)) (fun _ hk => hk.2) (.int .i64 a1_0)) (fun _ hk => hk.2) (.int .i64 a1_1)) (fun _ hk => hk.2) (.int .i64 a1_2)) (fun _ hk => hk.2) (.slice A29 y137010.length c29)) (fun _ hk => hk.1.1), by repeat (with_reducible first | exact HI0.out | refine IsS144.far ?_ NB0_137001.out _ | refine IsS144.far ?_ NB0_137002.out _), by repeat (with_reducible first | exact HB.out | refine below_set ?_ GE137001.out | refine below_set ?_ GE137002.out), by repeat ((with_reducible first | exact HK.out | refine Kept.setCell ?_ (.inr GW137001.out) _ | refine Kept.setCell ?_ (.inr GW137002.out) _))⟩
      · rw [if_neg c21] at H
        exact absurd H (by simp)
    · rw [if_neg c20] at H
      have c20b0 : (t137003 == 1) = false := beq_eq_false_iff_ne.mpr c20
      have c20b1 : (t137003 != 1) = true := bne_iff_ne.mpr c20
      by_cases c32 : t137003 = 2
      · rw [if_pos c32] at H
        have c32b0 : (t137003 == 2) = true := beq_iff_eq.mpr c32
        have c32b1 : (t137003 != 2) = false := bne_eq_false_iff_eq.mpr c32
        clear c32
        obtain ⟨y137013, hy137013⟩ : ∃ y_ : List Int, y_ = (([(-1), 256] : List Int)) := ⟨_, rfl⟩
        replace H : ((spec_reader_one.f k s0_0 t137004 y137013).bind fun bt137016 => (if 0 < (l1_3.length : Int) then (some (a1_0, a1_1, a1_2, (l1_3.set (0 : Int).toNat bt137016.1), bt137016.2)) else none)) = some (r1, r2, r3, r4, r5) := by (rw [hy137013]; with_reducible exact H)
        have Ny137013 := Aside0.mk hy137013
        clear hy137013
        replace H := Option.bind_eq_some_iff.mp H
        obtain ⟨⟨t137016, t137017⟩, A330, H⟩ := H
        replace H : (if 0 < (l1_3.length : Int) then (some (a1_0, a1_1, a1_2, (l1_3.set (0 : Int).toNat t137016), t137017)) else none) = some (r1, r2, r3, r4, r5) := H
        have A33 := Aside0.mk A330
        clear A330
        by_cases c34 : 0 < (l1_3.length : Int)
        · rw [if_pos c34] at H
          have c34b0 : decide (0 < (l1_3.length : Int)) = true := decide_eq_true c34
          have c34b1 : decide (0 < l1_3.length) = true := decide_eq_true (by omega)
          clear c34
          obtain ⟨y137018, hy137018⟩ : ∃ y_ : List Int, y_ = (l1_3.set (0 : Int).toNat t137016) := ⟨_, rfl⟩
          replace H : (some (a1_0, a1_1, a1_2, y137018, t137017)) = some (r1, r2, r3, r4, r5) := by (rw [hy137018]; with_reducible exact H)
          have Ny137018 := Aside0.mk hy137018
          clear hy137018
          simp only [Option.some.injEq, Prod.mk.injEq] at H
          obtain ⟨rfl, rfl, rfl, rfl, rfl⟩ := H
          obtain ⟨Ao36, co36, eo36⟩ := Kd.R_slice HO1_3.out
          subst eo36
          go_enter Try.func136, Try.ntmps136
          try go_wp2_with (first | ((with_reducible refine gate_dst (N := 3) rfl ?_); refine box_event ?hg (N := 3) ?hd (cs := #[.int .i64 a1_0, .int .i64 a1_1, .int .i64 a1_2, .slice Ao36 l1_3.length co36]) (t := 27) ?hr ?_; (case hd => rfl); (case hg => rfl); (case hr => (go_simp; done)); intro gb137001 hg w37 hbox hb; have n0_ := Aside0.mk (Kd.R_below HO1_3.out hb); have n1_ := Aside0.mk (IsS144.below HI0.out hb); have n2_ := Aside0.mk (Kept.below (S := (fun k_ => (P1_3_ k_) ∨ k_ = g)) HK.out hb); have n3_ := Aside0.mk (below_step HB.out hb); have n4_ := Aside0.mk (hbox); have n5_ := Aside0.mk (by rw [hg]; exact HK.out.1 : w.heap.size ≤ gb137001); have n6_ := Aside0.mk ((by rw [hg]; exact (below_size HB.out) : w0.heap.size ≤ gb137001)); have n7_ := Aside0.mk ((by rw [hg]; exact Nat.ne_of_lt (IsS144.lt (show IsS144 w0 _ g s0_0 s0_1 from by exact HI0.out)) : g ≠ gb137001)); have n8_ := Aside0.mk ((by rw [hg]; exact Nat.ne_of_gt (IsS144.lt (show IsS144 w0 _ g s0_0 s0_1 from by exact HI0.out)) : gb137001 ≠ g)); clear HO1_3; clear HI0; clear HK; clear HB; have HO1_3 := n0_; have HI0 := n1_; have HK := n2_; have HB := n3_; have BK137001 := n4_; have GW137001 := n5_; have GE137001 := n6_; have NB0_137001 := n7_; have NB137001_0 := n8_; clear n0_ n1_ n2_ n3_ n4_ n5_ n6_ n7_ n8_; clear hb hbox hg) | ((with_reducible refine gate_dst (N := 4) rfl ?_); refine box_event ?hg (N := 4) ?hd (cs := #[.int .i64 0, .int .i64 0, .int .i64 0, .slice none 0 0]) (t := 27) ?hr ?_; (case hd => rfl); (case hg => rfl); (case hr => (go_simp; done)); intro gb137002 hg w38 hbox hb; have n0_ := Aside0.mk (Kd.R_below HO1_3.out hb); have n1_ := Aside0.mk (IsS144.below HI0.out hb); have n2_ := Aside0.mk (blk_below BK137001.out hb); have n3_ := Aside0.mk (Kept.below (S := (fun k_ => (P1_3_ k_) ∨ k_ = g)) HK.out hb); have n4_ := Aside0.mk (below_step HB.out hb); have n5_ := Aside0.mk (hbox); have n6_ := Aside0.mk (by rw [hg]; exact HK.out.1 : w.heap.size ≤ gb137002); have n7_ := Aside0.mk ((by rw [hg]; exact (below_size HB.out) : w0.heap.size ≤ gb137002)); have n8_ := Aside0.mk ((by rw [hg]; exact Nat.ne_of_lt (blk_lt BK137001.out) : gb137001 ≠ gb137002)); have n9_ := Aside0.mk ((by rw [hg]; exact Nat.ne_of_gt (blk_lt BK137001.out) : gb137002 ≠ gb137001)); have n10_ := Aside0.mk ((by rw [hg]; exact Nat.ne_of_lt (IsS144.lt (show IsS144 w0 _ g s0_0 s0_1 from by exact HI0.out)) : g ≠ gb137002)); have n11_ := Aside0.mk ((by rw [hg]; exact Nat.ne_of_gt (IsS144.lt (show IsS144 w0 _ g s0_0 s0_1 from by exact HI0.out)) : gb137002 ≠ g)); clear HO1_3; clear HI0; clear BK137001; clear HK; clear HB; have HO1_3 := n0_; have HI0 := n1_; have BK137001 := n2_; have HK := n3_; have HB := n4_; have BK137002 := n5_; have GW137002 := n6_; have GE137002 := n7_; have NB137001_137002 := n8_; have NB137002_137001 := n9_; have NB0_137002 := n10_; have NB137002_0 := n11_; clear n0_ n1_ n2_ n3_ n4_ n5_ n6_ n7_ n8_ n9_ n10_ n11_; clear hb hbox hg) | ((with_reducible refine gate_callee (f := 127) rfl ?_); refine goesL_ (some 6) rfl rfl Try.func127 (by kernel_rfl) rfl #[.pointer (some ⟨g, 0, none⟩), .int .i64 40] rfl (by (try simp only [List.map_toArray, List.map_cons, List.map_nil]); rfl) ?_; (with_reducible refine (spec_reader_pick.calls k g s0_0 s0_1 40 t137003 t137004 w0 _ ?side1 ?side2 A3.out).mono ?_); (case side1 => repeat (with_reducible exact HI0.out)); (case side2 => repeat (with_reducible exact HB.out)); rintro e w39 ⟨rfl, hi, hb, hk⟩; refine ⟨_, rfl, ?_⟩; have n0_ := Aside0.mk (Kd.R_mono (Kd.R_keep (IsS144.apart (show IsS144 w0 _ g s0_0 s0_1 from by exact HI0.out) HO1_3.out (by decide)) hk (fun _ h => h.2)) (fun _ h => h.1)); have n1_ := Aside0.mk (KeepBut.blk hk (g' := gb137001) (o := .cells #[.int .i64 a1_0, .int .i64 a1_1, .int .i64 a1_2, .slice Ao36 l1_3.length co36] 27 (0, 0)) BK137001.out NB137001_0.out (by simp)); have n2_ := Aside0.mk (KeepBut.blk hk (g' := gb137002) (o := .cells #[.int .i64 0, .int .i64 0, .int .i64 0, .slice none 0 0] 27 (0, 0)) BK137002.out NB137002_0.out (by simp)); have n3_ := Aside0.mk (Kept.of_keep (S := (fun k_ => (P1_3_ k_) ∨ k_ = g)) HK.out hk (.inl (.inr rfl))); have n4_ := Aside0.mk (hb); have n5_ := Aside0.mk (hi); clear HO1_3; clear BK137001; clear BK137002; clear HK; clear HB; clear HI0; have HO1_3 := n0_; have BK137001 := n1_; have BK137002 := n2_; have HK := n3_; have HB := n4_; have HI0 := n5_; clear n0_ n1_ n2_ n3_ n4_ n5_; (try clear hb); (try clear hk); (try clear hi)))
          have n0_ := Aside0.mk (Kd.R_drew HO1_3.out)
          have n1_ := Aside0.mk (blk_drew BK137001.out)
          have n2_ := Aside0.mk (blk_drew BK137002.out)
          have n3_ := Aside0.mk (IsS144.drew HI0.out)
          have n4_ := Aside0.mk (Kept.drew HK.out)
          have n5_ := Aside0.mk (below_drew1 HB.out)
          clear HO1_3 BK137001 BK137002 HI0 HK HB
          revert n0_ n1_ n2_ n3_ n4_ n5_; intro HO1_3 BK137001 BK137002 HI0 HK HB
          refine start_ (n := 7) (S := fun w' => w'.cell? ⟨gb137001, 0, none⟩ = some (.int .i64 a1_0) ∧ w'.cell? ⟨gb137001, 1, none⟩ = some (.int .i64 a1_1) ∧ w'.cell? ⟨gb137001, 2, none⟩ = some (.int .i64 a1_2) ∧ w'.cell? ⟨gb137001, 3, none⟩ = some (.slice Ao36 l1_3.length co36)) (ds := [6]) #[false, false, false, false, false, false, false] (by kernel_rfl) rfl rfl ⟨(blk_cell BK137001.out 0).trans rfl, (blk_cell BK137001.out 1).trans rfl, (blk_cell BK137001.out 2).trans rfl, (blk_cell BK137001.out 3).trans rfl⟩ (fun hHeld => ?_)
          generalize w39.drew = w40 at HO1_3 BK137001 BK137002 HI0 HK HB hHeld ⊢
          refine pure_ (i := 0) (N := some 24) (v := ?_) (a' := ?_) #[true, false, false, false, false, false, false] rfl rfl (by kernel_rfl) (fun _ _ _ h => h) (Or.inl ⟨by rfl, ?_⟩) ?_ ?_
          rotate_left
          · intro w'
            go_simp
            with_reducible rfl
          rotate_left
          · simp only [Act.put, List.setIfInBounds_toArray, List.set_cons_zero, List.set_cons_succ, i64_w, i32_w]
            rfl
          refine pure_ (i := 2) (N := some 26) (v := ?_) (a' := ?_) #[true, false, true, false, false, false, false] rfl rfl (by kernel_rfl) (fun _ _ _ h => h) (Or.inl ⟨by rfl, ?_⟩) ?_ ?_
          rotate_left
          · intro w'
            go_simp
            with_reducible rfl
          rotate_left
          · simp only [Act.put, List.setIfInBounds_toArray, List.set_cons_zero, List.set_cons_succ, i64_w, i32_w]
            rfl
          refine take_ (i := 1) (N := some 25) (v := ?_) (a' := ?_) #[true, true, true, false, false, false, false] rfl rfl (by kernel_rfl) (fun _ _ _ h => h) (Or.inl ⟨by rfl, ?_⟩) hHeld ?_ ?_
          rotate_left
          · rintro w' ⟨s0, s1, s2, s3⟩
            go_simp
            with_reducible rfl
          rotate_left
          · simp only [Act.put, List.setIfInBounds_toArray, List.set_cons_zero, List.set_cons_succ, i64_w, i32_w]
            rfl
          refine one_ (i := 3) (N := some 27) #[true, true, true, true, false, false, false] rfl rfl (by kernel_rfl) (by decide) (fun K hK => ?_)
          refine Kd.R_lit_step (Kd.int .i64) _ 3 ?hg (N := 27) ?hd (xs := ([(-1), 256] : List Int)) (inner := [.int .i64 (-1), .int .i64 256]) (ok := fun _ => True) (okp := fun _ => True) ?hr ?hp (fun _ hk => hk) trivial (Below.refl _ _) (Nat.le_refl _) (by simp) ?_; (case hd => rfl); (case hg => rfl); (case hr => (go_simp; done)); (case hp => exact (Reps.one (show Kd.M (Kd.int .i64) _ _ _ (-1) [.int .i64 (-1)] from rfl) (Reps.one (show Kd.M (Kd.int .i64) _ _ _ 256 [.int .i64 256] from rfl) (Reps.none _ _))))
          intro v137014 w41 ho42 hb hg_ hnew_
          clear hg_ hnew_
          (rw [← Ny137013.out] at ho42)
          have n0_ := Aside0.mk (Kd.R_elder' HO1_3.out (Kd.R_base ho42) hb)
          have n1_ := Aside0.mk (Kd.R_lower (Kd.R_new' (Kd.R_newM (M := fun k_ => (P1_3_ k_ ∨ w.heap.size ≤ k_)) ho42 HK.out.1 (fun k_ h_ => .inr h_)) (Kd.R_lt HO1_3.out)) (below_size HB.out))
          have n2_ := Aside0.mk (IsS144.below HI0.out hb)
          have n3_ := Aside0.mk (blk_below BK137001.out hb)
          have n4_ := Aside0.mk (blk_below BK137002.out hb)
          have n5_ := Aside0.mk (Kept.below (S := (fun k_ => (P1_3_ k_) ∨ k_ = g)) HK.out hb)
          have n6_ := Aside0.mk (below_step HB.out hb)
          clear HO1_3 HI0 BK137001 BK137002 HK HB
          revert n0_ n1_ n2_ n3_ n4_ n5_ n6_; intro HO1_3 HO137015 HI0 BK137001 BK137002 HK HB
          clear hb ho42
          obtain ⟨Ao43, co43, eo43⟩ := Kd.R_slice HO137015.out
          (subst eo43)
          refine hK.out _ _ ⟨(blk_cell BK137001.out 0).trans rfl, (blk_cell BK137001.out 1).trans rfl, (blk_cell BK137001.out 2).trans rfl, (blk_cell BK137001.out 3).trans rfl⟩ (fun hHeld => ?_)
          clear hK K
          refine norm_ (a' := ?_) ?_ ?_
          rotate_left
          · show Act.put _ (some 27) _ = _
            simp only [Act.put, List.setIfInBounds_toArray, List.set_cons_zero, List.set_cons_succ, i64_w, i32_w]
            rfl
          refine one_ (i := 4) (N := some 28) #[true, true, true, true, true, false, false] rfl rfl (by kernel_rfl) (by decide) (fun K hK => ?_)
          refine goes_ Try.func147 (by kernel_rfl) rfl #[.pointer (some ⟨g, 0, none⟩), .slice Ao43 y137013.length co43] (by rfl) rfl rfl (by (try simp only [List.map_toArray, List.map_cons, List.map_nil]); rfl) ?_
          with_reducible refine (spec_reader_one.calls k g s0_0 t137004 _ _ y137013 t137016 t137017 w0 _ ?side1 ?side2 ?side3 ?side4 ?side5 A33.out).mono ?_
          (case side1 => repeat (with_reducible exact HI0.out))
          (case side2 => repeat (with_reducible exact HB.out))
          (case side3 => repeat (exact (Kd.R_reads' HO137015.out).2.2))
          (case side4 => exact (Kd.R_reads' HO137015.out).2.1)
          (case side5 => exact far_slice (IsS144.own_ne HI0.out HO137015.out (by decide)))
          rintro e w44 ⟨rfl, hi, hb, hk⟩
          refine ⟨_, rfl, ?_⟩
          have n0_ := Aside0.mk (Kd.R_mono (Kd.R_keep (IsS144.apart (show IsS144 w0 _ g s0_0 t137004 from by exact HI0.out) HO1_3.out (by decide)) hk (fun _ h => h.2)) (fun _ h => h.1))
          have n1_ := Aside0.mk (KeepBut.blk hk (g' := gb137001) (o := .cells #[.int .i64 a1_0, .int .i64 a1_1, .int .i64 a1_2, .slice Ao36 l1_3.length co36] 27 (0, 0)) BK137001.out NB137001_0.out (by simp))
          have n2_ := Aside0.mk (KeepBut.blk hk (g' := gb137002) (o := .cells #[.int .i64 0, .int .i64 0, .int .i64 0, .slice none 0 0] 27 (0, 0)) BK137002.out NB137002_0.out (by simp))
          have n3_ := Aside0.mk (Kd.R_mono (Kd.R_keep (IsS144.apart (show IsS144 w0 _ g s0_0 t137004 from by exact HI0.out) HO137015.out (by decide)) hk (fun _ h => h.2)) (fun _ h => h.1))
          have n4_ := Aside0.mk (Kept.of_keep (S := (fun k_ => (P1_3_ k_) ∨ k_ = g)) HK.out hk (.inl (.inr rfl)))
          have n5_ := Aside0.mk (hb)
          have n6_ := Aside0.mk (hi)
          clear HO1_3 BK137001 BK137002 HO137015 HK HB HI0
          revert n0_ n1_ n2_ n3_ n4_ n5_ n6_; intro HO1_3 BK137001 BK137002 HO137015 HK HB HI0
          (try clear hb)
          (try clear hk)
          (try clear hi)
          have p35 : 0 ≤ (0 : Int) := (by omega)
          have q35 : (0 : Int) < ((l1_3.length : Int) : Int) := of_decide_eq_true (by (with_reducible assumption))
          have qi35 : (0 < l1_3.length) = True := eq_true (by omega)
          obtain ⟨go35, co35, eo35, gb35, gl35, cl35, HG35⟩ := Kd.R_form HO1_3.out (by omega)
          (cases eo35)
          have GB35 := Aside0.mk gb35
          have GG35 := Aside0.mk HG35
          clear gb35 gl35 HG35
          have HMgo35 := Aside0.mk (show (P1_3_ go35 ∨ w.heap.size ≤ go35) from (HO1_3.out.1 _ rfl).1)
          obtain ⟨hx35_0, hf35_0⟩ := Kd.R_celln 0 HO1_3.out (0 : Int) p35 q35
          (try rw [show (0 : Int).toNat = 0 from rfl] at hx35_0)
          (try rw [show (0 : Int).toNat = 0 from rfl] at hf35_0)
          replace p35 := eq_true p35
          replace q35 := eq_true q35
          have HN0_go35 := Aside0.mk (show g ≠ go35 from by have h_ := IsS144.own_ne HI0.out HO1_3.out (by decide); intro e_; exact h_ (by rw [e_]; rfl))
          have HP45 := Kd.R_putn HO1_3.out (0 : Int) t137016
          rw [← Ny137018.out] at HP45
          have HQ45 := Aside0.mk HP45
          clear HP45
          refine hK.out _ _ ⟨(blk_cell BK137001.out 0).trans rfl, (blk_cell BK137001.out 1).trans rfl, (blk_cell BK137001.out 2).trans rfl, (blk_cell BK137001.out 3).trans rfl⟩ (fun hHeld => ?_)
          clear hK K
          refine norm_ (a' := ?_) ?_ ?_
          rotate_left
          · show Act.put _ (some 28) _ = _
            simp only [Act.put, List.setIfInBounds_toArray, List.set_cons_zero, List.set_cons_succ, i64_w, i32_w]
            rfl
          refine pure_ (i := 5) (N := some 29) (v := ?_) (a' := ?_) #[true, true, true, true, true, true, false] rfl rfl (by kernel_rfl) (fun _ _ _ h => h) (Or.inl ⟨by rfl, ?_⟩) ?_ ?_
          rotate_left
          · intro w'
            go_simp
            with_reducible rfl
          rotate_left
          · simp only [Act.put, List.setIfInBounds_toArray, List.set_cons_zero, List.set_cons_succ, i64_w, i32_w]
            rfl
          refine last_ (i := 6) (N := none) #[true, true, true, true, true, true, true] rfl rfl (by kernel_rfl) (by decide) (fun K hK => ?_)
          refine skip_ (w1 := ?_) (by rfl) rfl ?_ ?_
          rotate_left
          · go_simp
            rfl
          refine hK.out _ _ ?_
          clear hK K
          refine done_ (by kernel_rfl) ?_
          have n0_ : Aside0 (Kd.R (Kd.int .i64) 3 (w44.setCell ⟨go35, 0, none⟩ (.int .i64 t137016)) w0.heap.size (fun k_ => (P1_3_ k_ ∨ w.heap.size ≤ k_) ∧ some k_ ≠ (.slice Ao43 y137013.length co43 : Value).ownBlock) (.slice (some ⟨go35, 0, none⟩) l1_3.length co36) y137018) := ⟨by (with_reducible repeat (first | apply Kd.R_alloc | apply Kd.R_drewN | apply Kd.R_drew)); exact HQ45.out⟩
          have n1_ : Aside0 (Kd.R (Kd.int .i64) 3 (w44.setCell ⟨go35, 0, none⟩ (.int .i64 t137016)) w0.heap.size (fun k_ => (P1_3_ k_ ∨ w.heap.size ≤ k_) ∧ some k_ ≠ (.slice (some ⟨go35, 0, none⟩) l1_3.length co36 : Value).ownBlock) (.slice Ao43 y137013.length co43) y137013) := ⟨by (with_reducible repeat (first | apply Kd.R_alloc | apply Kd.R_drewN | apply Kd.R_drew)); exact Kd.R_mono (Kd.R_far (p := ⟨go35, 0, none⟩) (Kd.R_mono HO137015.out (fun k_ hk => (⟨hk, fun e_ => hk.2 (by rw [e_]; rfl)⟩ : _ ∧ k_ ≠ go35))) (fun _ hk => hk.2) (.int .i64 t137016)) (fun _ hk => ⟨hk.1.1.1, hk.1.2⟩)⟩
          have n2_ : Aside0 ((w44.setCell ⟨go35, 0, none⟩ (.int .i64 t137016)).heap[gb137001]? = some (.cells #[.int .i64 a1_0, .int .i64 a1_1, .int .i64 a1_2, .slice (some ⟨go35, 0, none⟩) l1_3.length co36] 27 (0, 0))) := ⟨by (with_reducible repeat (first | refine blk_drewN ?_ _ | refine blk_drew ?_ | refine blk_alloc ?_ _)); refine blk_far ?_ (by have h_ := Kd.R_ne HO1_3.out BK137001.out (by decide); intro e_; exact h_ (by rw [e_]; rfl)) _; (with_reducible repeat (first | refine blk_drewN ?_ _ | refine blk_drew ?_ | refine blk_alloc ?_ _)); exact BK137001.out⟩
          have n3_ : Aside0 ((w44.setCell ⟨go35, 0, none⟩ (.int .i64 t137016)).heap[gb137002]? = some (.cells #[.int .i64 0, .int .i64 0, .int .i64 0, .slice none 0 0] 27 (0, 0))) := ⟨by (with_reducible repeat (first | refine blk_drewN ?_ _ | refine blk_drew ?_ | refine blk_alloc ?_ _)); refine blk_far ?_ (by have h_ := Kd.R_ne HO1_3.out BK137002.out (by decide); intro e_; exact h_ (by rw [e_]; rfl)) _; (with_reducible repeat (first | refine blk_drewN ?_ _ | refine blk_drew ?_ | refine blk_alloc ?_ _)); exact BK137002.out⟩
          have n4_ : Aside0 (IsS144 w0 (w44.setCell ⟨go35, 0, none⟩ (.int .i64 t137016)) g s0_0 t137017) := ⟨by repeat (with_reducible first | exact HI0.out | refine IsS144.far ?_ HN0_go35.out _)⟩
          have n5_ : Aside0 (Kept w (w44.setCell ⟨go35, 0, none⟩ (.int .i64 t137016)) (fun k_ => (P1_3_ k_) ∨ k_ = g)) := ⟨by repeat ((with_reducible first | exact HK.out | refine Kept.setCell ?_ (Or.imp_left Or.inl HMgo35.out) _))⟩
          have n6_ : Aside0 (Below w0.heap.size w0 (w44.setCell ⟨go35, 0, none⟩ (.int .i64 t137016))) := ⟨by repeat (with_reducible first | exact HB.out | refine below_set ?_ GB35.out)⟩
          (try clear HO1_3)
          (try clear HO137015)
          (try clear BK137001)
          (try clear BK137002)
          (try clear HI0)
          (try clear HK)
          (try clear HB)
          generalize (w44.setCell ⟨go35, 0, none⟩ (.int .i64 t137016)) = w46 at n0_ n1_ n2_ n3_ n4_ n5_ n6_ ⊢
          revert n0_ n1_ n2_ n3_ n4_ n5_ n6_; intro HO1_3 HO137015 BK137001 BK137002 HI0 HK HB
          have hnb47 := NB137001_137002.out
          have hnc47 := NB137002_137001.out
          have hnb48 := NB137001_0.out
          have hnc48 := NB0_137001.out
          have hcz49_0 : w46.cell? ⟨gb137001, 0, none⟩ = some (.int .i64 a1_0) := (blk_cell BK137001.out 0).trans rfl
          have hcz49_1 : w46.cell? ⟨gb137001, 1, none⟩ = some (.int .i64 a1_1) := (blk_cell BK137001.out 1).trans rfl
          have hcz49_2 : w46.cell? ⟨gb137001, 2, none⟩ = some (.int .i64 a1_2) := (blk_cell BK137001.out 2).trans rfl
          have hcz49_3 : w46.cell? ⟨gb137001, 3, none⟩ = some (.slice (some ⟨go35, 0, none⟩) l1_3.length co36) := (blk_cell BK137001.out 3).trans rfl
          have hfz49_0 := blk_frozen BK137001.out 0
          have hfz49_1 := blk_frozen BK137001.out 1
          have hfz49_2 := blk_frozen BK137001.out 2
          have hfz49_3 := blk_frozen BK137001.out 3
          have hnb50 := NB137002_0.out
          have hnc50 := NB0_137002.out
          have hcz51_0 : w46.cell? ⟨gb137002, 0, none⟩ = some (.int .i64 0) := (blk_cell BK137002.out 0).trans rfl
          have hcz51_1 : w46.cell? ⟨gb137002, 1, none⟩ = some (.int .i64 0) := (blk_cell BK137002.out 1).trans rfl
          have hcz51_2 : w46.cell? ⟨gb137002, 2, none⟩ = some (.int .i64 0) := (blk_cell BK137002.out 2).trans rfl
          have hcz51_3 : w46.cell? ⟨gb137002, 3, none⟩ = some (.slice none 0 0) := (blk_cell BK137002.out 3).trans rfl
          have hfz51_0 := blk_frozen BK137002.out 0
          have hfz51_1 := blk_frozen BK137002.out 1
          have hfz51_2 := blk_frozen BK137002.out 2
          have hfz51_3 := blk_frozen BK137002.out 3
          try go_wp2
          refine bodyPost_ret (results_cell_row rfl _ _ gb137002 27 #[.int .i64 a1_0, .int .i64 a1_1, .int .i64 a1_2, .slice (some ⟨go35, 0, none⟩) l1_3.length co36] (0, 0) _ rfl (by refine blk_put (cs := #[.int .i64 a1_0, .int .i64 a1_1, .int .i64 a1_2, .slice none 0 0]) ?_ 3 _ rfl; (with_reducible repeat (first | refine blk_drewN ?_ _ | refine blk_drew ?_ | refine blk_alloc ?_ _)); refine blk_put (cs := #[.int .i64 a1_0, .int .i64 a1_1, .int .i64 0, .slice none 0 0]) ?_ 2 _ rfl; (with_reducible repeat (first | refine blk_drewN ?_ _ | refine blk_drew ?_ | refine blk_alloc ?_ _)); refine blk_put (cs := #[.int .i64 a1_0, .int .i64 0, .int .i64 0, .slice none 0 0]) ?_ 1 _ rfl; (with_reducible repeat (first | refine blk_drewN ?_ _ | refine blk_drew ?_ | refine blk_alloc ?_ _)); refine blk_put (cs := #[.int .i64 0, .int .i64 0, .int .i64 0, .slice none 0 0]) ?_ 0 _ rfl; (with_reducible repeat (first | refine blk_drewN ?_ _ | refine blk_drew ?_ | refine blk_alloc ?_ _)); exact BK137002.out) Try.underlying27 rfl (by kernel_rfl)) rfl ?_
          exact ⟨_, by rfl, Kd.Q_of_R (by exact Kd.R_mono (Kd.R_far (p := ⟨gb137002, 3, none⟩) (Kd.R_far (p := ⟨gb137002, 2, none⟩) (Kd.R_far (p := ⟨gb137002, 1, none⟩) (Kd.R_far (p := ⟨gb137002, 0, none⟩) (Kd.R_types HO1_3.out BK137002.out (by decide)) (fun _ hk => hk.2) (.int .i64 a1_0)) (fun _ hk => hk.2) (.int .i64 a1_1)) (fun _ hk => hk.2) (.int .i64 a1_2)) (fun _ hk => hk.2) (.slice (some ⟨go35, 0, none⟩) l1_3.length co36)) (fun _ hk => hk.1.1)), by repeat (with_reducible first | exact HI0.out | refine IsS144.far ?_ NB0_137002.out _), by repeat (with_reducible first | exact HB.out | refine below_set ?_ GE137002.out), by repeat ((with_reducible first | exact HK.out | refine Kept.setCell ?_ (.inr GW137002.out) _))⟩
        · rw [if_neg c34] at H
          exact absurd H (by simp)
      · rw [if_neg c32] at H
        have c32b0 : (t137003 == 2) = false := beq_eq_false_iff_ne.mpr c32
        have c32b1 : (t137003 != 2) = true := bne_iff_ne.mpr c32
        by_cases c52 : t137003 = 3
        · rw [if_pos c52] at H
          have c52b0 : (t137003 == 3) = true := beq_iff_eq.mpr c52
          have c52b1 : (t137003 != 3) = false := bne_eq_false_iff_eq.mpr c52
          clear c52
          obtain ⟨y137019, hy137019⟩ : ∃ y_ : List Int, y_ = ([0, 5] : List Int) := ⟨_, rfl⟩
          replace H : ((spec_reader_one.f k s0_0 t137004 y137019).bind fun bt137022 => (some (a1_0, a1_1, bt137022.1, l1_3, bt137022.2))) = some (r1, r2, r3, r4, r5) := by (rw [hy137019]; with_reducible exact H)
          have Ny137019 := Aside0.mk hy137019
          clear hy137019
          replace H := Option.bind_eq_some_iff.mp H
          obtain ⟨⟨t137022, t137023⟩, A530, H⟩ := H
          replace H : (some (a1_0, a1_1, t137022, l1_3, t137023)) = some (r1, r2, r3, r4, r5) := H
          have A53 := Aside0.mk A530
          clear A530
          simp only [Option.some.injEq, Prod.mk.injEq] at H
          obtain ⟨rfl, rfl, rfl, rfl, rfl⟩ := H
          obtain ⟨Ao54, co54, eo54⟩ := Kd.R_slice HO1_3.out
          subst eo54
          go_enter Try.func136, Try.ntmps136
          go_wp2_with (first | ((with_reducible refine gate_dst (N := 3) rfl ?_); refine box_event ?hg (N := 3) ?hd (cs := #[.int .i64 a1_0, .int .i64 a1_1, .int .i64 a1_2, .slice Ao54 l1_3.length co54]) (t := 27) ?hr ?_; (case hd => rfl); (case hg => rfl); (case hr => (go_simp; done)); intro gb137001 hg w55 hbox hb; have n0_ := Aside0.mk (Kd.R_below HO1_3.out hb); have n1_ := Aside0.mk (IsS144.below HI0.out hb); have n2_ := Aside0.mk (Kept.below (S := (fun k_ => (P1_3_ k_) ∨ k_ = g)) HK.out hb); have n3_ := Aside0.mk (below_step HB.out hb); have n4_ := Aside0.mk (hbox); have n5_ := Aside0.mk (by rw [hg]; exact HK.out.1 : w.heap.size ≤ gb137001); have n6_ := Aside0.mk ((by rw [hg]; exact (below_size HB.out) : w0.heap.size ≤ gb137001)); have n7_ := Aside0.mk ((by rw [hg]; exact Nat.ne_of_lt (IsS144.lt (show IsS144 w0 _ g s0_0 s0_1 from by exact HI0.out)) : g ≠ gb137001)); have n8_ := Aside0.mk ((by rw [hg]; exact Nat.ne_of_gt (IsS144.lt (show IsS144 w0 _ g s0_0 s0_1 from by exact HI0.out)) : gb137001 ≠ g)); clear HO1_3; clear HI0; clear HK; clear HB; have HO1_3 := n0_; have HI0 := n1_; have HK := n2_; have HB := n3_; have BK137001 := n4_; have GW137001 := n5_; have GE137001 := n6_; have NB0_137001 := n7_; have NB137001_0 := n8_; clear n0_ n1_ n2_ n3_ n4_ n5_ n6_ n7_ n8_; clear hb hbox hg) | ((with_reducible refine gate_dst (N := 4) rfl ?_); refine box_event ?hg (N := 4) ?hd (cs := #[.int .i64 0, .int .i64 0, .int .i64 0, .slice none 0 0]) (t := 27) ?hr ?_; (case hd => rfl); (case hg => rfl); (case hr => (go_simp; done)); intro gb137002 hg w56 hbox hb; have n0_ := Aside0.mk (Kd.R_below HO1_3.out hb); have n1_ := Aside0.mk (IsS144.below HI0.out hb); have n2_ := Aside0.mk (blk_below BK137001.out hb); have n3_ := Aside0.mk (Kept.below (S := (fun k_ => (P1_3_ k_) ∨ k_ = g)) HK.out hb); have n4_ := Aside0.mk (below_step HB.out hb); have n5_ := Aside0.mk (hbox); have n6_ := Aside0.mk (by rw [hg]; exact HK.out.1 : w.heap.size ≤ gb137002); have n7_ := Aside0.mk ((by rw [hg]; exact (below_size HB.out) : w0.heap.size ≤ gb137002)); have n8_ := Aside0.mk ((by rw [hg]; exact Nat.ne_of_lt (blk_lt BK137001.out) : gb137001 ≠ gb137002)); have n9_ := Aside0.mk ((by rw [hg]; exact Nat.ne_of_gt (blk_lt BK137001.out) : gb137002 ≠ gb137001)); have n10_ := Aside0.mk ((by rw [hg]; exact Nat.ne_of_lt (IsS144.lt (show IsS144 w0 _ g s0_0 s0_1 from by exact HI0.out)) : g ≠ gb137002)); have n11_ := Aside0.mk ((by rw [hg]; exact Nat.ne_of_gt (IsS144.lt (show IsS144 w0 _ g s0_0 s0_1 from by exact HI0.out)) : gb137002 ≠ g)); clear HO1_3; clear HI0; clear BK137001; clear HK; clear HB; have HO1_3 := n0_; have HI0 := n1_; have BK137001 := n2_; have HK := n3_; have HB := n4_; have BK137002 := n5_; have GW137002 := n6_; have GE137002 := n7_; have NB137001_137002 := n8_; have NB137002_137001 := n9_; have NB0_137002 := n10_; have NB137002_0 := n11_; clear n0_ n1_ n2_ n3_ n4_ n5_ n6_ n7_ n8_ n9_ n10_ n11_; clear hb hbox hg) | ((with_reducible refine gate_callee (f := 127) rfl ?_); refine goesL_ (some 6) rfl rfl Try.func127 (by kernel_rfl) rfl #[.pointer (some ⟨g, 0, none⟩), .int .i64 40] rfl (by (try simp only [List.map_toArray, List.map_cons, List.map_nil]); rfl) ?_; (with_reducible refine (spec_reader_pick.calls k g s0_0 s0_1 40 t137003 t137004 w0 _ ?side1 ?side2 A3.out).mono ?_); (case side1 => repeat (with_reducible exact HI0.out)); (case side2 => repeat (with_reducible exact HB.out)); rintro e w57 ⟨rfl, hi, hb, hk⟩; refine ⟨_, rfl, ?_⟩; have n0_ := Aside0.mk (Kd.R_mono (Kd.R_keep (IsS144.apart (show IsS144 w0 _ g s0_0 s0_1 from by exact HI0.out) HO1_3.out (by decide)) hk (fun _ h => h.2)) (fun _ h => h.1)); have n1_ := Aside0.mk (KeepBut.blk hk (g' := gb137001) (o := .cells #[.int .i64 a1_0, .int .i64 a1_1, .int .i64 a1_2, .slice Ao54 l1_3.length co54] 27 (0, 0)) BK137001.out NB137001_0.out (by simp)); have n2_ := Aside0.mk (KeepBut.blk hk (g' := gb137002) (o := .cells #[.int .i64 0, .int .i64 0, .int .i64 0, .slice none 0 0] 27 (0, 0)) BK137002.out NB137002_0.out (by simp)); have n3_ := Aside0.mk (Kept.of_keep (S := (fun k_ => (P1_3_ k_) ∨ k_ = g)) HK.out hk (.inl (.inr rfl))); have n4_ := Aside0.mk (hb); have n5_ := Aside0.mk (hi); clear HO1_3; clear BK137001; clear BK137002; clear HK; clear HB; clear HI0; have HO1_3 := n0_; have BK137001 := n1_; have BK137002 := n2_; have HK := n3_; have HB := n4_; have HI0 := n5_; clear n0_ n1_ n2_ n3_ n4_ n5_; (try clear hb); (try clear hk); (try clear hi)) | ((with_reducible refine gate_dst (N := 33) rfl ?_); refine Kd.R_lit (Kd.int .i64) _ 3 ?hg (N := 33) ?hd (xs := ([0, 5] : List Int)) (inner := [.int .i64 0, .int .i64 5]) (ok := fun _ => True) (okp := fun _ => True) ?hr ?hp (fun _ hk => hk) trivial (Below.refl _ _) (Nat.le_refl _) (by simp) ?_; (case hd => rfl); (case hg => rfl); (case hr => (go_simp; done)); (case hp => exact (Reps.one (show Kd.M (Kd.int .i64) _ _ _ 0 [.int .i64 0] from rfl) (Reps.one (show Kd.M (Kd.int .i64) _ _ _ 5 [.int .i64 5] from rfl) (Reps.none _ _)))); intro v137020 w58 ho59 hb hg_ hnew_; clear hg_ hnew_; (rw [← Ny137019.out] at ho59); have n0_ := Aside0.mk (Kd.R_elder' HO1_3.out (Kd.R_base ho59) hb); have n1_ := Aside0.mk (Kd.R_lower (Kd.R_new' (Kd.R_newM (M := fun k_ => (P1_3_ k_ ∨ w.heap.size ≤ k_)) ho59 HK.out.1 (fun k_ h_ => .inr h_)) (Kd.R_lt HO1_3.out)) (below_size HB.out)); have n2_ := Aside0.mk (IsS144.below HI0.out hb); have n3_ := Aside0.mk (blk_below BK137001.out hb); have n4_ := Aside0.mk (blk_below BK137002.out hb); have n5_ := Aside0.mk (Kept.below (S := (fun k_ => (P1_3_ k_) ∨ k_ = g)) HK.out hb); have n6_ := Aside0.mk (below_step HB.out hb); clear HO1_3; clear HI0; clear BK137001; clear BK137002; clear HK; clear HB; have HO1_3 := n0_; have HO137021 := n1_; have HI0 := n2_; have BK137001 := n3_; have BK137002 := n4_; have HK := n5_; have HB := n6_; clear n0_ n1_ n2_ n3_ n4_ n5_ n6_; clear hb ho59; obtain ⟨Ao60, co60, eo60⟩ := Kd.R_slice HO137021.out; subst eo60) | ((with_reducible refine gate_callee (f := 147) rfl ?_); refine goesL_ (some 34) rfl rfl Try.func147 (by kernel_rfl) rfl #[.pointer (some ⟨g, 0, none⟩), .slice Ao60 y137019.length co60] rfl (by (try simp only [List.map_toArray, List.map_cons, List.map_nil]); rfl) ?_; (with_reducible refine (spec_reader_one.calls k g s0_0 t137004 _ _ y137019 t137022 t137023 w0 _ ?side1 ?side2 ?side3 ?side4 ?side5 A53.out).mono ?_); (case side1 => repeat (with_reducible exact HI0.out)); (case side2 => repeat (with_reducible exact HB.out)); (case side3 => repeat (exact (Kd.R_reads' HO137021.out).2.2)); (case side4 => exact (Kd.R_reads' HO137021.out).2.1); (case side5 => exact far_slice (IsS144.own_ne HI0.out HO137021.out (by decide))); rintro e w61 ⟨rfl, hi, hb, hk⟩; refine ⟨_, rfl, ?_⟩; have n0_ := Aside0.mk (Kd.R_mono (Kd.R_keep (IsS144.apart (show IsS144 w0 _ g s0_0 t137004 from by exact HI0.out) HO1_3.out (by decide)) hk (fun _ h => h.2)) (fun _ h => h.1)); have n1_ := Aside0.mk (KeepBut.blk hk (g' := gb137001) (o := .cells #[.int .i64 a1_0, .int .i64 a1_1, .int .i64 a1_2, .slice Ao54 l1_3.length co54] 27 (0, 0)) BK137001.out NB137001_0.out (by simp)); have n2_ := Aside0.mk (KeepBut.blk hk (g' := gb137002) (o := .cells #[.int .i64 0, .int .i64 0, .int .i64 0, .slice none 0 0] 27 (0, 0)) BK137002.out NB137002_0.out (by simp)); have n3_ := Aside0.mk (Kd.R_mono (Kd.R_keep (IsS144.apart (show IsS144 w0 _ g s0_0 t137004 from by exact HI0.out) HO137021.out (by decide)) hk (fun _ h => h.2)) (fun _ h => h.1)); have n4_ := Aside0.mk (Kept.of_keep (S := (fun k_ => (P1_3_ k_) ∨ k_ = g)) HK.out hk (.inl (.inr rfl))); have n5_ := Aside0.mk (hb); have n6_ := Aside0.mk (hi); clear HO1_3; clear BK137001; clear BK137002; clear HO137021; clear HK; clear HB; clear HI0; have HO1_3 := n0_; have BK137001 := n1_; have BK137002 := n2_; have HO137021 := n3_; have HK := n4_; have HB := n5_; have HI0 := n6_; clear n0_ n1_ n2_ n3_ n4_ n5_ n6_; (try clear hb); (try clear hk); (try clear hi); have hnb62 := NB137001_137002.out; have hnc62 := NB137002_137001.out; have hnb63 := NB137001_0.out; have hnc63 := NB0_137001.out; have hcz64_0 : w61.cell? ⟨gb137001, 0, none⟩ = some (.int .i64 a1_0) := (blk_cell BK137001.out 0).trans rfl; have hcz64_1 : w61.cell? ⟨gb137001, 1, none⟩ = some (.int .i64 a1_1) := (blk_cell BK137001.out 1).trans rfl; have hcz64_2 : w61.cell? ⟨gb137001, 2, none⟩ = some (.int .i64 a1_2) := (blk_cell BK137001.out 2).trans rfl; have hcz64_3 : w61.cell? ⟨gb137001, 3, none⟩ = some (.slice Ao54 l1_3.length co54) := (blk_cell BK137001.out 3).trans rfl; have hfz64_0 := blk_frozen BK137001.out 0; have hfz64_1 := blk_frozen BK137001.out 1; have hfz64_2 := blk_frozen BK137001.out 2; have hfz64_3 := blk_frozen BK137001.out 3; have hnb65 := NB137002_0.out; have hnc65 := NB0_137002.out; have hcz66_0 : w61.cell? ⟨gb137002, 0, none⟩ = some (.int .i64 0) := (blk_cell BK137002.out 0).trans rfl; have hcz66_1 : w61.cell? ⟨gb137002, 1, none⟩ = some (.int .i64 0) := (blk_cell BK137002.out 1).trans rfl; have hcz66_2 : w61.cell? ⟨gb137002, 2, none⟩ = some (.int .i64 0) := (blk_cell BK137002.out 2).trans rfl; have hcz66_3 : w61.cell? ⟨gb137002, 3, none⟩ = some (.slice none 0 0) := (blk_cell BK137002.out 3).trans rfl; have hfz66_0 := blk_frozen BK137002.out 0; have hfz66_1 := blk_frozen BK137002.out 1; have hfz66_2 := blk_frozen BK137002.out 2; have hfz66_3 := blk_frozen BK137002.out 3))
          refine bodyPost_ret (results_cell_row rfl _ _ gb137002 27 #[.int .i64 a1_0, .int .i64 a1_1, .int .i64 t137022, .slice Ao54 l1_3.length co54] (0, 0) _ rfl (by refine blk_put (cs := #[.int .i64 a1_0, .int .i64 a1_1, .int .i64 t137022, .slice none 0 0]) ?_ 3 _ rfl; (with_reducible repeat (first | refine blk_drewN ?_ _ | refine blk_drew ?_ | refine blk_alloc ?_ _)); refine blk_put (cs := #[.int .i64 a1_0, .int .i64 a1_1, .int .i64 0, .slice none 0 0]) ?_ 2 _ rfl; (with_reducible repeat (first | refine blk_drewN ?_ _ | refine blk_drew ?_ | refine blk_alloc ?_ _)); refine blk_put (cs := #[.int .i64 a1_0, .int .i64 0, .int .i64 0, .slice none 0 0]) ?_ 1 _ rfl; (with_reducible repeat (first | refine blk_drewN ?_ _ | refine blk_drew ?_ | refine blk_alloc ?_ _)); refine blk_put (cs := #[.int .i64 0, .int .i64 0, .int .i64 0, .slice none 0 0]) ?_ 0 _ rfl; (with_reducible repeat (first | refine blk_drewN ?_ _ | refine blk_drew ?_ | refine blk_alloc ?_ _)); refine blk_far ?_ NB137002_137001.out _; (with_reducible repeat (first | refine blk_drewN ?_ _ | refine blk_drew ?_ | refine blk_alloc ?_ _)); exact BK137002.out) Try.underlying27 rfl (by kernel_rfl)) rfl ?_
          exact ⟨_, by rfl, Kd.Q_of_R (by exact Kd.R_mono (Kd.R_far (p := ⟨gb137002, 3, none⟩) (Kd.R_far (p := ⟨gb137002, 2, none⟩) (Kd.R_far (p := ⟨gb137002, 1, none⟩) (Kd.R_far (p := ⟨gb137002, 0, none⟩) (Kd.R_far (p := ⟨gb137001, 2, none⟩) (Kd.R_types (Kd.R_types HO1_3.out BK137001.out (by decide)) BK137002.out (by decide)) (fun _ hk => hk.1.2) (.int .i64 t137022)) (fun _ hk => hk.2) (.int .i64 a1_0)) (fun _ hk => hk.2) (.int .i64 a1_1)) (fun _ hk => hk.2) (.int .i64 t137022)) (fun _ hk => hk.2) (.slice Ao54 l1_3.length co54)) (fun _ hk => hk.1.1.1)), by repeat (with_reducible first | exact HI0.out | refine IsS144.far ?_ NB0_137001.out _ | refine IsS144.far ?_ NB0_137002.out _), by repeat (with_reducible first | exact HB.out | refine below_set ?_ GE137001.out | refine below_set ?_ GE137002.out), by repeat ((with_reducible first | exact HK.out | refine Kept.setCell ?_ (.inr GW137001.out) _ | refine Kept.setCell ?_ (.inr GW137002.out) _))⟩
        · rw [if_neg c52] at H
          have c52b0 : (t137003 == 3) = false := beq_eq_false_iff_ne.mpr c52
          have c52b1 : (t137003 != 3) = true := bne_iff_ne.mpr c52
          simp only [Option.some.injEq, Prod.mk.injEq] at H
          obtain ⟨rfl, rfl, rfl, rfl, rfl⟩ := H
          obtain ⟨Ao67, co67, eo67⟩ := Kd.R_slice HO1_3.out
          subst eo67
          go_enter Try.func136, Try.ntmps136
          go_wp2_with (first | ((with_reducible refine gate_dst (N := 3) rfl ?_); refine box_event ?hg (N := 3) ?hd (cs := #[.int .i64 a1_0, .int .i64 a1_1, .int .i64 a1_2, .slice Ao67 l1_3.length co67]) (t := 27) ?hr ?_; (case hd => rfl); (case hg => rfl); (case hr => (go_simp; done)); intro gb137001 hg w68 hbox hb; have n0_ := Aside0.mk (Kd.R_below HO1_3.out hb); have n1_ := Aside0.mk (IsS144.below HI0.out hb); have n2_ := Aside0.mk (Kept.below (S := (fun k_ => (P1_3_ k_) ∨ k_ = g)) HK.out hb); have n3_ := Aside0.mk (below_step HB.out hb); have n4_ := Aside0.mk (hbox); have n5_ := Aside0.mk (by rw [hg]; exact HK.out.1 : w.heap.size ≤ gb137001); have n6_ := Aside0.mk ((by rw [hg]; exact (below_size HB.out) : w0.heap.size ≤ gb137001)); have n7_ := Aside0.mk ((by rw [hg]; exact Nat.ne_of_lt (IsS144.lt (show IsS144 w0 _ g s0_0 s0_1 from by exact HI0.out)) : g ≠ gb137001)); have n8_ := Aside0.mk ((by rw [hg]; exact Nat.ne_of_gt (IsS144.lt (show IsS144 w0 _ g s0_0 s0_1 from by exact HI0.out)) : gb137001 ≠ g)); clear HO1_3; clear HI0; clear HK; clear HB; have HO1_3 := n0_; have HI0 := n1_; have HK := n2_; have HB := n3_; have BK137001 := n4_; have GW137001 := n5_; have GE137001 := n6_; have NB0_137001 := n7_; have NB137001_0 := n8_; clear n0_ n1_ n2_ n3_ n4_ n5_ n6_ n7_ n8_; clear hb hbox hg) | ((with_reducible refine gate_dst (N := 4) rfl ?_); refine box_event ?hg (N := 4) ?hd (cs := #[.int .i64 0, .int .i64 0, .int .i64 0, .slice none 0 0]) (t := 27) ?hr ?_; (case hd => rfl); (case hg => rfl); (case hr => (go_simp; done)); intro gb137002 hg w69 hbox hb; have n0_ := Aside0.mk (Kd.R_below HO1_3.out hb); have n1_ := Aside0.mk (IsS144.below HI0.out hb); have n2_ := Aside0.mk (blk_below BK137001.out hb); have n3_ := Aside0.mk (Kept.below (S := (fun k_ => (P1_3_ k_) ∨ k_ = g)) HK.out hb); have n4_ := Aside0.mk (below_step HB.out hb); have n5_ := Aside0.mk (hbox); have n6_ := Aside0.mk (by rw [hg]; exact HK.out.1 : w.heap.size ≤ gb137002); have n7_ := Aside0.mk ((by rw [hg]; exact (below_size HB.out) : w0.heap.size ≤ gb137002)); have n8_ := Aside0.mk ((by rw [hg]; exact Nat.ne_of_lt (blk_lt BK137001.out) : gb137001 ≠ gb137002)); have n9_ := Aside0.mk ((by rw [hg]; exact Nat.ne_of_gt (blk_lt BK137001.out) : gb137002 ≠ gb137001)); have n10_ := Aside0.mk ((by rw [hg]; exact Nat.ne_of_lt (IsS144.lt (show IsS144 w0 _ g s0_0 s0_1 from by exact HI0.out)) : g ≠ gb137002)); have n11_ := Aside0.mk ((by rw [hg]; exact Nat.ne_of_gt (IsS144.lt (show IsS144 w0 _ g s0_0 s0_1 from by exact HI0.out)) : gb137002 ≠ g)); clear HO1_3; clear HI0; clear BK137001; clear HK; clear HB; have HO1_3 := n0_; have HI0 := n1_; have BK137001 := n2_; have HK := n3_; have HB := n4_; have BK137002 := n5_; have GW137002 := n6_; have GE137002 := n7_; have NB137001_137002 := n8_; have NB137002_137001 := n9_; have NB0_137002 := n10_; have NB137002_0 := n11_; clear n0_ n1_ n2_ n3_ n4_ n5_ n6_ n7_ n8_ n9_ n10_ n11_; clear hb hbox hg) | ((with_reducible refine gate_callee (f := 127) rfl ?_); refine goesL_ (some 6) rfl rfl Try.func127 (by kernel_rfl) rfl #[.pointer (some ⟨g, 0, none⟩), .int .i64 40] rfl (by (try simp only [List.map_toArray, List.map_cons, List.map_nil]); rfl) ?_; (with_reducible refine (spec_reader_pick.calls k g s0_0 s0_1 40 t137003 t137004 w0 _ ?side1 ?side2 A3.out).mono ?_); (case side1 => repeat (with_reducible exact HI0.out)); (case side2 => repeat (with_reducible exact HB.out)); rintro e w70 ⟨rfl, hi, hb, hk⟩; refine ⟨_, rfl, ?_⟩; have n0_ := Aside0.mk (Kd.R_mono (Kd.R_keep (IsS144.apart (show IsS144 w0 _ g s0_0 s0_1 from by exact HI0.out) HO1_3.out (by decide)) hk (fun _ h => h.2)) (fun _ h => h.1)); have n1_ := Aside0.mk (KeepBut.blk hk (g' := gb137001) (o := .cells #[.int .i64 a1_0, .int .i64 a1_1, .int .i64 a1_2, .slice Ao67 l1_3.length co67] 27 (0, 0)) BK137001.out NB137001_0.out (by simp)); have n2_ := Aside0.mk (KeepBut.blk hk (g' := gb137002) (o := .cells #[.int .i64 0, .int .i64 0, .int .i64 0, .slice none 0 0] 27 (0, 0)) BK137002.out NB137002_0.out (by simp)); have n3_ := Aside0.mk (Kept.of_keep (S := (fun k_ => (P1_3_ k_) ∨ k_ = g)) HK.out hk (.inl (.inr rfl))); have n4_ := Aside0.mk (hb); have n5_ := Aside0.mk (hi); clear HO1_3; clear BK137001; clear BK137002; clear HK; clear HB; clear HI0; have HO1_3 := n0_; have BK137001 := n1_; have BK137002 := n2_; have HK := n3_; have HB := n4_; have HI0 := n5_; clear n0_ n1_ n2_ n3_ n4_ n5_; (try clear hb); (try clear hk); (try clear hi); have hnb71 := NB137001_137002.out; have hnc71 := NB137002_137001.out; have hnb72 := NB137001_0.out; have hnc72 := NB0_137001.out; have hcz73_0 : w70.cell? ⟨gb137001, 0, none⟩ = some (.int .i64 a1_0) := (blk_cell BK137001.out 0).trans rfl; have hcz73_1 : w70.cell? ⟨gb137001, 1, none⟩ = some (.int .i64 a1_1) := (blk_cell BK137001.out 1).trans rfl; have hcz73_2 : w70.cell? ⟨gb137001, 2, none⟩ = some (.int .i64 a1_2) := (blk_cell BK137001.out 2).trans rfl; have hcz73_3 : w70.cell? ⟨gb137001, 3, none⟩ = some (.slice Ao67 l1_3.length co67) := (blk_cell BK137001.out 3).trans rfl; have hfz73_0 := blk_frozen BK137001.out 0; have hfz73_1 := blk_frozen BK137001.out 1; have hfz73_2 := blk_frozen BK137001.out 2; have hfz73_3 := blk_frozen BK137001.out 3; have hnb74 := NB137002_0.out; have hnc74 := NB0_137002.out; have hcz75_0 : w70.cell? ⟨gb137002, 0, none⟩ = some (.int .i64 0) := (blk_cell BK137002.out 0).trans rfl; have hcz75_1 : w70.cell? ⟨gb137002, 1, none⟩ = some (.int .i64 0) := (blk_cell BK137002.out 1).trans rfl; have hcz75_2 : w70.cell? ⟨gb137002, 2, none⟩ = some (.int .i64 0) := (blk_cell BK137002.out 2).trans rfl; have hcz75_3 : w70.cell? ⟨gb137002, 3, none⟩ = some (.slice none 0 0) := (blk_cell BK137002.out 3).trans rfl; have hfz75_0 := blk_frozen BK137002.out 0; have hfz75_1 := blk_frozen BK137002.out 1; have hfz75_2 := blk_frozen BK137002.out 2; have hfz75_3 := blk_frozen BK137002.out 3))
          refine bodyPost_ret (results_cell_row rfl _ _ gb137002 27 #[.int .i64 a1_0, .int .i64 a1_1, .int .i64 a1_2, .slice Ao67 l1_3.length co67] (0, 0) _ rfl (by refine blk_put (cs := #[.int .i64 a1_0, .int .i64 a1_1, .int .i64 a1_2, .slice none 0 0]) ?_ 3 _ rfl; (with_reducible repeat (first | refine blk_drewN ?_ _ | refine blk_drew ?_ | refine blk_alloc ?_ _)); refine blk_put (cs := #[.int .i64 a1_0, .int .i64 a1_1, .int .i64 0, .slice none 0 0]) ?_ 2 _ rfl; (with_reducible repeat (first | refine blk_drewN ?_ _ | refine blk_drew ?_ | refine blk_alloc ?_ _)); refine blk_put (cs := #[.int .i64 a1_0, .int .i64 0, .int .i64 0, .slice none 0 0]) ?_ 1 _ rfl; (with_reducible repeat (first | refine blk_drewN ?_ _ | refine blk_drew ?_ | refine blk_alloc ?_ _)); refine blk_put (cs := #[.int .i64 0, .int .i64 0, .int .i64 0, .slice none 0 0]) ?_ 0 _ rfl; (with_reducible repeat (first | refine blk_drewN ?_ _ | refine blk_drew ?_ | refine blk_alloc ?_ _)); exact BK137002.out) Try.underlying27 rfl (by kernel_rfl)) rfl ?_
          exact ⟨_, by rfl, Kd.Q_of_R (by exact Kd.R_mono (Kd.R_far (p := ⟨gb137002, 3, none⟩) (Kd.R_far (p := ⟨gb137002, 2, none⟩) (Kd.R_far (p := ⟨gb137002, 1, none⟩) (Kd.R_far (p := ⟨gb137002, 0, none⟩) (Kd.R_types HO1_3.out BK137002.out (by decide)) (fun _ hk => hk.2) (.int .i64 a1_0)) (fun _ hk => hk.2) (.int .i64 a1_1)) (fun _ hk => hk.2) (.int .i64 a1_2)) (fun _ hk => hk.2) (.slice Ao67 l1_3.length co67)) (fun _ hk => hk.1)), by repeat (with_reducible first | exact HI0.out | refine IsS144.far ?_ NB0_137002.out _), by repeat (with_reducible first | exact HB.out | refine below_set ?_ GE137002.out), by repeat ((with_reducible first | exact HK.out | refine Kept.setCell ?_ (.inr GW137002.out) _))⟩


def spec_newImage.f (a0 : Int) (a1 : Int) (a2 : Int) : Option (Int × Int × Int × List Int) := if 0 ≤ (wrap64 ((wrap64 (a0 * a1)) * a2)) then (if (wrap64 ((wrap64 (a0 * a1)) * a2) : Int).toNat ≤ 35184372088832 then (some (a0, a1, a2, (List.replicate (wrap64 ((wrap64 (a0 * a1)) * a2) : Int).toNat 0))) else (none)) else (none)
set_option maxHeartbeats 8000000 in
set_option maxRecDepth 100000 in
theorem spec_newImage.calls (a0 : Int) (a1 : Int) (a2 : Int) (r1 : Int) (r2 : Int) (r3 : Int) (r4 : List Int) (w : World) (h : spec_newImage.f a0 a1 a2 = some (r1, r2, r3, r4)) :
    Calls Try.prog 111 #[.int .i64 a0, .int .i64 a1, .int .i64 a2] w fun e w' => ∃ v3_ : Value, e = .returned (.agg #[.int .i64 r1, .int .i64 r2, .int .i64 r3, v3_]) ∧ Kd.R (Kd.int .i64) 3 w' w.heap.size (fun _ => True) v3_ r4 ∧ Below w.heap.size w w' := by
  have hu27 := Try.underlying27
  have HB := Aside0.mk (Below.refl w.heap.size w)
  have H : (if 0 ≤ (wrap64 ((wrap64 (a0 * a1)) * a2)) then (if (wrap64 ((wrap64 (a0 * a1)) * a2) : Int).toNat ≤ 35184372088832 then (some (a0, a1, a2, (List.replicate (wrap64 ((wrap64 (a0 * a1)) * a2) : Int).toNat 0))) else (none)) else (none)) = some (r1, r2, r3, r4) := h
  clear h
  obtain ⟨ji4, hji4⟩ : ∃ j_ : Int, (wrap64 ((wrap64 (a0 * a1)) * a2)) = j_ := ⟨_, rfl⟩
  replace H : (if 0 ≤ (ji4) then (if (ji4 : Int).toNat ≤ 35184372088832 then (some (a0, a1, a2, (List.replicate (ji4 : Int).toNat 0))) else (none)) else (none)) = some (r1, r2, r3, r4) := by first | (rw [hji4] at H; exact H) | (simp only [hji4] at H ⊢; exact H)
  have hji4w : (IntKind.i64.wrap ((wrap64 (a0 * a1)) * a2)) = ji4 := (i64_w _).trans hji4
  by_cases c5 : 0 ≤ (ji4)
  · rw [if_pos c5] at H
    have c5b0 := eq_true c5
    have c5b1 : decide (0 ≤ (ji4)) = true := decide_eq_true c5
    clear c5
    by_cases c6 : (ji4 : Int).toNat ≤ 35184372088832
    · rw [if_pos c6] at H
      have c6b0 := eq_true c6
      have c6b1 : decide ((ji4 : Int).toNat ≤ 35184372088832) = true := decide_eq_true c6
      clear c6
      obtain ⟨y112002, hy112002⟩ : ∃ y_ : List Int, y_ = (List.replicate (ji4 : Int).toNat 0) := ⟨_, rfl⟩
      replace H : (some (a0, a1, a2, y112002)) = some (r1, r2, r3, r4) := by first | (rw [hy112002]; with_reducible exact H) | (have H2_ := (Option.bind_some _ _).symm.trans H; rw [hy112002]; with_reducible exact H2_) | (have H2_ := (Option.bind_some _ _).symm.trans H; with_reducible exact H2_) | with_reducible exact H | (rw [hy112002]; exact H) | exact H
      have Ny112002 := Aside0.mk hy112002
      clear hy112002
      simp only [Option.some.injEq, Prod.mk.injEq] at H
      obtain ⟨rfl, rfl, rfl, rfl⟩ := H
      go_enter Try.func111, Try.ntmps111
      go_wp2_with (first | ((with_reducible refine gate_dst (N := 6) rfl ?_); refine box_event ?hg (N := 6) ?hd (cs := #[.int .i64 0, .int .i64 0, .int .i64 0, .slice none 0 0]) (t := 27) ?hr ?_; (case hd => rfl); (case hg => rfl); (case hr => first | (go_simp; done) | (go_simp; rfl)); intro gb112001 hg w7 hbox hb; have n0_ := Aside0.mk (below_step (by repeat (first | (with_reducible first | exact HB.out | apply below_alloc | apply pw_below_drewN | apply below_drew1) | exact HB.out)) hb); have n1_ := Aside0.mk (hbox); have n2_ := Aside0.mk ((by rw [hg]; exact (below_size (by repeat (first | (with_reducible first | exact HB.out | apply below_alloc | apply pw_below_drewN | apply below_drew1) | exact HB.out))) : w.heap.size ≤ gb112001)); have n3_ := Aside0.mk ((by rw [hg]; exact (below_size (by repeat (first | (with_reducible first | exact HB.out | apply below_alloc | apply pw_below_drewN | apply below_drew1) | exact HB.out))) : w.heap.size ≤ gb112001)); clear HB; have HB := n0_; have BK112001 := n1_; have GW112001 := n2_; have GE112001 := n3_; clear n0_ n1_ n2_ n3_; clear hb hbox hg) | ((with_reducible refine gate_dst (N := 15) rfl ?_); refine Kd.R_make (Kd.int .i64) _ 3 rfl (N := 15) rfl 22 _ _ rfl ji4 rfl rfl Try.underlying22 (.int .i64 0) 8 info3 rfl (by decide) (by omega) 0 (ok := fun _ => True) (okp := fun _ => True) rfl (fun _ hk => hk) trivial (of_decide_eq_true (by first | (with_reducible assumption) | assumption)) (Nat.le_trans (Nat.mul_le_mul_right _ (of_decide_eq_true (by first | (with_reducible assumption) | assumption) : ji4.toNat ≤ 35184372088832)) (by omega)) (Below.refl _ _) (Nat.le_refl _) ?_; intro v112003 w8 ho9 hb hg_ hnew_; clear hg_ hnew_; (first | rw [← Ny112002.out] at ho9 | (simp only [Int.reduceToNat] at ho9; rw [← Ny112002.out] at ho9)); have n0_ := Aside0.mk (Kd.R_lower ho9 (below_size (by repeat (first | (with_reducible first | exact HB.out | apply below_alloc | apply pw_below_drewN | apply below_drew1 | refine below_set ?_ GE112001.out) | exact HB.out)))); have n1_ := Aside0.mk (blk_below (g := gb112001) (o := .cells #[.int .i64 0, .int .i64 0, .int .i64 0, .slice none 0 0] 27 (0, 0)) (by (with_reducible repeat (first | refine blk_drewN ?_ _ | refine blk_drew ?_ | refine blk_alloc ?_ _)); exact BK112001.out) hb); have n2_ := Aside0.mk (below_step (by repeat (first | (with_reducible first | exact HB.out | apply below_alloc | apply pw_below_drewN | apply below_drew1 | refine below_set ?_ GE112001.out) | exact HB.out)) hb); clear BK112001; clear HB; have HO112004 := n0_; have BK112001 := n1_; have HB := n2_; clear n0_ n1_ n2_; clear hb ho9; obtain ⟨Ao10, co10, eo10⟩ := Kd.R_slice HO112004.out; subst eo10; have hcz11_0 : w8.cell? ⟨gb112001, 0, none⟩ = some (.int .i64 0) := (blk_cell BK112001.out 0).trans rfl; have hcz11_1 : w8.cell? ⟨gb112001, 1, none⟩ = some (.int .i64 0) := (blk_cell BK112001.out 1).trans rfl; have hcz11_2 : w8.cell? ⟨gb112001, 2, none⟩ = some (.int .i64 0) := (blk_cell BK112001.out 2).trans rfl; have hcz11_3 : w8.cell? ⟨gb112001, 3, none⟩ = some (.slice none 0 0) := (blk_cell BK112001.out 3).trans rfl; have hfz11_0 := blk_frozen BK112001.out 0; have hfz11_1 := blk_frozen BK112001.out 1; have hfz11_2 := blk_frozen BK112001.out 2; have hfz11_3 := blk_frozen BK112001.out 3))
      refine bodyPost_ret (results_cell_row rfl _ _ gb112001 27 #[.int .i64 a0, .int .i64 a1, .int .i64 a2, .slice Ao10 y112002.length co10] (0, 0) _ rfl (by (with_reducible repeat (first | refine blk_drewN ?_ _ | refine blk_drew ?_ | refine blk_alloc ?_ _)); refine blk_put (cs := #[.int .i64 a0, .int .i64 a1, .int .i64 a2, .slice none 0 0]) ?_ 3 _ rfl; (with_reducible repeat (first | refine blk_drewN ?_ _ | refine blk_drew ?_ | refine blk_alloc ?_ _)); refine blk_put (cs := #[.int .i64 a0, .int .i64 a1, .int .i64 0, .slice none 0 0]) ?_ 2 _ rfl; (with_reducible repeat (first | refine blk_drewN ?_ _ | refine blk_drew ?_ | refine blk_alloc ?_ _)); refine blk_put (cs := #[.int .i64 a0, .int .i64 0, .int .i64 0, .slice none 0 0]) ?_ 1 _ rfl; (with_reducible repeat (first | refine blk_drewN ?_ _ | refine blk_drew ?_ | refine blk_alloc ?_ _)); refine blk_put (cs := #[.int .i64 0, .int .i64 0, .int .i64 0, .slice none 0 0]) ?_ 0 _ rfl; (with_reducible repeat (first | refine blk_drewN ?_ _ | refine blk_drew ?_ | refine blk_alloc ?_ _)); exact BK112001.out) Try.underlying27 rfl (by kernel_rfl)) rfl ?_
      exact ⟨_, by first | rfl | (simp [errW_none, errW_some] <;> rfl) | (simp only [← hji4]; first | rfl | (simp [errW_none, errW_some] <;> rfl)) | (simp [*, errW_none, errW_some] <;> rfl), by (with_reducible repeat (first | apply Kd.R_alloc | apply Kd.R_drewN | apply Kd.R_drew)); exact Kd.R_mono (Kd.R_far (p := ⟨gb112001, 3, none⟩) (Kd.R_far (p := ⟨gb112001, 2, none⟩) (Kd.R_far (p := ⟨gb112001, 1, none⟩) (Kd.R_far (p := ⟨gb112001, 0, none⟩) (Kd.R_types HO112004.out BK112001.out (by decide)) (fun _ hk => hk.2) (.int .i64 a0)) (fun _ hk => hk.2) (.int .i64 a1)) (fun _ hk => hk.2) (.int .i64 a2)) (fun _ hk => hk.2) (.slice Ao10 y112002.length co10)) (fun _ hk => trivial), by repeat (first | (with_reducible first | exact HB.out | apply below_alloc | apply pw_below_drewN | apply below_drew1 | refine below_set ?_ GE112001.out) | exact HB.out)⟩
    · rw [if_neg c6] at H
      exact absurd H (by simp)
  · rw [if_neg c5] at H
    exact absurd H (by simp)


def spec_randomImage.l0 : Nat → Int → Int → Int → List Int → Int → Int → Int → Int → List Int → Option (Int × Int × Int × List Int × Int)
  | 0, _, _, _, _, _, _, _, _, _ => none
  | k + 1, x6, x7, x8, x1000, x1001, x138019000, x138019001, x138019002, x138019003 => if x8 < (x138019003.length : Int) then (if x6 = 0 then ((spec_reader_pick.f k x1000 x1001 256).bind fun bt138023 => (if 0 ≤ x8 then (spec_randomImage.l0 k x6 bt138023.1 (wrap64 (x8 + 1)) x1000 bt138023.2 x138019000 x138019001 x138019002 (x138019003.set (x8 : Int).toNat bt138023.1)) else none)) else (if x6 = 1 then ((spec_reader_pick.f k x1000 x1001 5).bind fun bt138026 => (if 0 ≤ x8 then (spec_randomImage.l0 k x6 (Int.tmod (wrap64 ((wrap64 (x7 + bt138026.1)) + 254)) 256) (wrap64 (x8 + 1)) x1000 bt138026.2 x138019000 x138019001 x138019002 (x138019003.set (x8 : Int).toNat (Int.tmod (wrap64 ((wrap64 (x7 + bt138026.1)) + 254)) 256))) else none)) else (if x6 = 2 then ((spec_reader_pick.f k x1000 x1001 4).bind fun bt138029 => (if 0 ≤ x8 then (spec_randomImage.l0 k x6 (wrap64 (60 * bt138029.1)) (wrap64 (x8 + 1)) x1000 bt138029.2 x138019000 x138019001 x138019002 (x138019003.set (x8 : Int).toNat (wrap64 (60 * bt138029.1)))) else none)) else (if 0 ≤ x8 then (spec_randomImage.l0 k x6 x7 (wrap64 (x8 + 1)) x1000 x1001 x138019000 x138019001 x138019002 (x138019003.set (x8 : Int).toNat x7)) else none)))) else (some (x138019000, x138019001, x138019002, x138019003, x1001))
def spec_randomImage.f (k : Nat) (s0_0 : List Int) (s0_1 : Int) (a1 : Int) : Option (Int × Int × Int × List Int × Int) := (spec_reader_one.f k s0_0 s0_1 ([3, 4, 2, 5, 1, 8, 6] : List Int)).bind fun bt138005 => ((spec_reader_one.f k s0_0 bt138005.2 ([3, 2, 4, 1, 5, 8] : List Int)).bind fun bt138010 => ((spec_newImage.f bt138005.1 bt138010.1 a1).bind fun bt138012 => ((spec_reader_pick.f k s0_0 bt138010.2 4).bind fun bt138019 => ((spec_reader_pick.f k s0_0 bt138019.2 256).bind fun bt138021 => (spec_randomImage.l0 k bt138019.1 bt138021.1 0 s0_0 bt138021.2 bt138012.1 bt138012.2.1 bt138012.2.2.1 bt138012.2.2.2)))))
theorem spec_randomImage.mono_l : ∀ k, (∀ y0 y1 y2 y3 y4 y5 y6 y7 y8, LeO (spec_randomImage.l0 k y0 y1 y2 y3 y4 y5 y6 y7 y8) (spec_randomImage.l0 (k + 1) y0 y1 y2 y3 y4 y5 y6 y7 y8))
  | 0 => fun _ _ _ _ _ _ _ _ _ r h => by simp [spec_randomImage.l0] at h
  | k + 1 => by
    have ih0 := spec_randomImage.mono_l k
    · intro y0 y1 y2 y3 y4 y5 y6 y7 y8
      unfold spec_randomImage.l0
      repeat' first | (with_reducible exact ih0 _ _ _ _ _ _ _ _ _) | (with_reducible exact spec_reader_pick.mono _ _ _ _) | (with_reducible exact LeO.refl _) | (with_reducible refine LeO.ite ?_ ?_) | (with_reducible refine LeO.bind ?_ (fun _ => ?_))
theorem spec_randomImage.mono : ∀ a0 a1 a2 k, LeO (spec_randomImage.f k a0 a1 a2) (spec_randomImage.f (k + 1) a0 a1 a2) := by
  intro a0 a1 a2 k
  have ih0 := spec_randomImage.mono_l k
  unfold spec_randomImage.f
  repeat' first | (with_reducible exact ih0 _ _ _ _ _ _ _ _ _) | (with_reducible exact spec_reader_one.mono _ _ _ _) | (with_reducible exact spec_reader_pick.mono _ _ _ _) | (with_reducible exact LeO.refl _) | (with_reducible refine LeO.bind ?_ (fun _ => ?_))
set_option maxHeartbeats 8000000 in
set_option maxRecDepth 100000 in
theorem spec_randomImage.calls (k : Nat) (g : Nat) (s0_0 : List Int) (s0_1 : Int) (a1 : Int) (r1 : Int) (r2 : Int) (r3 : Int) (r4 : List Int) (r5 : Int) (w0 w : World) (hI : IsS144 w0 w g s0_0 s0_1) (hB : Below w0.heap.size w0 w) (h : spec_randomImage.f k s0_0 s0_1 a1 = some (r1, r2, r3, r4, r5)) :
    Calls Try.prog 137 #[.pointer (some ⟨g, 0, none⟩), .int .i64 a1] w fun e w' => ∃ v3_ : Value, e = .returned (.agg #[.int .i64 r1, .int .i64 r2, .int .i64 r3, v3_]) ∧ Kd.R (Kd.int .i64) 3 w' w.heap.size (fun _ => True) v3_ r4 ∧ IsS144 w0 w' g s0_0 r5 ∧ Below w0.heap.size w0 w' ∧ KeepBut w w' g none := by
  have hu27 := Try.underlying27
  have HI0 := Aside0.mk hI
  have HK := Aside0.mk (KeepBut.refl w g none)
  have HL := Aside0.mk hB.size
  clear hI
  have HW0 := Aside0.mk hB.size
  have HB := Aside0.mk hB
  clear hB
  have H : ((spec_reader_one.f k s0_0 s0_1 ([3, 4, 2, 5, 1, 8, 6] : List Int)).bind fun bt138005 => ((spec_reader_one.f k s0_0 bt138005.2 ([3, 2, 4, 1, 5, 8] : List Int)).bind fun bt138010 => ((spec_newImage.f bt138005.1 bt138010.1 a1).bind fun bt138012 => ((spec_reader_pick.f k s0_0 bt138010.2 4).bind fun bt138019 => ((spec_reader_pick.f k s0_0 bt138019.2 256).bind fun bt138021 => (spec_randomImage.l0 k bt138019.1 bt138021.1 0 s0_0 bt138021.2 bt138012.1 bt138012.2.1 bt138012.2.2.1 bt138012.2.2.2)))))) = some (r1, r2, r3, r4, r5) := h
  clear h
  obtain ⟨y138002, hy138002⟩ : ∃ y_ : List Int, y_ = ([3, 4, 2, 5, 1, 8, 6] : List Int) := ⟨_, rfl⟩
  replace H : ((spec_reader_one.f k s0_0 s0_1 y138002).bind fun bt138005 => ((spec_reader_one.f k s0_0 bt138005.2 ([3, 2, 4, 1, 5, 8] : List Int)).bind fun bt138010 => ((spec_newImage.f bt138005.1 bt138010.1 a1).bind fun bt138012 => ((spec_reader_pick.f k s0_0 bt138010.2 4).bind fun bt138019 => ((spec_reader_pick.f k s0_0 bt138019.2 256).bind fun bt138021 => (spec_randomImage.l0 k bt138019.1 bt138021.1 0 s0_0 bt138021.2 bt138012.1 bt138012.2.1 bt138012.2.2.1 bt138012.2.2.2)))))) = some (r1, r2, r3, r4, r5) := by (rw [hy138002]; with_reducible exact H)
  have Ny138002 := Aside0.mk hy138002
  clear hy138002
  replace H := Option.bind_eq_some_iff.mp H
  obtain ⟨⟨t138005, t138006⟩, A30, H⟩ := H
  replace H : ((spec_reader_one.f k s0_0 t138006 ([3, 2, 4, 1, 5, 8] : List Int)).bind fun bt138010 => ((spec_newImage.f t138005 bt138010.1 a1).bind fun bt138012 => ((spec_reader_pick.f k s0_0 bt138010.2 4).bind fun bt138019 => ((spec_reader_pick.f k s0_0 bt138019.2 256).bind fun bt138021 => (spec_randomImage.l0 k bt138019.1 bt138021.1 0 s0_0 bt138021.2 bt138012.1 bt138012.2.1 bt138012.2.2.1 bt138012.2.2.2))))) = some (r1, r2, r3, r4, r5) := H
  have A3 := Aside0.mk A30
  clear A30
  obtain ⟨y138007, hy138007⟩ : ∃ y_ : List Int, y_ = ([3, 2, 4, 1, 5, 8] : List Int) := ⟨_, rfl⟩
  replace H : ((spec_reader_one.f k s0_0 t138006 y138007).bind fun bt138010 => ((spec_newImage.f t138005 bt138010.1 a1).bind fun bt138012 => ((spec_reader_pick.f k s0_0 bt138010.2 4).bind fun bt138019 => ((spec_reader_pick.f k s0_0 bt138019.2 256).bind fun bt138021 => (spec_randomImage.l0 k bt138019.1 bt138021.1 0 s0_0 bt138021.2 bt138012.1 bt138012.2.1 bt138012.2.2.1 bt138012.2.2.2))))) = some (r1, r2, r3, r4, r5) := by (rw [hy138007]; with_reducible exact H)
  have Ny138007 := Aside0.mk hy138007
  clear hy138007
  replace H := Option.bind_eq_some_iff.mp H
  obtain ⟨⟨t138010, t138011⟩, A40, H⟩ := H
  replace H : ((spec_newImage.f t138005 t138010 a1).bind fun bt138012 => ((spec_reader_pick.f k s0_0 t138011 4).bind fun bt138019 => ((spec_reader_pick.f k s0_0 bt138019.2 256).bind fun bt138021 => (spec_randomImage.l0 k bt138019.1 bt138021.1 0 s0_0 bt138021.2 bt138012.1 bt138012.2.1 bt138012.2.2.1 bt138012.2.2.2)))) = some (r1, r2, r3, r4, r5) := H
  have A4 := Aside0.mk A40
  clear A40
  replace H := Option.bind_eq_some_iff.mp H
  obtain ⟨⟨t138012, t138013, t138014, t138015⟩, A50, H⟩ := H
  replace H : ((spec_reader_pick.f k s0_0 t138011 4).bind fun bt138019 => ((spec_reader_pick.f k s0_0 bt138019.2 256).bind fun bt138021 => (spec_randomImage.l0 k bt138019.1 bt138021.1 0 s0_0 bt138021.2 t138012 t138013 t138014 t138015))) = some (r1, r2, r3, r4, r5) := H
  have A5 := Aside0.mk A50
  clear A50
  replace H := Option.bind_eq_some_iff.mp H
  obtain ⟨⟨t138019, t138020⟩, A60, H⟩ := H
  replace H : ((spec_reader_pick.f k s0_0 t138020 256).bind fun bt138021 => (spec_randomImage.l0 k t138019 bt138021.1 0 s0_0 bt138021.2 t138012 t138013 t138014 t138015)) = some (r1, r2, r3, r4, r5) := H
  have A6 := Aside0.mk A60
  clear A60
  replace H := Option.bind_eq_some_iff.mp H
  obtain ⟨⟨t138021, t138022⟩, A70, H⟩ := H
  replace H : (spec_randomImage.l0 k t138019 t138021 0 s0_0 t138022 t138012 t138013 t138014 t138015) = some (r1, r2, r3, r4, r5) := H
  have A7 := Aside0.mk A70
  clear A70
  have H' := Aside0.mk H
  clear H
  go_enter Try.func137, Try.ntmps137
  go_wp2_with (first | ((with_reducible refine gate_dst (N := 4) rfl ?_); refine box_event ?hg (N := 4) ?hd (cs := #[.int .i64 0, .int .i64 0, .int .i64 0, .slice none 0 0]) (t := 27) ?hr ?_; (case hd => rfl); (case hg => rfl); (case hr => (go_simp; done)); intro gb138001 hg w8 hbox hb; have n0_ := Aside0.mk (IsS144.below HI0.out hb); have n1_ := Aside0.mk (KeepBut.trans HK.out (KeepBut.of_below hb g none) (.inl rfl)); have n2_ := Aside0.mk (below_step HB.out hb); have n3_ := Aside0.mk (hbox); have n4_ := Aside0.mk ((by rw [hg]; exact (keep_size (w := w) (g := g) (row := none) HK.out) : w.heap.size ≤ gb138001)); have n5_ := Aside0.mk ((Nat.le_trans HW0.out (by rw [hg]; exact (keep_size (w := w) (g := g) (row := none) HK.out) : w.heap.size ≤ gb138001) : w0.heap.size ≤ gb138001)); have n6_ := Aside0.mk ((by rw [hg]; exact Nat.ne_of_lt (IsS144.lt (show IsS144 w0 _ g s0_0 s0_1 from by exact HI0.out)) : g ≠ gb138001)); have n7_ := Aside0.mk ((by rw [hg]; exact Nat.ne_of_gt (IsS144.lt (show IsS144 w0 _ g s0_0 s0_1 from by exact HI0.out)) : gb138001 ≠ g)); clear HI0; clear HK; clear HB; have HI0 := n0_; have HK := n1_; have HB := n2_; have BK138001 := n3_; have GW138001 := n4_; have GE138001 := n5_; have NB0_138001 := n6_; have NB138001_0 := n7_; clear n0_ n1_ n2_ n3_ n4_ n5_ n6_ n7_; clear hb hbox hg) | ((with_reducible refine gate_dst (N := 10) rfl ?_); refine Kd.R_lit (Kd.int .i64) _ 3 ?hg (N := 10) ?hd (xs := ([3, 4, 2, 5, 1, 8, 6] : List Int)) (inner := [.int .i64 3, .int .i64 4, .int .i64 2, .int .i64 5, .int .i64 1, .int .i64 8, .int .i64 6]) (ok := fun _ => True) (okp := fun _ => True) ?hr ?hp (fun _ hk => hk) trivial (Below.refl _ _) (Nat.le_refl _) (by simp) ?_; (case hd => rfl); (case hg => rfl); (case hr => (go_simp; done)); (case hp => exact (Reps.one (show Kd.M (Kd.int .i64) _ _ _ 3 [.int .i64 3] from rfl) (Reps.one (show Kd.M (Kd.int .i64) _ _ _ 4 [.int .i64 4] from rfl) (Reps.one (show Kd.M (Kd.int .i64) _ _ _ 2 [.int .i64 2] from rfl) (Reps.one (show Kd.M (Kd.int .i64) _ _ _ 5 [.int .i64 5] from rfl) (Reps.one (show Kd.M (Kd.int .i64) _ _ _ 1 [.int .i64 1] from rfl) (Reps.one (show Kd.M (Kd.int .i64) _ _ _ 8 [.int .i64 8] from rfl) (Reps.one (show Kd.M (Kd.int .i64) _ _ _ 6 [.int .i64 6] from rfl) (Reps.none _ _))))))))); intro v138003 w9 ho10 hb hg_ hnew_; clear hg_ hnew_; (rw [← Ny138002.out] at ho10); have n0_ := Aside0.mk (Kd.R_lower ho10 (keep_size (w := w) (g := g) (row := none) HK.out)); have n1_ := Aside0.mk (IsS144.below HI0.out hb); have n2_ := Aside0.mk (blk_below BK138001.out hb); have n3_ := Aside0.mk (KeepBut.trans HK.out (KeepBut.of_below hb g none) (.inl rfl)); have n4_ := Aside0.mk (below_step HB.out hb); clear HI0; clear BK138001; clear HK; clear HB; have HO138004 := n0_; have HI0 := n1_; have BK138001 := n2_; have HK := n3_; have HB := n4_; clear n0_ n1_ n2_ n3_ n4_; clear hb ho10; obtain ⟨Ao11, co11, eo11⟩ := Kd.R_slice HO138004.out; subst eo11) | ((with_reducible refine gate_callee (f := 147) rfl ?_); refine goesL_ (some 11) rfl rfl Try.func147 (by kernel_rfl) rfl #[.pointer (some ⟨g, 0, none⟩), .slice Ao11 y138002.length co11] rfl (by (try simp only [List.map_toArray, List.map_cons, List.map_nil]); rfl) ?_; (with_reducible refine (spec_reader_one.calls k g s0_0 s0_1 _ _ y138002 t138005 t138006 w0 _ ?side1 ?side2 ?side3 ?side4 ?side5 A3.out).mono ?_); (case side1 => repeat (with_reducible exact HI0.out)); (case side2 => repeat (with_reducible exact HB.out)); (case side3 => repeat (exact (Kd.R_reads' HO138004.out).2.2)); (case side4 => exact (Kd.R_reads' HO138004.out).2.1); (case side5 => exact far_slice (IsS144.own_ne HI0.out HO138004.out (by decide))); rintro e w12 ⟨rfl, hi, hb, hk⟩; refine ⟨_, rfl, ?_⟩; have n0_ := Aside0.mk (KeepBut.blk hk (g' := gb138001) (o := .cells #[.int .i64 0, .int .i64 0, .int .i64 0, .slice none 0 0] 27 (0, 0)) BK138001.out NB138001_0.out (by simp)); have n1_ := Aside0.mk (Kd.R_mono (Kd.R_keep (IsS144.apart (show IsS144 w0 _ g s0_0 s0_1 from by exact HI0.out) HO138004.out (by decide)) hk (fun _ h => h.2)) (fun _ h => h.1)); have n2_ := Aside0.mk (KeepBut.trans HK.out hk (.inl rfl)); have n3_ := Aside0.mk (hb); have n4_ := Aside0.mk (hi); clear BK138001; clear HO138004; clear HK; clear HB; clear HI0; have BK138001 := n0_; have HO138004 := n1_; have HK := n2_; have HB := n3_; have HI0 := n4_; clear n0_ n1_ n2_ n3_ n4_; (try clear hb); (try clear hk); (try clear hi)) | ((with_reducible refine gate_dst (N := 13) rfl ?_); refine Kd.R_lit (Kd.int .i64) _ 3 ?hg (N := 13) ?hd (xs := ([3, 2, 4, 1, 5, 8] : List Int)) (inner := [.int .i64 3, .int .i64 2, .int .i64 4, .int .i64 1, .int .i64 5, .int .i64 8]) (ok := fun _ => True) (okp := fun _ => True) ?hr ?hp (fun _ hk => hk) trivial (Below.refl _ _) (Nat.le_refl _) (by simp) ?_; (case hd => rfl); (case hg => rfl); (case hr => (go_simp; done)); (case hp => exact (Reps.one (show Kd.M (Kd.int .i64) _ _ _ 3 [.int .i64 3] from rfl) (Reps.one (show Kd.M (Kd.int .i64) _ _ _ 2 [.int .i64 2] from rfl) (Reps.one (show Kd.M (Kd.int .i64) _ _ _ 4 [.int .i64 4] from rfl) (Reps.one (show Kd.M (Kd.int .i64) _ _ _ 1 [.int .i64 1] from rfl) (Reps.one (show Kd.M (Kd.int .i64) _ _ _ 5 [.int .i64 5] from rfl) (Reps.one (show Kd.M (Kd.int .i64) _ _ _ 8 [.int .i64 8] from rfl) (Reps.none _ _)))))))); intro v138008 w13 ho14 hb hg_ hnew_; clear hg_ hnew_; (rw [← Ny138007.out] at ho14); have n0_ := Aside0.mk (Kd.R_elder' HO138004.out (Kd.R_base ho14) hb); have n1_ := Aside0.mk (Kd.R_lower (Kd.R_new' ho14 (Kd.R_lt HO138004.out)) (keep_size (w := w) (g := g) (row := none) HK.out)); have n2_ := Aside0.mk (IsS144.below HI0.out hb); have n3_ := Aside0.mk (blk_below BK138001.out hb); have n4_ := Aside0.mk (KeepBut.trans HK.out (KeepBut.of_below hb g none) (.inl rfl)); have n5_ := Aside0.mk (below_step HB.out hb); clear HO138004; clear HI0; clear BK138001; clear HK; clear HB; have HO138004 := n0_; have HO138009 := n1_; have HI0 := n2_; have BK138001 := n3_; have HK := n4_; have HB := n5_; clear n0_ n1_ n2_ n3_ n4_ n5_; clear hb ho14; obtain ⟨Ao15, co15, eo15⟩ := Kd.R_slice HO138009.out; subst eo15) | ((with_reducible refine gate_callee (f := 147) rfl ?_); refine goesL_ (some 14) rfl rfl Try.func147 (by kernel_rfl) rfl #[.pointer (some ⟨g, 0, none⟩), .slice Ao15 y138007.length co15] rfl (by (try simp only [List.map_toArray, List.map_cons, List.map_nil]); rfl) ?_; (with_reducible refine (spec_reader_one.calls k g s0_0 t138006 _ _ y138007 t138010 t138011 w0 _ ?side1 ?side2 ?side3 ?side4 ?side5 A4.out).mono ?_); (case side1 => repeat (with_reducible exact HI0.out)); (case side2 => repeat (with_reducible exact HB.out)); (case side3 => repeat (exact (Kd.R_reads' HO138009.out).2.2)); (case side4 => exact (Kd.R_reads' HO138009.out).2.1); (case side5 => exact far_slice (IsS144.own_ne HI0.out HO138009.out (by decide))); rintro e w16 ⟨rfl, hi, hb, hk⟩; refine ⟨_, rfl, ?_⟩; have n0_ := Aside0.mk (KeepBut.blk hk (g' := gb138001) (o := .cells #[.int .i64 0, .int .i64 0, .int .i64 0, .slice none 0 0] 27 (0, 0)) BK138001.out NB138001_0.out (by simp)); have n1_ := Aside0.mk (Kd.R_mono (Kd.R_keep (IsS144.apart (show IsS144 w0 _ g s0_0 t138006 from by exact HI0.out) HO138004.out (by decide)) hk (fun _ h => h.2)) (fun _ h => h.1)); have n2_ := Aside0.mk (Kd.R_mono (Kd.R_keep (IsS144.apart (show IsS144 w0 _ g s0_0 t138006 from by exact HI0.out) HO138009.out (by decide)) hk (fun _ h => h.2)) (fun _ h => h.1)); have n3_ := Aside0.mk (KeepBut.trans HK.out hk (.inl rfl)); have n4_ := Aside0.mk (hb); have n5_ := Aside0.mk (hi); clear BK138001; clear HO138004; clear HO138009; clear HK; clear HB; clear HI0; have BK138001 := n0_; have HO138004 := n1_; have HO138009 := n2_; have HK := n3_; have HB := n4_; have HI0 := n5_; clear n0_ n1_ n2_ n3_ n4_ n5_; (try clear hb); (try clear hk); (try clear hi)) | ((with_reducible refine gate_callee (f := 111) rfl ?_); refine goesL_ (some 16) rfl rfl Try.func111 (by kernel_rfl) rfl #[.int .i64 t138005, .int .i64 t138010, .int .i64 a1] rfl (by (try simp only [List.map_toArray, List.map_cons, List.map_nil]); rfl) ?_; (with_reducible refine (spec_newImage.calls t138005 t138010 a1 t138012 t138013 t138014 t138015 _ A5.out).mono ?_); rintro e w17 ⟨v138016, rfl, ho0, hb⟩; refine ⟨_, rfl, ?_⟩; have n0_ := Aside0.mk (Kd.R_elder' HO138004.out (Kd.R_base ho0) hb); have n1_ := Aside0.mk (Kd.R_elder' HO138009.out (Kd.R_base ho0) hb); have n2_ := Aside0.mk (Kd.R_lower (Kd.R_new' (Kd.R_new' ho0 (Kd.R_lt HO138004.out)) (Kd.R_lt HO138009.out)) (keep_size (w := w) (g := g) (row := none) HK.out)); have n3_ := Aside0.mk (IsS144.below HI0.out hb); have n4_ := Aside0.mk (blk_below BK138001.out hb); have n5_ := Aside0.mk (KeepBut.trans HK.out (KeepBut.of_below hb g none) (.inl rfl)); have n6_ := Aside0.mk (below_step HB.out hb); clear HO138004; clear HO138009; clear HI0; clear BK138001; clear HK; clear HB; have HO138004 := n0_; have HO138009 := n1_; have HO138017 := n2_; have HI0 := n3_; have BK138001 := n4_; have HK := n5_; have HB := n6_; clear n0_ n1_ n2_ n3_ n4_ n5_ n6_; (try clear hb); (try clear ho0)) | ((with_reducible refine gate_dst (N := 5) rfl ?_); refine box_event ?hg (N := 5) ?hd (cs := #[.int .i64 0, .int .i64 0, .int .i64 0, .slice none 0 0]) (t := 27) ?hr ?_; (case hd => rfl); (case hg => rfl); (case hr => (go_simp; done)); intro gb138018 hg w18 hbox hb; have n0_ := Aside0.mk (Kd.R_below HO138004.out hb); have n1_ := Aside0.mk (Kd.R_below HO138009.out hb); have n2_ := Aside0.mk (Kd.R_below HO138017.out hb); have n3_ := Aside0.mk (IsS144.below HI0.out hb); have n4_ := Aside0.mk (blk_below BK138001.out hb); have n5_ := Aside0.mk (KeepBut.trans HK.out (KeepBut.of_below hb g none) (.inl rfl)); have n6_ := Aside0.mk (below_step HB.out hb); have n7_ := Aside0.mk (hbox); have n8_ := Aside0.mk ((by rw [hg]; exact (keep_size (w := w) (g := g) (row := none) HK.out) : w.heap.size ≤ gb138018)); have n9_ := Aside0.mk ((Nat.le_trans HW0.out (by rw [hg]; exact (keep_size (w := w) (g := g) (row := none) HK.out) : w.heap.size ≤ gb138018) : w0.heap.size ≤ gb138018)); have n10_ := Aside0.mk ((by rw [hg]; exact Nat.ne_of_lt (blk_lt BK138001.out) : gb138001 ≠ gb138018)); have n11_ := Aside0.mk ((by rw [hg]; exact Nat.ne_of_gt (blk_lt BK138001.out) : gb138018 ≠ gb138001)); have n12_ := Aside0.mk ((by rw [hg]; exact Nat.ne_of_lt (IsS144.lt (show IsS144 w0 _ g s0_0 t138011 from by exact HI0.out)) : g ≠ gb138018)); have n13_ := Aside0.mk ((by rw [hg]; exact Nat.ne_of_gt (IsS144.lt (show IsS144 w0 _ g s0_0 t138011 from by exact HI0.out)) : gb138018 ≠ g)); clear HO138004; clear HO138009; clear HO138017; clear HI0; clear BK138001; clear HK; clear HB; have HO138004 := n0_; have HO138009 := n1_; have HO138017 := n2_; have HI0 := n3_; have BK138001 := n4_; have HK := n5_; have HB := n6_; have BK138018 := n7_; have GW138018 := n8_; have GE138018 := n9_; have NB138001_138018 := n10_; have NB138018_138001 := n11_; have NB0_138018 := n12_; have NB138018_0 := n13_; clear n0_ n1_ n2_ n3_ n4_ n5_ n6_ n7_ n8_ n9_ n10_ n11_ n12_ n13_; clear hb hbox hg; have hnb19 := NB138018_138001.out; have hnc19 := NB138001_138018.out; have hnb20 := NB138018_0.out; have hnc20 := NB0_138018.out; have hcz21_0 : w18.cell? ⟨gb138018, 0, none⟩ = some (.int .i64 0) := (blk_cell BK138018.out 0).trans rfl; have hcz21_1 : w18.cell? ⟨gb138018, 1, none⟩ = some (.int .i64 0) := (blk_cell BK138018.out 1).trans rfl; have hcz21_2 : w18.cell? ⟨gb138018, 2, none⟩ = some (.int .i64 0) := (blk_cell BK138018.out 2).trans rfl; have hcz21_3 : w18.cell? ⟨gb138018, 3, none⟩ = some (.slice none 0 0) := (blk_cell BK138018.out 3).trans rfl; have hfz21_0 := blk_frozen BK138018.out 0; have hfz21_1 := blk_frozen BK138018.out 1; have hfz21_2 := blk_frozen BK138018.out 2; have hfz21_3 := blk_frozen BK138018.out 3; obtain ⟨Ao22, co22, eo22⟩ := Kd.R_slice HO138017.out; subst eo22) | ((with_reducible refine gate_callee (f := 127) rfl ?_); refine goesL_ (some 18) rfl rfl Try.func127 (by kernel_rfl) rfl #[.pointer (some ⟨g, 0, none⟩), .int .i64 4] rfl (by (try simp only [List.map_toArray, List.map_cons, List.map_nil]); rfl) ?_; (with_reducible refine (spec_reader_pick.calls k g s0_0 t138011 4 t138019 t138020 w0 _ ?side1 ?side2 A6.out).mono ?_); (case side1 => repeat (with_reducible first | exact HI0.out | refine IsS144.far ?_ NB0_138018.out _)); (case side2 => repeat (with_reducible first | exact HB.out | refine below_set ?_ GE138018.out)); rintro e w23 ⟨rfl, hi, hb, hk⟩; refine ⟨_, rfl, ?_⟩; have n0_ := Aside0.mk (KeepBut.blk hk (g' := gb138001) (o := .cells #[.int .i64 0, .int .i64 0, .int .i64 0, .slice none 0 0] 27 (0, 0)) (by refine blk_far ?_ NB138001_138018.out _; (with_reducible repeat (first | refine blk_drewN ?_ _ | refine blk_drew ?_ | refine blk_alloc ?_ _)); refine blk_far ?_ NB138001_138018.out _; (with_reducible repeat (first | refine blk_drewN ?_ _ | refine blk_drew ?_ | refine blk_alloc ?_ _)); refine blk_far ?_ NB138001_138018.out _; (with_reducible repeat (first | refine blk_drewN ?_ _ | refine blk_drew ?_ | refine blk_alloc ?_ _)); refine blk_far ?_ NB138001_138018.out _; (with_reducible repeat (first | refine blk_drewN ?_ _ | refine blk_drew ?_ | refine blk_alloc ?_ _)); exact BK138001.out) NB138001_0.out (by simp)); have n1_ := Aside0.mk (Kd.R_mono (Kd.R_keep (IsS144.apart (show IsS144 w0 _ g s0_0 t138011 from by repeat (with_reducible first | exact HI0.out | refine IsS144.far ?_ NB0_138018.out _)) (by exact (Kd.R_mono (Kd.R_far (p := ⟨gb138018, 3, none⟩) (Kd.R_far (p := ⟨gb138018, 2, none⟩) (Kd.R_far (p := ⟨gb138018, 1, none⟩) (Kd.R_far (p := ⟨gb138018, 0, none⟩) (Kd.R_types HO138004.out BK138018.out (by decide)) (fun _ hk => hk.2) (.int .i64 t138012)) (fun _ hk => hk.2) (.int .i64 t138013)) (fun _ hk => hk.2) (.int .i64 t138014)) (fun _ hk => hk.2) (.slice Ao22 t138015.length co22)) (fun _ h_ => h_.1))) (by decide)) hk (fun _ h => h.2)) (fun _ h => h.1)); have n2_ := Aside0.mk (Kd.R_mono (Kd.R_keep (IsS144.apart (show IsS144 w0 _ g s0_0 t138011 from by repeat (with_reducible first | exact HI0.out | refine IsS144.far ?_ NB0_138018.out _)) (by exact (Kd.R_mono (Kd.R_far (p := ⟨gb138018, 3, none⟩) (Kd.R_far (p := ⟨gb138018, 2, none⟩) (Kd.R_far (p := ⟨gb138018, 1, none⟩) (Kd.R_far (p := ⟨gb138018, 0, none⟩) (Kd.R_types HO138009.out BK138018.out (by decide)) (fun _ hk => hk.2) (.int .i64 t138012)) (fun _ hk => hk.2) (.int .i64 t138013)) (fun _ hk => hk.2) (.int .i64 t138014)) (fun _ hk => hk.2) (.slice Ao22 t138015.length co22)) (fun _ h_ => h_.1))) (by decide)) hk (fun _ h => h.2)) (fun _ h => h.1)); have n3_ := Aside0.mk (Kd.R_mono (Kd.R_keep (IsS144.apart (show IsS144 w0 _ g s0_0 t138011 from by repeat (with_reducible first | exact HI0.out | refine IsS144.far ?_ NB0_138018.out _)) (by exact (Kd.R_mono (Kd.R_far (p := ⟨gb138018, 3, none⟩) (Kd.R_far (p := ⟨gb138018, 2, none⟩) (Kd.R_far (p := ⟨gb138018, 1, none⟩) (Kd.R_far (p := ⟨gb138018, 0, none⟩) (Kd.R_types HO138017.out BK138018.out (by decide)) (fun _ hk => hk.2) (.int .i64 t138012)) (fun _ hk => hk.2) (.int .i64 t138013)) (fun _ hk => hk.2) (.int .i64 t138014)) (fun _ hk => hk.2) (.slice Ao22 t138015.length co22)) (fun _ h_ => h_.1))) (by decide)) hk (fun _ h => h.2)) (fun _ h => h.1)); have n4_ := Aside0.mk (KeepBut.blk hk (g' := gb138018) (o := .cells #[.int .i64 t138012, .int .i64 t138013, .int .i64 t138014, .slice Ao22 t138015.length co22] 27 (0, 0)) (by refine blk_put (cs := #[.int .i64 t138012, .int .i64 t138013, .int .i64 t138014, .slice none 0 0]) ?_ 3 _ rfl; (with_reducible repeat (first | refine blk_drewN ?_ _ | refine blk_drew ?_ | refine blk_alloc ?_ _)); refine blk_put (cs := #[.int .i64 t138012, .int .i64 t138013, .int .i64 0, .slice none 0 0]) ?_ 2 _ rfl; (with_reducible repeat (first | refine blk_drewN ?_ _ | refine blk_drew ?_ | refine blk_alloc ?_ _)); refine blk_put (cs := #[.int .i64 t138012, .int .i64 0, .int .i64 0, .slice none 0 0]) ?_ 1 _ rfl; (with_reducible repeat (first | refine blk_drewN ?_ _ | refine blk_drew ?_ | refine blk_alloc ?_ _)); refine blk_put (cs := #[.int .i64 0, .int .i64 0, .int .i64 0, .slice none 0 0]) ?_ 0 _ rfl; (with_reducible repeat (first | refine blk_drewN ?_ _ | refine blk_drew ?_ | refine blk_alloc ?_ _)); exact BK138018.out) NB138018_0.out (by simp)); have n5_ := Aside0.mk (KeepBut.trans (by repeat (with_reducible first | exact HK.out | refine keep_far ?_ GW138018.out _)) hk (.inl rfl)); have n6_ := Aside0.mk (hb); have n7_ := Aside0.mk (hi); clear BK138001; clear HO138004; clear HO138009; clear HO138017; clear BK138018; clear HK; clear HB; clear HI0; have BK138001 := n0_; have HO138004 := n1_; have HO138009 := n2_; have HO138017 := n3_; have BK138018 := n4_; have HK := n5_; have HB := n6_; have HI0 := n7_; clear n0_ n1_ n2_ n3_ n4_ n5_ n6_ n7_; (try clear hb); (try clear hk); (try clear hi)) | ((with_reducible refine gate_callee (f := 127) rfl ?_); refine goesL_ (some 20) rfl rfl Try.func127 (by kernel_rfl) rfl #[.pointer (some ⟨g, 0, none⟩), .int .i64 256] rfl (by (try simp only [List.map_toArray, List.map_cons, List.map_nil]); rfl) ?_; (with_reducible refine (spec_reader_pick.calls k g s0_0 t138020 256 t138021 t138022 w0 _ ?side1 ?side2 A7.out).mono ?_); (case side1 => repeat (with_reducible exact HI0.out)); (case side2 => repeat (with_reducible exact HB.out)); rintro e w24 ⟨rfl, hi, hb, hk⟩; refine ⟨_, rfl, ?_⟩; have n0_ := Aside0.mk (KeepBut.blk hk (g' := gb138001) (o := .cells #[.int .i64 0, .int .i64 0, .int .i64 0, .slice none 0 0] 27 (0, 0)) BK138001.out NB138001_0.out (by simp)); have n1_ := Aside0.mk (Kd.R_mono (Kd.R_keep (IsS144.apart (show IsS144 w0 _ g s0_0 t138020 from by exact HI0.out) HO138004.out (by decide)) hk (fun _ h => h.2)) (fun _ h => h.1)); have n2_ := Aside0.mk (Kd.R_mono (Kd.R_keep (IsS144.apart (show IsS144 w0 _ g s0_0 t138020 from by exact HI0.out) HO138009.out (by decide)) hk (fun _ h => h.2)) (fun _ h => h.1)); have n3_ := Aside0.mk (Kd.R_mono (Kd.R_keep (IsS144.apart (show IsS144 w0 _ g s0_0 t138020 from by exact HI0.out) HO138017.out (by decide)) hk (fun _ h => h.2)) (fun _ h => h.1)); have n4_ := Aside0.mk (KeepBut.blk hk (g' := gb138018) (o := .cells #[.int .i64 t138012, .int .i64 t138013, .int .i64 t138014, .slice Ao22 t138015.length co22] 27 (0, 0)) BK138018.out NB138018_0.out (by simp)); have n5_ := Aside0.mk (KeepBut.trans HK.out hk (.inl rfl)); have n6_ := Aside0.mk (hb); have n7_ := Aside0.mk (hi); clear BK138001; clear HO138004; clear HO138009; clear HO138017; clear BK138018; clear HK; clear HB; clear HI0; have BK138001 := n0_; have HO138004 := n1_; have HO138009 := n2_; have HO138017 := n3_; have BK138018 := n4_; have HK := n5_; have HB := n6_; have HI0 := n7_; clear n0_ n1_ n2_ n3_ n4_ n5_ n6_ n7_; (try clear hb); (try clear hk); (try clear hi)))
  go_loopg [7, 8] k (fun kq v7 v8 w' => ∃ (x7_1 : Int) (x8_1 : Int) (x1001_1 : Int) (x138019003_1 : List Int) (u138019003 : Value), v7 = .int .i64 x7_1 ∧ v8 = .int .i64 x8_1 ∧ Aside0 (spec_randomImage.l0 kq t138019 x7_1 x8_1 s0_0 x1001_1 t138012 t138013 t138014 x138019003_1 = some (r1, r2, r3, r4, r5)) ∧ Aside0 (kq ≤ k) ∧ Aside0 (Kd.R (Kd.int .i64) 3 w' w.heap.size (fun _ => True) u138019003 x138019003_1) ∧ Aside0 (w'.heap[gb138001]? = some (.cells #[.int .i64 0, .int .i64 0, .int .i64 0, (.slice none 0 0)] 27 (0, 0))) ∧ Aside0 (w'.heap[gb138018]? = some (.cells #[.int .i64 t138012, .int .i64 t138013, .int .i64 t138014, u138019003] 27 (0, 0))) ∧ Aside0 (IsS144 w0 w' g s0_0 x1001_1) ∧ Aside0 (KeepBut w w' g none) ∧ Aside0 (Below w0.heap.size w0 w'))
  case atStart => exact ⟨(t138021), (0), (t138022), (t138015), (.slice Ao22 t138015.length co22), (by rfl), (by rfl), H', ⟨Nat.le_refl _⟩, ⟨by (with_reducible repeat (first | apply Kd.R_alloc | apply Kd.R_drewN | apply Kd.R_drew)); exact Kd.R_mono HO138017.out (fun _ hk => trivial)⟩, ⟨by (with_reducible repeat (first | refine blk_drewN ?_ _ | refine blk_drew ?_ | refine blk_alloc ?_ _)); exact BK138001.out⟩, ⟨by (with_reducible repeat (first | refine blk_drewN ?_ _ | refine blk_drew ?_ | refine blk_alloc ?_ _)); exact BK138018.out⟩, ⟨by exact HI0.out⟩, ⟨by exact HK.out⟩, ⟨by exact HB.out⟩⟩
  case round =>
    clear H'
    try clear c1
    try clear c2
    try clear p2
    try clear c11
    try clear c12
    try clear c13
    try clear c14
    try clear c19
    try clear c20
    try clear hcz21_0
    try clear hcz21_1
    try clear hcz21_2
    try clear hcz21_3
    try clear hfz21_0
    try clear hfz21_1
    try clear hfz21_2
    try clear hfz21_3
    obtain ⟨x7_1, x8_1, x1001_1, x138019003_1, u138019003, rfl, rfl, HA, HK1, HO_138019003, BK138001, BK138018, HI0, HK, HB⟩ := hrel
    cases gk with
    | zero => exact absurd HA.out (by simp [spec_randomImage.l0])
    | succ k1 =>
      have H := HA.out
      clear HA
      simp only [spec_randomImage.l0] at H
      by_cases c25 : x8_1 < (x138019003_1.length : Int)
      · rw [if_pos c25] at H
        have c25b0 : decide (x8_1 < (x138019003_1.length : Int)) = true := decide_eq_true c25
        clear c25
        by_cases c26 : t138019 = 0
        · rw [if_pos c26] at H
          have c26b0 : (t138019 == 0) = true := beq_iff_eq.mpr c26
          have c26b1 : (t138019 != 0) = false := bne_eq_false_iff_eq.mpr c26
          clear c26
          replace H := Option.bind_eq_some_iff.mp H
          obtain ⟨⟨t138023, t138024⟩, A270, H⟩ := H
          replace H : (if 0 ≤ x8_1 then (spec_randomImage.l0 k1 t138019 t138023 (wrap64 (x8_1 + 1)) s0_0 t138024 t138012 t138013 t138014 (x138019003_1.set (x8_1 : Int).toNat t138023)) else none) = some (r1, r2, r3, r4, r5) := H
          have A27 := Aside0.mk A270
          clear A270
          by_cases c28 : 0 ≤ x8_1
          · rw [if_pos c28] at H
            have c28b0 : decide (0 ≤ x8_1) = true := decide_eq_true c28
            clear c28
            obtain ⟨y138025, hy138025⟩ : ∃ y_ : List Int, y_ = (x138019003_1.set (x8_1 : Int).toNat t138023) := ⟨_, rfl⟩
            replace H : (spec_randomImage.l0 k1 t138019 t138023 (wrap64 (x8_1 + 1)) s0_0 t138024 t138012 t138013 t138014 y138025) = some (r1, r2, r3, r4, r5) := by (rw [hy138025]; with_reducible exact H)
            have Ny138025 := Aside0.mk hy138025
            clear hy138025
            have H' := Aside0.mk H
            clear H
            have hnb30 := NB138018_138001.out
            have hnc30 := NB138001_138018.out
            have hnb31 := NB138018_0.out
            have hnc31 := NB0_138018.out
            have hcz32_0 : wr.cell? ⟨gb138018, 0, none⟩ = some (.int .i64 t138012) := (blk_cell BK138018.out 0).trans rfl
            have hcz32_1 : wr.cell? ⟨gb138018, 1, none⟩ = some (.int .i64 t138013) := (blk_cell BK138018.out 1).trans rfl
            have hcz32_2 : wr.cell? ⟨gb138018, 2, none⟩ = some (.int .i64 t138014) := (blk_cell BK138018.out 2).trans rfl
            have hcz32_3 : wr.cell? ⟨gb138018, 3, none⟩ = some u138019003 := (blk_cell BK138018.out 3).trans rfl
            have hfz32_0 := blk_frozen BK138018.out 0
            have hfz32_1 := blk_frozen BK138018.out 1
            have hfz32_2 := blk_frozen BK138018.out 2
            have hfz32_3 := blk_frozen BK138018.out 3
            obtain ⟨Ao33, co33, eo33⟩ := Kd.R_slice HO_138019003.out
            subst eo33
            go_wp2_with (first | ((with_reducible refine gate_callee (f := 127) rfl ?_); refine goesL_ (some 32) rfl rfl Try.func127 (by kernel_rfl) rfl #[.pointer (some ⟨g, 0, none⟩), .int .i64 256] rfl (by (try simp only [List.map_toArray, List.map_cons, List.map_nil]); rfl) ?_; (with_reducible refine (spec_reader_pick.calls k1 g s0_0 x1001_1 256 t138023 t138024 w0 _ ?side1 ?side2 A27.out).mono ?_); (case side1 => repeat (with_reducible exact HI0.out)); (case side2 => repeat (with_reducible exact HB.out)); rintro e w34 ⟨rfl, hi, hb, hk⟩; refine ⟨_, rfl, ?_⟩; have n0_ := Aside0.mk (Kd.R_mono (Kd.R_keep (IsS144.apart (show IsS144 w0 _ g s0_0 x1001_1 from by exact HI0.out) HO_138019003.out (by decide)) hk (fun _ h => h.2)) (fun _ h => h.1)); have n1_ := Aside0.mk (KeepBut.blk hk (g' := gb138001) (o := .cells #[.int .i64 0, .int .i64 0, .int .i64 0, .slice none 0 0] 27 (0, 0)) BK138001.out NB138001_0.out (by simp)); have n2_ := Aside0.mk (KeepBut.blk hk (g' := gb138018) (o := .cells #[.int .i64 t138012, .int .i64 t138013, .int .i64 t138014, .slice Ao33 x138019003_1.length co33] 27 (0, 0)) BK138018.out NB138018_0.out (by simp)); have n3_ := Aside0.mk (KeepBut.trans HK.out hk (.inl rfl)); have n4_ := Aside0.mk (hb); have n5_ := Aside0.mk (hi); clear HO_138019003; clear BK138001; clear BK138018; clear HK; clear HB; clear HI0; have HO_138019003 := n0_; have BK138001 := n1_; have BK138018 := n2_; have HK := n3_; have HB := n4_; have HI0 := n5_; clear n0_ n1_ n2_ n3_ n4_ n5_; (try clear hb); (try clear hk); (try clear hi); have hcz35_0 : w34.cell? ⟨gb138018, 0, none⟩ = some (.int .i64 t138012) := (blk_cell BK138018.out 0).trans rfl; have hcz35_1 : w34.cell? ⟨gb138018, 1, none⟩ = some (.int .i64 t138013) := (blk_cell BK138018.out 1).trans rfl; have hcz35_2 : w34.cell? ⟨gb138018, 2, none⟩ = some (.int .i64 t138014) := (blk_cell BK138018.out 2).trans rfl; have hcz35_3 : w34.cell? ⟨gb138018, 3, none⟩ = some (.slice Ao33 x138019003_1.length co33) := (blk_cell BK138018.out 3).trans rfl; have hfz35_0 := blk_frozen BK138018.out 0; have hfz35_1 := blk_frozen BK138018.out 1; have hfz35_2 := blk_frozen BK138018.out 2; have hfz35_3 := blk_frozen BK138018.out 3; have p29 : 0 ≤ (x8_1 : Int) := of_decide_eq_true (by (with_reducible assumption)); have q29 : (x8_1 : Int) < ((x138019003_1.length : Int) : Int) := of_decide_eq_true (by (with_reducible assumption)); obtain ⟨go29, co29, eo29, gb29, gl29, cl29, HG29⟩ := Kd.R_form HO_138019003.out (by omega); (cases eo29); have GB29 := Aside0.mk gb29; have GG29 := Aside0.mk HG29; clear gb29 gl29 HG29; obtain ⟨hx29_0, hf29_0⟩ := Kd.R_celln 0 HO_138019003.out (x8_1 : Int) p29 q29; replace p29 := eq_true p29; replace q29 := eq_true q29; obtain ⟨hy36_, hz36_⟩ := Kd.R_celln 0 HO_138019003.out (x8_1 : Int) (of_decide_eq_true (by (with_reducible assumption))) (of_decide_eq_true (by (with_reducible assumption))); have HP36 := Kd.R_putg HO_138019003.out (x8_1 : Int) t138023) | ((with_reducible refine gate_store (t := 3) (p := 50) rfl ?_); refine store_event (t := 3) (p := 50) (v := ?vo_w37) (w1 := (w34.setCell ⟨go29, (x8_1 : Int).toNat, none⟩ (.int .i64 t138023))) ?hg ?ho ?hn ?hr ?_; (case ho => rfl); (case hg => rfl); (case hn => rfl); (case hr => (go_simp; done)); intro w37 hw; have hg : w34.grownBy w37 (some go29) := (by rw [hw]; exact HP36.2); have hp_ : Kd.R (Kd.int .i64) 3 w37 w.heap.size (fun _ => True) (.slice (some ⟨go29, 0, none⟩) x138019003_1.length co33) y138025 := (by rw [hw, Ny138025.out]; exact HP36.1); clear HP36; have n0_ := Aside0.mk (hp_); have n1_ := Aside0.mk (blk_grown (g := gb138001) (o := .cells #[.int .i64 0, .int .i64 0, .int .i64 0, .slice none 0 0] 27 (0, 0)) BK138001.out hg (Kd.R_ne HO_138019003.out BK138001.out (by decide))); have n2_ := Aside0.mk (blk_grown (g := gb138018) (o := .cells #[.int .i64 t138012, .int .i64 t138013, .int .i64 t138014, .slice (some ⟨go29, 0, none⟩) x138019003_1.length co33] 27 (0, 0)) BK138018.out hg (Kd.R_ne HO_138019003.out BK138018.out (by decide))); have n3_ := Aside0.mk (IsS144.grown HI0.out hg (IsS144.own_ne HI0.out HO_138019003.out (by decide))); have n4_ := Aside0.mk ((by rw [hw]; exact below_set HB.out (Nat.le_trans HL.out GB29.out) : Below w0.heap.size w0 w37)); have n5_ := Aside0.mk (KeepBut.trans HK.out (KeepBut.of_grown hg g) (Kd.R_base2 HO_138019003.out)); clear HO_138019003; clear BK138001; clear BK138018; clear HI0; clear HB; clear HK; have HO_138019003 := n0_; have BK138001 := n1_; have BK138018 := n2_; have HI0 := n3_; have HB := n4_; have HK := n5_; clear n0_ n1_ n2_ n3_ n4_ n5_; clear hg hw hp_))
            go_roundg k1
            case measure => have := HK1.out; omega
            case rel => exact ⟨(t138023), (wrap64 (x8_1 + 1)), (t138024), (y138025), (.slice (some ⟨go29, 0, none⟩) x138019003_1.length co33), (by rfl), (by rfl), H', ⟨by have := HK1.out; omega⟩, ⟨by (with_reducible repeat (first | apply Kd.R_alloc | apply Kd.R_drewN | apply Kd.R_drew)); exact HO_138019003.out⟩, ⟨by (with_reducible repeat (first | refine blk_drewN ?_ _ | refine blk_drew ?_ | refine blk_alloc ?_ _)); exact BK138001.out⟩, ⟨by (with_reducible repeat (first | refine blk_drewN ?_ _ | refine blk_drew ?_ | refine blk_alloc ?_ _)); exact BK138018.out⟩, ⟨by exact HI0.out⟩, ⟨by exact HK.out⟩, ⟨by exact HB.out⟩⟩
          · rw [if_neg c28] at H
            exact absurd H (by simp)
        · rw [if_neg c26] at H
          have c26b0 : (t138019 == 0) = false := beq_eq_false_iff_ne.mpr c26
          have c26b1 : (t138019 != 0) = true := bne_iff_ne.mpr c26
          by_cases c38 : t138019 = 1
          · rw [if_pos c38] at H
            have c38b0 : (t138019 == 1) = true := beq_iff_eq.mpr c38
            have c38b1 : (t138019 != 1) = false := bne_eq_false_iff_eq.mpr c38
            clear c38
            replace H := Option.bind_eq_some_iff.mp H
            obtain ⟨⟨t138026, t138027⟩, A390, H⟩ := H
            replace H : (if 0 ≤ x8_1 then (spec_randomImage.l0 k1 t138019 (Int.tmod (wrap64 ((wrap64 (x7_1 + t138026)) + 254)) 256) (wrap64 (x8_1 + 1)) s0_0 t138027 t138012 t138013 t138014 (x138019003_1.set (x8_1 : Int).toNat (Int.tmod (wrap64 ((wrap64 (x7_1 + t138026)) + 254)) 256))) else none) = some (r1, r2, r3, r4, r5) := H
            have A39 := Aside0.mk A390
            clear A390
            by_cases c40 : 0 ≤ x8_1
            · rw [if_pos c40] at H
              have c40b0 : decide (0 ≤ x8_1) = true := decide_eq_true c40
              clear c40
              obtain ⟨y138028, hy138028⟩ : ∃ y_ : List Int, y_ = (x138019003_1.set (x8_1 : Int).toNat (Int.tmod (wrap64 ((wrap64 (x7_1 + t138026)) + 254)) 256)) := ⟨_, rfl⟩
              replace H : (spec_randomImage.l0 k1 t138019 (Int.tmod (wrap64 ((wrap64 (x7_1 + t138026)) + 254)) 256) (wrap64 (x8_1 + 1)) s0_0 t138027 t138012 t138013 t138014 y138028) = some (r1, r2, r3, r4, r5) := by (rw [hy138028]; with_reducible exact H)
              have Ny138028 := Aside0.mk hy138028
              clear hy138028
              have H' := Aside0.mk H
              clear H
              have hnb42 := NB138018_138001.out
              have hnc42 := NB138001_138018.out
              have hnb43 := NB138018_0.out
              have hnc43 := NB0_138018.out
              have hcz44_0 : wr.cell? ⟨gb138018, 0, none⟩ = some (.int .i64 t138012) := (blk_cell BK138018.out 0).trans rfl
              have hcz44_1 : wr.cell? ⟨gb138018, 1, none⟩ = some (.int .i64 t138013) := (blk_cell BK138018.out 1).trans rfl
              have hcz44_2 : wr.cell? ⟨gb138018, 2, none⟩ = some (.int .i64 t138014) := (blk_cell BK138018.out 2).trans rfl
              have hcz44_3 : wr.cell? ⟨gb138018, 3, none⟩ = some u138019003 := (blk_cell BK138018.out 3).trans rfl
              have hfz44_0 := blk_frozen BK138018.out 0
              have hfz44_1 := blk_frozen BK138018.out 1
              have hfz44_2 := blk_frozen BK138018.out 2
              have hfz44_3 := blk_frozen BK138018.out 3
              obtain ⟨Ao45, co45, eo45⟩ := Kd.R_slice HO_138019003.out
              subst eo45
              go_wp2_with (first | ((with_reducible refine gate_callee (f := 127) rfl ?_); refine goesL_ (some 37) rfl rfl Try.func127 (by kernel_rfl) rfl #[.pointer (some ⟨g, 0, none⟩), .int .i64 5] rfl (by (try simp only [List.map_toArray, List.map_cons, List.map_nil]); rfl) ?_; (with_reducible refine (spec_reader_pick.calls k1 g s0_0 x1001_1 5 t138026 t138027 w0 _ ?side1 ?side2 A39.out).mono ?_); (case side1 => repeat (with_reducible exact HI0.out)); (case side2 => repeat (with_reducible exact HB.out)); rintro e w46 ⟨rfl, hi, hb, hk⟩; refine ⟨_, rfl, ?_⟩; have n0_ := Aside0.mk (Kd.R_mono (Kd.R_keep (IsS144.apart (show IsS144 w0 _ g s0_0 x1001_1 from by exact HI0.out) HO_138019003.out (by decide)) hk (fun _ h => h.2)) (fun _ h => h.1)); have n1_ := Aside0.mk (KeepBut.blk hk (g' := gb138001) (o := .cells #[.int .i64 0, .int .i64 0, .int .i64 0, .slice none 0 0] 27 (0, 0)) BK138001.out NB138001_0.out (by simp)); have n2_ := Aside0.mk (KeepBut.blk hk (g' := gb138018) (o := .cells #[.int .i64 t138012, .int .i64 t138013, .int .i64 t138014, .slice Ao45 x138019003_1.length co45] 27 (0, 0)) BK138018.out NB138018_0.out (by simp)); have n3_ := Aside0.mk (KeepBut.trans HK.out hk (.inl rfl)); have n4_ := Aside0.mk (hb); have n5_ := Aside0.mk (hi); clear HO_138019003; clear BK138001; clear BK138018; clear HK; clear HB; clear HI0; have HO_138019003 := n0_; have BK138001 := n1_; have BK138018 := n2_; have HK := n3_; have HB := n4_; have HI0 := n5_; clear n0_ n1_ n2_ n3_ n4_ n5_; (try clear hb); (try clear hk); (try clear hi); have hcz47_0 : w46.cell? ⟨gb138018, 0, none⟩ = some (.int .i64 t138012) := (blk_cell BK138018.out 0).trans rfl; have hcz47_1 : w46.cell? ⟨gb138018, 1, none⟩ = some (.int .i64 t138013) := (blk_cell BK138018.out 1).trans rfl; have hcz47_2 : w46.cell? ⟨gb138018, 2, none⟩ = some (.int .i64 t138014) := (blk_cell BK138018.out 2).trans rfl; have hcz47_3 : w46.cell? ⟨gb138018, 3, none⟩ = some (.slice Ao45 x138019003_1.length co45) := (blk_cell BK138018.out 3).trans rfl; have hfz47_0 := blk_frozen BK138018.out 0; have hfz47_1 := blk_frozen BK138018.out 1; have hfz47_2 := blk_frozen BK138018.out 2; have hfz47_3 := blk_frozen BK138018.out 3; have p41 : 0 ≤ (x8_1 : Int) := of_decide_eq_true (by (with_reducible assumption)); have q41 : (x8_1 : Int) < ((x138019003_1.length : Int) : Int) := of_decide_eq_true (by (with_reducible assumption)); obtain ⟨go41, co41, eo41, gb41, gl41, cl41, HG41⟩ := Kd.R_form HO_138019003.out (by omega); (cases eo41); have GB41 := Aside0.mk gb41; have GG41 := Aside0.mk HG41; clear gb41 gl41 HG41; obtain ⟨hx41_0, hf41_0⟩ := Kd.R_celln 0 HO_138019003.out (x8_1 : Int) p41 q41; replace p41 := eq_true p41; replace q41 := eq_true q41; obtain ⟨hy48_, hz48_⟩ := Kd.R_celln 0 HO_138019003.out (x8_1 : Int) (of_decide_eq_true (by (with_reducible assumption))) (of_decide_eq_true (by (with_reducible assumption))); have HP48 := Kd.R_putg HO_138019003.out (x8_1 : Int) (Int.tmod (wrap64 ((wrap64 (x7_1 + t138026)) + 254)) 256)) | ((with_reducible refine gate_store (t := 3) (p := 50) rfl ?_); refine store_event (t := 3) (p := 50) (v := ?vo_w49) (w1 := (w46.setCell ⟨go41, (x8_1 : Int).toNat, none⟩ (.int .i64 (Int.tmod (wrap64 ((wrap64 (x7_1 + t138026)) + 254)) 256)))) ?hg ?ho ?hn ?hr ?_; (case ho => rfl); (case hg => rfl); (case hn => rfl); (case hr => (go_simp; done)); intro w49 hw; have hg : w46.grownBy w49 (some go41) := (by rw [hw]; exact HP48.2); have hp_ : Kd.R (Kd.int .i64) 3 w49 w.heap.size (fun _ => True) (.slice (some ⟨go41, 0, none⟩) x138019003_1.length co45) y138028 := (by rw [hw, Ny138028.out]; exact HP48.1); clear HP48; have n0_ := Aside0.mk (hp_); have n1_ := Aside0.mk (blk_grown (g := gb138001) (o := .cells #[.int .i64 0, .int .i64 0, .int .i64 0, .slice none 0 0] 27 (0, 0)) BK138001.out hg (Kd.R_ne HO_138019003.out BK138001.out (by decide))); have n2_ := Aside0.mk (blk_grown (g := gb138018) (o := .cells #[.int .i64 t138012, .int .i64 t138013, .int .i64 t138014, .slice (some ⟨go41, 0, none⟩) x138019003_1.length co45] 27 (0, 0)) BK138018.out hg (Kd.R_ne HO_138019003.out BK138018.out (by decide))); have n3_ := Aside0.mk (IsS144.grown HI0.out hg (IsS144.own_ne HI0.out HO_138019003.out (by decide))); have n4_ := Aside0.mk ((by rw [hw]; exact below_set HB.out (Nat.le_trans HL.out GB41.out) : Below w0.heap.size w0 w49)); have n5_ := Aside0.mk (KeepBut.trans HK.out (KeepBut.of_grown hg g) (Kd.R_base2 HO_138019003.out)); clear HO_138019003; clear BK138001; clear BK138018; clear HI0; clear HB; clear HK; have HO_138019003 := n0_; have BK138001 := n1_; have BK138018 := n2_; have HI0 := n3_; have HB := n4_; have HK := n5_; clear n0_ n1_ n2_ n3_ n4_ n5_; clear hg hw hp_))
              go_roundg k1
              case measure => have := HK1.out; omega
              case rel => exact ⟨(Int.tmod (wrap64 ((wrap64 (x7_1 + t138026)) + 254)) 256), (wrap64 (x8_1 + 1)), (t138027), (y138028), (.slice (some ⟨go41, 0, none⟩) x138019003_1.length co45), (by rfl), (by rfl), H', ⟨by have := HK1.out; omega⟩, ⟨by (with_reducible repeat (first | apply Kd.R_alloc | apply Kd.R_drewN | apply Kd.R_drew)); exact HO_138019003.out⟩, ⟨by (with_reducible repeat (first | refine blk_drewN ?_ _ | refine blk_drew ?_ | refine blk_alloc ?_ _)); exact BK138001.out⟩, ⟨by (with_reducible repeat (first | refine blk_drewN ?_ _ | refine blk_drew ?_ | refine blk_alloc ?_ _)); exact BK138018.out⟩, ⟨by exact HI0.out⟩, ⟨by exact HK.out⟩, ⟨by exact HB.out⟩⟩
            · rw [if_neg c40] at H
              exact absurd H (by simp)
          · rw [if_neg c38] at H
            have c38b0 : (t138019 == 1) = false := beq_eq_false_iff_ne.mpr c38
            have c38b1 : (t138019 != 1) = true := bne_iff_ne.mpr c38
            by_cases c50 : t138019 = 2
            · rw [if_pos c50] at H
              have c50b0 : (t138019 == 2) = true := beq_iff_eq.mpr c50
              have c50b1 : (t138019 != 2) = false := bne_eq_false_iff_eq.mpr c50
              clear c50
              replace H := Option.bind_eq_some_iff.mp H
              obtain ⟨⟨t138029, t138030⟩, A510, H⟩ := H
              replace H : (if 0 ≤ x8_1 then (spec_randomImage.l0 k1 t138019 (wrap64 (60 * t138029)) (wrap64 (x8_1 + 1)) s0_0 t138030 t138012 t138013 t138014 (x138019003_1.set (x8_1 : Int).toNat (wrap64 (60 * t138029)))) else none) = some (r1, r2, r3, r4, r5) := H
              have A51 := Aside0.mk A510
              clear A510
              by_cases c52 : 0 ≤ x8_1
              · rw [if_pos c52] at H
                have c52b0 : decide (0 ≤ x8_1) = true := decide_eq_true c52
                clear c52
                obtain ⟨y138031, hy138031⟩ : ∃ y_ : List Int, y_ = (x138019003_1.set (x8_1 : Int).toNat (wrap64 (60 * t138029))) := ⟨_, rfl⟩
                replace H : (spec_randomImage.l0 k1 t138019 (wrap64 (60 * t138029)) (wrap64 (x8_1 + 1)) s0_0 t138030 t138012 t138013 t138014 y138031) = some (r1, r2, r3, r4, r5) := by (rw [hy138031]; with_reducible exact H)
                have Ny138031 := Aside0.mk hy138031
                clear hy138031
                have H' := Aside0.mk H
                clear H
                have hnb54 := NB138018_138001.out
                have hnc54 := NB138001_138018.out
                have hnb55 := NB138018_0.out
                have hnc55 := NB0_138018.out
                have hcz56_0 : wr.cell? ⟨gb138018, 0, none⟩ = some (.int .i64 t138012) := (blk_cell BK138018.out 0).trans rfl
                have hcz56_1 : wr.cell? ⟨gb138018, 1, none⟩ = some (.int .i64 t138013) := (blk_cell BK138018.out 1).trans rfl
                have hcz56_2 : wr.cell? ⟨gb138018, 2, none⟩ = some (.int .i64 t138014) := (blk_cell BK138018.out 2).trans rfl
                have hcz56_3 : wr.cell? ⟨gb138018, 3, none⟩ = some u138019003 := (blk_cell BK138018.out 3).trans rfl
                have hfz56_0 := blk_frozen BK138018.out 0
                have hfz56_1 := blk_frozen BK138018.out 1
                have hfz56_2 := blk_frozen BK138018.out 2
                have hfz56_3 := blk_frozen BK138018.out 3
                obtain ⟨Ao57, co57, eo57⟩ := Kd.R_slice HO_138019003.out
                subst eo57
                go_wp2_with (first | ((with_reducible refine gate_callee (f := 127) rfl ?_); refine goesL_ (some 44) rfl rfl Try.func127 (by kernel_rfl) rfl #[.pointer (some ⟨g, 0, none⟩), .int .i64 4] rfl (by (try simp only [List.map_toArray, List.map_cons, List.map_nil]); rfl) ?_; (with_reducible refine (spec_reader_pick.calls k1 g s0_0 x1001_1 4 t138029 t138030 w0 _ ?side1 ?side2 A51.out).mono ?_); (case side1 => repeat (with_reducible exact HI0.out)); (case side2 => repeat (with_reducible exact HB.out)); rintro e w58 ⟨rfl, hi, hb, hk⟩; refine ⟨_, rfl, ?_⟩; have n0_ := Aside0.mk (Kd.R_mono (Kd.R_keep (IsS144.apart (show IsS144 w0 _ g s0_0 x1001_1 from by exact HI0.out) HO_138019003.out (by decide)) hk (fun _ h => h.2)) (fun _ h => h.1)); have n1_ := Aside0.mk (KeepBut.blk hk (g' := gb138001) (o := .cells #[.int .i64 0, .int .i64 0, .int .i64 0, .slice none 0 0] 27 (0, 0)) BK138001.out NB138001_0.out (by simp)); have n2_ := Aside0.mk (KeepBut.blk hk (g' := gb138018) (o := .cells #[.int .i64 t138012, .int .i64 t138013, .int .i64 t138014, .slice Ao57 x138019003_1.length co57] 27 (0, 0)) BK138018.out NB138018_0.out (by simp)); have n3_ := Aside0.mk (KeepBut.trans HK.out hk (.inl rfl)); have n4_ := Aside0.mk (hb); have n5_ := Aside0.mk (hi); clear HO_138019003; clear BK138001; clear BK138018; clear HK; clear HB; clear HI0; have HO_138019003 := n0_; have BK138001 := n1_; have BK138018 := n2_; have HK := n3_; have HB := n4_; have HI0 := n5_; clear n0_ n1_ n2_ n3_ n4_ n5_; (try clear hb); (try clear hk); (try clear hi); have hcz59_0 : w58.cell? ⟨gb138018, 0, none⟩ = some (.int .i64 t138012) := (blk_cell BK138018.out 0).trans rfl; have hcz59_1 : w58.cell? ⟨gb138018, 1, none⟩ = some (.int .i64 t138013) := (blk_cell BK138018.out 1).trans rfl; have hcz59_2 : w58.cell? ⟨gb138018, 2, none⟩ = some (.int .i64 t138014) := (blk_cell BK138018.out 2).trans rfl; have hcz59_3 : w58.cell? ⟨gb138018, 3, none⟩ = some (.slice Ao57 x138019003_1.length co57) := (blk_cell BK138018.out 3).trans rfl; have hfz59_0 := blk_frozen BK138018.out 0; have hfz59_1 := blk_frozen BK138018.out 1; have hfz59_2 := blk_frozen BK138018.out 2; have hfz59_3 := blk_frozen BK138018.out 3; have p53 : 0 ≤ (x8_1 : Int) := of_decide_eq_true (by (with_reducible assumption)); have q53 : (x8_1 : Int) < ((x138019003_1.length : Int) : Int) := of_decide_eq_true (by (with_reducible assumption)); obtain ⟨go53, co53, eo53, gb53, gl53, cl53, HG53⟩ := Kd.R_form HO_138019003.out (by omega); (cases eo53); have GB53 := Aside0.mk gb53; have GG53 := Aside0.mk HG53; clear gb53 gl53 HG53; obtain ⟨hx53_0, hf53_0⟩ := Kd.R_celln 0 HO_138019003.out (x8_1 : Int) p53 q53; replace p53 := eq_true p53; replace q53 := eq_true q53; obtain ⟨hy60_, hz60_⟩ := Kd.R_celln 0 HO_138019003.out (x8_1 : Int) (of_decide_eq_true (by (with_reducible assumption))) (of_decide_eq_true (by (with_reducible assumption))); have HP60 := Kd.R_putg HO_138019003.out (x8_1 : Int) (wrap64 (60 * t138029))) | ((with_reducible refine gate_store (t := 3) (p := 50) rfl ?_); refine store_event (t := 3) (p := 50) (v := ?vo_w61) (w1 := (w58.setCell ⟨go53, (x8_1 : Int).toNat, none⟩ (.int .i64 (wrap64 (60 * t138029))))) ?hg ?ho ?hn ?hr ?_; (case ho => rfl); (case hg => rfl); (case hn => rfl); (case hr => (go_simp; done)); intro w61 hw; have hg : w58.grownBy w61 (some go53) := (by rw [hw]; exact HP60.2); have hp_ : Kd.R (Kd.int .i64) 3 w61 w.heap.size (fun _ => True) (.slice (some ⟨go53, 0, none⟩) x138019003_1.length co57) y138031 := (by rw [hw, Ny138031.out]; exact HP60.1); clear HP60; have n0_ := Aside0.mk (hp_); have n1_ := Aside0.mk (blk_grown (g := gb138001) (o := .cells #[.int .i64 0, .int .i64 0, .int .i64 0, .slice none 0 0] 27 (0, 0)) BK138001.out hg (Kd.R_ne HO_138019003.out BK138001.out (by decide))); have n2_ := Aside0.mk (blk_grown (g := gb138018) (o := .cells #[.int .i64 t138012, .int .i64 t138013, .int .i64 t138014, .slice (some ⟨go53, 0, none⟩) x138019003_1.length co57] 27 (0, 0)) BK138018.out hg (Kd.R_ne HO_138019003.out BK138018.out (by decide))); have n3_ := Aside0.mk (IsS144.grown HI0.out hg (IsS144.own_ne HI0.out HO_138019003.out (by decide))); have n4_ := Aside0.mk ((by rw [hw]; exact below_set HB.out (Nat.le_trans HL.out GB53.out) : Below w0.heap.size w0 w61)); have n5_ := Aside0.mk (KeepBut.trans HK.out (KeepBut.of_grown hg g) (Kd.R_base2 HO_138019003.out)); clear HO_138019003; clear BK138001; clear BK138018; clear HI0; clear HB; clear HK; have HO_138019003 := n0_; have BK138001 := n1_; have BK138018 := n2_; have HI0 := n3_; have HB := n4_; have HK := n5_; clear n0_ n1_ n2_ n3_ n4_ n5_; clear hg hw hp_))
                go_roundg k1
                case measure => have := HK1.out; omega
                case rel => exact ⟨(wrap64 (60 * t138029)), (wrap64 (x8_1 + 1)), (t138030), (y138031), (.slice (some ⟨go53, 0, none⟩) x138019003_1.length co57), (by rfl), (by rfl), H', ⟨by have := HK1.out; omega⟩, ⟨by (with_reducible repeat (first | apply Kd.R_alloc | apply Kd.R_drewN | apply Kd.R_drew)); exact HO_138019003.out⟩, ⟨by (with_reducible repeat (first | refine blk_drewN ?_ _ | refine blk_drew ?_ | refine blk_alloc ?_ _)); exact BK138001.out⟩, ⟨by (with_reducible repeat (first | refine blk_drewN ?_ _ | refine blk_drew ?_ | refine blk_alloc ?_ _)); exact BK138018.out⟩, ⟨by exact HI0.out⟩, ⟨by exact HK.out⟩, ⟨by exact HB.out⟩⟩
              · rw [if_neg c52] at H
                exact absurd H (by simp)
            · rw [if_neg c50] at H
              have c50b0 : (t138019 == 2) = false := beq_eq_false_iff_ne.mpr c50
              have c50b1 : (t138019 != 2) = true := bne_iff_ne.mpr c50
              by_cases c62 : 0 ≤ x8_1
              · rw [if_pos c62] at H
                have c62b0 : decide (0 ≤ x8_1) = true := decide_eq_true c62
                clear c62
                obtain ⟨y138032, hy138032⟩ : ∃ y_ : List Int, y_ = (x138019003_1.set (x8_1 : Int).toNat x7_1) := ⟨_, rfl⟩
                replace H : (spec_randomImage.l0 k1 t138019 x7_1 (wrap64 (x8_1 + 1)) s0_0 x1001_1 t138012 t138013 t138014 y138032) = some (r1, r2, r3, r4, r5) := by (rw [hy138032]; with_reducible exact H)
                have Ny138032 := Aside0.mk hy138032
                clear hy138032
                have H' := Aside0.mk H
                clear H
                have hnb64 := NB138018_138001.out
                have hnc64 := NB138001_138018.out
                have hnb65 := NB138018_0.out
                have hnc65 := NB0_138018.out
                have hcz66_0 : wr.cell? ⟨gb138018, 0, none⟩ = some (.int .i64 t138012) := (blk_cell BK138018.out 0).trans rfl
                have hcz66_1 : wr.cell? ⟨gb138018, 1, none⟩ = some (.int .i64 t138013) := (blk_cell BK138018.out 1).trans rfl
                have hcz66_2 : wr.cell? ⟨gb138018, 2, none⟩ = some (.int .i64 t138014) := (blk_cell BK138018.out 2).trans rfl
                have hcz66_3 : wr.cell? ⟨gb138018, 3, none⟩ = some u138019003 := (blk_cell BK138018.out 3).trans rfl
                have hfz66_0 := blk_frozen BK138018.out 0
                have hfz66_1 := blk_frozen BK138018.out 1
                have hfz66_2 := blk_frozen BK138018.out 2
                have hfz66_3 := blk_frozen BK138018.out 3
                obtain ⟨Ao67, co67, eo67⟩ := Kd.R_slice HO_138019003.out
                subst eo67
                have p63 : 0 ≤ (x8_1 : Int) := of_decide_eq_true (by (with_reducible assumption))
                have q63 : (x8_1 : Int) < ((x138019003_1.length : Int) : Int) := of_decide_eq_true (by (with_reducible assumption))
                obtain ⟨go63, co63, eo63, gb63, gl63, cl63, HG63⟩ := Kd.R_form HO_138019003.out (by omega)
                (cases eo63)
                have GB63 := Aside0.mk gb63
                have GG63 := Aside0.mk HG63
                clear gb63 gl63 HG63
                obtain ⟨hx63_0, hf63_0⟩ := Kd.R_celln 0 HO_138019003.out (x8_1 : Int) p63 q63
                replace p63 := eq_true p63
                replace q63 := eq_true q63
                have HP68 := Kd.R_putg HO_138019003.out (x8_1 : Int) x7_1
                go_wp2_with (first | ((with_reducible refine gate_store (t := 3) (p := 50) rfl ?_); refine store_event (t := 3) (p := 50) (v := ?vo_w69) (w1 := (wr.setCell ⟨go63, (x8_1 : Int).toNat, none⟩ (.int .i64 x7_1))) ?hg ?ho ?hn ?hr ?_; (case ho => rfl); (case hg => rfl); (case hn => rfl); (case hr => (go_simp; done)); intro w69 hw; have hg : wr.grownBy w69 (some go63) := (by rw [hw]; exact HP68.2); have hp_ : Kd.R (Kd.int .i64) 3 w69 w.heap.size (fun _ => True) (.slice (some ⟨go63, 0, none⟩) x138019003_1.length co67) y138032 := (by rw [hw, Ny138032.out]; exact HP68.1); clear HP68; have n0_ := Aside0.mk (hp_); have n1_ := Aside0.mk (blk_grown (g := gb138001) (o := .cells #[.int .i64 0, .int .i64 0, .int .i64 0, .slice none 0 0] 27 (0, 0)) BK138001.out hg (Kd.R_ne HO_138019003.out BK138001.out (by decide))); have n2_ := Aside0.mk (blk_grown (g := gb138018) (o := .cells #[.int .i64 t138012, .int .i64 t138013, .int .i64 t138014, .slice (some ⟨go63, 0, none⟩) x138019003_1.length co67] 27 (0, 0)) BK138018.out hg (Kd.R_ne HO_138019003.out BK138018.out (by decide))); have n3_ := Aside0.mk (IsS144.grown HI0.out hg (IsS144.own_ne HI0.out HO_138019003.out (by decide))); have n4_ := Aside0.mk ((by rw [hw]; exact below_set HB.out (Nat.le_trans HL.out GB63.out) : Below w0.heap.size w0 w69)); have n5_ := Aside0.mk (KeepBut.trans HK.out (KeepBut.of_grown hg g) (Kd.R_base2 HO_138019003.out)); clear HO_138019003; clear BK138001; clear BK138018; clear HI0; clear HB; clear HK; have HO_138019003 := n0_; have BK138001 := n1_; have BK138018 := n2_; have HI0 := n3_; have HB := n4_; have HK := n5_; clear n0_ n1_ n2_ n3_ n4_ n5_; clear hg hw hp_))
                go_roundg k1
                case measure => have := HK1.out; omega
                case rel => exact ⟨(x7_1), (wrap64 (x8_1 + 1)), (x1001_1), (y138032), (.slice (some ⟨go63, 0, none⟩) x138019003_1.length co67), (by rfl), (by rfl), H', ⟨by have := HK1.out; omega⟩, ⟨by (with_reducible repeat (first | apply Kd.R_alloc | apply Kd.R_drewN | apply Kd.R_drew)); exact HO_138019003.out⟩, ⟨by (with_reducible repeat (first | refine blk_drewN ?_ _ | refine blk_drew ?_ | refine blk_alloc ?_ _)); exact BK138001.out⟩, ⟨by (with_reducible repeat (first | refine blk_drewN ?_ _ | refine blk_drew ?_ | refine blk_alloc ?_ _)); exact BK138018.out⟩, ⟨by exact HI0.out⟩, ⟨by exact HK.out⟩, ⟨by exact HB.out⟩⟩
              · rw [if_neg c62] at H
                exact absurd H (by simp)
      · rw [if_neg c25] at H
        have c25b0 : decide (x8_1 < (x138019003_1.length : Int)) = false := decide_eq_false c25
        clear c25
        simp only [Option.some.injEq, Prod.mk.injEq] at H
        obtain ⟨rfl, rfl, rfl, rfl, rfl⟩ := H
        have hnb70 := NB138018_138001.out
        have hnc70 := NB138001_138018.out
        have hnb71 := NB138018_0.out
        have hnc71 := NB0_138018.out
        have hcz72_0 : wr.cell? ⟨gb138018, 0, none⟩ = some (.int .i64 t138012) := (blk_cell BK138018.out 0).trans rfl
        have hcz72_1 : wr.cell? ⟨gb138018, 1, none⟩ = some (.int .i64 t138013) := (blk_cell BK138018.out 1).trans rfl
        have hcz72_2 : wr.cell? ⟨gb138018, 2, none⟩ = some (.int .i64 t138014) := (blk_cell BK138018.out 2).trans rfl
        have hcz72_3 : wr.cell? ⟨gb138018, 3, none⟩ = some u138019003 := (blk_cell BK138018.out 3).trans rfl
        have hfz72_0 := blk_frozen BK138018.out 0
        have hfz72_1 := blk_frozen BK138018.out 1
        have hfz72_2 := blk_frozen BK138018.out 2
        have hfz72_3 := blk_frozen BK138018.out 3
        obtain ⟨Ao73, co73, eo73⟩ := Kd.R_slice HO_138019003.out
        subst eo73
        have hnb74 := NB138001_0.out
        have hnc74 := NB0_138001.out
        have hcz75_0 : wr.cell? ⟨gb138001, 0, none⟩ = some (.int .i64 0) := (blk_cell BK138001.out 0).trans rfl
        have hcz75_1 : wr.cell? ⟨gb138001, 1, none⟩ = some (.int .i64 0) := (blk_cell BK138001.out 1).trans rfl
        have hcz75_2 : wr.cell? ⟨gb138001, 2, none⟩ = some (.int .i64 0) := (blk_cell BK138001.out 2).trans rfl
        have hcz75_3 : wr.cell? ⟨gb138001, 3, none⟩ = some (.slice none 0 0) := (blk_cell BK138001.out 3).trans rfl
        have hfz75_0 := blk_frozen BK138001.out 0
        have hfz75_1 := blk_frozen BK138001.out 1
        have hfz75_2 := blk_frozen BK138001.out 2
        have hfz75_3 := blk_frozen BK138001.out 3
        go_wp2
        refine bodyPost_ret (results_cell_row rfl _ _ gb138001 27 #[.int .i64 t138012, .int .i64 t138013, .int .i64 t138014, .slice Ao73 x138019003_1.length co73] (0, 0) _ rfl (by refine blk_put (cs := #[.int .i64 t138012, .int .i64 t138013, .int .i64 t138014, .slice none 0 0]) ?_ 3 _ rfl; (with_reducible repeat (first | refine blk_drewN ?_ _ | refine blk_drew ?_ | refine blk_alloc ?_ _)); refine blk_put (cs := #[.int .i64 t138012, .int .i64 t138013, .int .i64 0, .slice none 0 0]) ?_ 2 _ rfl; (with_reducible repeat (first | refine blk_drewN ?_ _ | refine blk_drew ?_ | refine blk_alloc ?_ _)); refine blk_put (cs := #[.int .i64 t138012, .int .i64 0, .int .i64 0, .slice none 0 0]) ?_ 1 _ rfl; (with_reducible repeat (first | refine blk_drewN ?_ _ | refine blk_drew ?_ | refine blk_alloc ?_ _)); refine blk_put (cs := #[.int .i64 0, .int .i64 0, .int .i64 0, .slice none 0 0]) ?_ 0 _ rfl; (with_reducible repeat (first | refine blk_drewN ?_ _ | refine blk_drew ?_ | refine blk_alloc ?_ _)); exact BK138001.out) Try.underlying27 rfl (by kernel_rfl)) rfl ?_
        exact ⟨_, by rfl, by (with_reducible repeat (first | apply Kd.R_alloc | apply Kd.R_drewN | apply Kd.R_drew)); exact Kd.R_mono (Kd.R_far (p := ⟨gb138001, 3, none⟩) (Kd.R_far (p := ⟨gb138001, 2, none⟩) (Kd.R_far (p := ⟨gb138001, 1, none⟩) (Kd.R_far (p := ⟨gb138001, 0, none⟩) (Kd.R_types HO_138019003.out BK138001.out (by decide)) (fun _ hk => hk.2) (.int .i64 t138012)) (fun _ hk => hk.2) (.int .i64 t138013)) (fun _ hk => hk.2) (.int .i64 t138014)) (fun _ hk => hk.2) (.slice Ao73 x138019003_1.length co73)) (fun _ hk => trivial), by repeat (with_reducible first | exact HI0.out | refine IsS144.far ?_ NB0_138001.out _), by repeat (with_reducible first | exact HB.out | refine below_set ?_ GE138001.out), by repeat (with_reducible first | exact HK.out | refine keep_far ?_ GW138001.out _)⟩


def spec_anyPlanes.f (k : Nat) (s0_0 : List Int) (s0_1 : Int) : Option (Int × Int) := (spec_reader_one.f k s0_0 s0_1 (([1, 3, 1, 4, 2] : List Int))).bind fun bt139004 => (some (bt139004.1, bt139004.2))
theorem spec_anyPlanes.mono : ∀ a0 a1 k, LeO (spec_anyPlanes.f k a0 a1) (spec_anyPlanes.f (k + 1) a0 a1) := by
  intro a0 a1 k
  unfold spec_anyPlanes.f
  repeat' first
      | (with_reducible exact spec_reader_one.mono _ _ _ _)
      | (with_reducible exact LeO.refl _)
      | (with_reducible exact LeO.none _)
      | (with_reducible refine LeO.ite ?_ ?_)
      | (with_reducible refine LeO.bind ?_ (fun _ => ?_))
      | exact spec_reader_one.mono _ _ _ _
      | exact LeO.none _
      | refine LeO.ite ?_ ?_
      | refine LeO.bind ?_ (fun _ => ?_)
set_option maxHeartbeats 8000000 in
set_option maxRecDepth 100000 in
theorem spec_anyPlanes.calls (k : Nat) (g : Nat) (s0_0 : List Int) (s0_1 : Int) (r1 : Int) (r2 : Int) (w0 w : World) (hI : IsS144 w0 w g s0_0 s0_1) (hB : Below w0.heap.size w0 w) (h : spec_anyPlanes.f k s0_0 s0_1 = some (r1, r2)) :
    Calls Try.prog 138 #[.pointer (some ⟨g, 0, none⟩)] w fun e w' => e = .returned (.int .i64 r1) ∧ IsS144 w0 w' g s0_0 r2 ∧ Below w0.heap.size w0 w' ∧ KeepBut w w' g none := by
  have HI0 := Aside0.mk hI
  have HK := Aside0.mk (KeepBut.refl w g none)
  have HL := Aside0.mk hB.size
  clear hI
  have HW0 := Aside0.mk hB.size
  have HB := Aside0.mk hB
  clear hB
  have H : ((spec_reader_one.f k s0_0 s0_1 (([1, 3, 1, 4, 2] : List Int))).bind fun bt139004 => (some (bt139004.1, bt139004.2))) = some (r1, r2) := h
  clear h
  obtain ⟨y139001, hy139001⟩ : ∃ y_ : List Int, y_ = (([1, 3, 1, 4, 2] : List Int)) := ⟨_, rfl⟩
  replace H : ((spec_reader_one.f k s0_0 s0_1 y139001).bind fun bt139004 => (some (bt139004.1, bt139004.2))) = some (r1, r2) := by first | (rw [hy139001]; with_reducible exact H) | (have H2_ := (Option.bind_some _ _).symm.trans H; rw [hy139001]; with_reducible exact H2_) | (have H2_ := (Option.bind_some _ _).symm.trans H; with_reducible exact H2_) | with_reducible exact H | (rw [hy139001]; exact H) | exact H
  have Ny139001 := Aside0.mk hy139001
  clear hy139001
  replace H := Option.bind_eq_some_iff.mp H
  obtain ⟨⟨t139004, t139005⟩, A20, H⟩ := H
  replace H : (some (t139004, t139005)) = some (r1, r2) := H
  have A2 := Aside0.mk A20
  clear A20
  simp only [Option.some.injEq, Prod.mk.injEq] at H
  obtain ⟨rfl, rfl⟩ := H
  go_enter Try.func138, Try.ntmps138
  go_wp2_with (first | ((with_reducible refine gate_dst (N := 4) rfl ?_); refine Kd.R_lit (Kd.int .i64) _ 3 ?hg (N := 4) ?hd (xs := ([1, 3, 1, 4, 2] : List Int)) (inner := [.int .i64 1, .int .i64 3, .int .i64 1, .int .i64 4, .int .i64 2]) (ok := fun _ => True) (okp := fun _ => True) ?hr ?hp (fun _ hk => hk) trivial (Below.refl _ _) (Nat.le_refl _) (by simp) ?_; (case hd => rfl); (case hg => rfl); (case hr => first | (go_simp; done) | (go_simp; rfl)); (case hp => exact (Reps.one (show Kd.M (Kd.int .i64) _ _ _ 1 [.int .i64 1] from rfl) (Reps.one (show Kd.M (Kd.int .i64) _ _ _ 3 [.int .i64 3] from rfl) (Reps.one (show Kd.M (Kd.int .i64) _ _ _ 1 [.int .i64 1] from rfl) (Reps.one (show Kd.M (Kd.int .i64) _ _ _ 4 [.int .i64 4] from rfl) (Reps.one (show Kd.M (Kd.int .i64) _ _ _ 2 [.int .i64 2] from rfl) (Reps.none _ _))))))); intro v139002 w3 ho4 hb hg_ hnew_; clear hg_ hnew_; (first | rw [← Ny139001.out] at ho4 | (simp only [Int.reduceToNat] at ho4; rw [← Ny139001.out] at ho4)); have n0_ := Aside0.mk (Kd.R_lower ho4 (keep_size (w := w) (g := g) (row := none) (by repeat (first | (with_reducible first | exact HK.out | apply KeepBut.set_ | apply keep_drewN | apply keep_drew | apply keep_alloc) | exact HK.out)))); have n1_ := Aside0.mk (IsS144.below (by repeat (first | (with_reducible first | exact HI0.out | apply IsS144.alloc | apply IsS144.drewN | apply IsS144.drew | apply IsS144.set_1) | exact HI0.out)) hb); have n2_ := Aside0.mk (KeepBut.trans (by repeat (first | (with_reducible first | exact HK.out | apply KeepBut.set_ | apply keep_drewN | apply keep_drew | apply keep_alloc) | exact HK.out)) (KeepBut.of_below hb g none) (.inl rfl)); have n3_ := Aside0.mk (below_step (by repeat (first | (with_reducible first | exact HB.out | apply below_alloc | apply pw_below_drewN | apply below_drew1 | refine below_set ?_ (IsS144.ge HI0.out)) | exact HB.out)) hb); clear HI0; clear HK; clear HB; have HO139003 := n0_; have HI0 := n1_; have HK := n2_; have HB := n3_; clear n0_ n1_ n2_ n3_; clear hb ho4; obtain ⟨Ao5, co5, eo5⟩ := Kd.R_slice HO139003.out; subst eo5) | ((with_reducible refine gate_callee (f := 147) rfl ?_); refine goesL_ (some 5) rfl rfl Try.func147 (by kernel_rfl) rfl #[.pointer (some ⟨g, 0, none⟩), .slice Ao5 y139001.length co5] rfl (by (try simp only [List.map_toArray, List.map_cons, List.map_nil]); first | done | rfl | (simp only [List.length_drop, List.length_take]; rfl)) ?_; (with_reducible refine (spec_reader_one.calls k g s0_0 s0_1 _ _ y139001 t139004 t139005 w0 _ ?side1 ?side2 ?side3 ?side4 ?side5 A2.out).mono ?_); (case side1 => repeat (first | (with_reducible first | exact HI0.out | apply IsS144.alloc | apply IsS144.drewN | apply IsS144.drew | apply IsS144.set_1) | exact HI0.out)); (case side2 => repeat (first | (with_reducible first | exact HB.out | apply below_alloc | apply pw_below_drewN | apply below_drew1 | refine below_set ?_ (IsS144.ge HI0.out)) | exact HB.out)); (case side3 => repeat (first | exact (Kd.R_reads' HO139003.out).2.2 | (with_reducible refine Kd.C_alloc ?_ _) | (with_reducible refine Kd.C_drewN ?_ _) | (with_reducible refine Kd.C_drew ?_))); (case side4 => exact (Kd.R_reads' HO139003.out).2.1); (case side5 => exact far_slice (IsS144.own_ne HI0.out HO139003.out (by decide))); rintro e w6 ⟨rfl, hi, hb, hk⟩; refine ⟨_, rfl, ?_⟩; have n0_ := Aside0.mk (Kd.R_mono (Kd.R_keep (IsS144.apart (show IsS144 w0 _ g s0_0 s0_1 from by repeat (first | (with_reducible first | exact HI0.out | apply IsS144.alloc | apply IsS144.drewN | apply IsS144.drew | apply IsS144.set_1) | exact HI0.out)) (by (with_reducible repeat (first | apply Kd.R_alloc | apply Kd.R_drewN | apply Kd.R_drew)); exact HO139003.out) (by decide)) hk (fun _ h => h.2)) (fun _ h => h.1)); have n1_ := Aside0.mk (KeepBut.trans (by repeat (first | (with_reducible first | exact HK.out | apply KeepBut.set_ | apply keep_drewN | apply keep_drew | apply keep_alloc) | exact HK.out)) hk (.inl rfl)); have n2_ := Aside0.mk (hb); have n3_ := Aside0.mk (hi); clear HO139003; clear HK; clear HB; clear HI0; have HO139003 := n0_; have HK := n1_; have HB := n2_; have HI0 := n3_; clear n0_ n1_ n2_ n3_; (try clear hb); (try clear hb2); (try clear hk); (try clear hi)))
  go_ret
  exact ⟨by first | rfl | (simp [errW_none, errW_some] <;> rfl) | (simp [*, errW_none, errW_some] <;> rfl), by repeat (first | (with_reducible first | exact HI0.out | apply IsS144.alloc | apply IsS144.drewN | apply IsS144.drew | apply IsS144.set_1) | exact HI0.out), by repeat (first | (with_reducible first | exact HB.out | apply below_alloc | apply pw_below_drewN | apply below_drew1 | refine below_set ?_ (IsS144.ge HI0.out)) | exact HB.out), by repeat (first | (with_reducible first | exact HK.out | apply KeepBut.set_ | apply keep_drewN | apply keep_drew | apply keep_alloc) | exact HK.out)⟩


/- A row that may begin inside its block, and whose block is younger than was told. -/

theorem qraise {α : Type} {d : Kd α} {e : Nat} {W : World} {b b' : Nat} {ok : Nat → Prop} {v : Value} {xs : List α} (hM : ∀ w ok x cs, d.M w b ok x cs → d.M w b' ok x cs) (h : d.Q e W b ok v xs) (hb : ∀ k, v.ownBlock = some k → b' ≤ k) : d.Q e W b' ok v xs := by
  obtain ⟨h0, inner, ho, hr⟩ := h
  refine ⟨h0, inner, ?_, hr.imp_ (fun _ _ hp => hM _ _ _ _ hp)⟩
  obtain ⟨h1, h2⟩ := ho
  refine ⟨h1, ?_⟩
  rcases h2 with ⟨hz, A, rfl, hA⟩ | ⟨g, off, cap, cur, rfl, _, r⟩
  · refine .inl ⟨hz, A, rfl, fun a ha => ⟨?_, (hA a ha).2⟩⟩
    subst ha
    exact hb a.block (by simp [Value.ownBlock])
  · exact .inr ⟨g, off, cap, cur, rfl, hb g (by simp [Value.ownBlock]), r⟩

def spec_anyImage.f (k : Nat) (s0_0 : List Int) (s0_1 : Int) : Option (Int × Int × Int × List Int × Int) := (spec_anyPlanes.f k s0_0 s0_1).bind fun bt95002 => ((spec_randomImage.f k s0_0 bt95002.2 bt95002.1).bind fun bt95004 => ((spec_spoilImage.f k s0_0 bt95004.2.2.2.2 bt95004.1 bt95004.2.1 bt95004.2.2.1 bt95004.2.2.2.1).bind fun bt95011 => (some (bt95011.1, bt95011.2.1, bt95011.2.2.1, bt95011.2.2.2.1, bt95011.2.2.2.2))))
theorem spec_anyImage.mono : ∀ a0 a1 k, LeO (spec_anyImage.f k a0 a1) (spec_anyImage.f (k + 1) a0 a1) := by
  intro a0 a1 k
  unfold spec_anyImage.f
  repeat' first
      | (with_reducible exact spec_anyPlanes.mono _ _ _)
      | (with_reducible exact spec_randomImage.mono _ _ _ _)
      | (with_reducible exact spec_spoilImage.mono _ _ _ _ _ _ _)
      | (with_reducible exact LeO.refl _)
      | (with_reducible exact LeO.none _)
      | (with_reducible refine LeO.ite ?_ ?_)
      | (with_reducible refine LeO.bind ?_ (fun _ => ?_))
      | exact spec_anyPlanes.mono _ _ _
      | exact spec_randomImage.mono _ _ _ _
      | exact spec_spoilImage.mono _ _ _ _ _ _ _
      | exact LeO.none _
      | refine LeO.ite ?_ ?_
      | refine LeO.bind ?_ (fun _ => ?_)
set_option maxHeartbeats 8000000 in
set_option maxRecDepth 100000 in
theorem spec_anyImage.calls (k : Nat) (g : Nat) (s0_0 : List Int) (s0_1 : Int) (r1 : Int) (r2 : Int) (r3 : Int) (r4 : List Int) (r5 : Int) (w0 w : World) (hI : IsS144 w0 w g s0_0 s0_1) (hB : Below w0.heap.size w0 w) (h : spec_anyImage.f k s0_0 s0_1 = some (r1, r2, r3, r4, r5)) :
    Calls Try.prog 94 #[.pointer (some ⟨g, 0, none⟩)] w fun e w' => ∃ v3_ : Value, e = .returned (.agg #[.int .i64 r1, .int .i64 r2, .int .i64 r3, v3_]) ∧ Kd.Q (Kd.int .i64) 3 w' w.heap.size (fun _ => True) v3_ r4 ∧ IsS144 w0 w' g s0_0 r5 ∧ Below w0.heap.size w0 w' ∧ KeepBut w w' g none := by
  have hu27 := Try.underlying27
  have HI0 := Aside0.mk hI
  have HK := Aside0.mk (KeepBut.refl w g none)
  have HL := Aside0.mk hB.size
  clear hI
  have HW0 := Aside0.mk hB.size
  have HB := Aside0.mk hB
  clear hB
  have H : ((spec_anyPlanes.f k s0_0 s0_1).bind fun bt95002 => ((spec_randomImage.f k s0_0 bt95002.2 bt95002.1).bind fun bt95004 => ((spec_spoilImage.f k s0_0 bt95004.2.2.2.2 bt95004.1 bt95004.2.1 bt95004.2.2.1 bt95004.2.2.2.1).bind fun bt95011 => (some (bt95011.1, bt95011.2.1, bt95011.2.2.1, bt95011.2.2.2.1, bt95011.2.2.2.2))))) = some (r1, r2, r3, r4, r5) := h
  clear h
  replace H := Option.bind_eq_some_iff.mp H
  obtain ⟨⟨t95002, t95003⟩, A20, H⟩ := H
  replace H : ((spec_randomImage.f k s0_0 t95003 t95002).bind fun bt95004 => ((spec_spoilImage.f k s0_0 bt95004.2.2.2.2 bt95004.1 bt95004.2.1 bt95004.2.2.1 bt95004.2.2.2.1).bind fun bt95011 => (some (bt95011.1, bt95011.2.1, bt95011.2.2.1, bt95011.2.2.2.1, bt95011.2.2.2.2)))) = some (r1, r2, r3, r4, r5) := H
  have A2 := Aside0.mk A20
  clear A20
  replace H := Option.bind_eq_some_iff.mp H
  obtain ⟨⟨t95004, t95005, t95006, t95007, t95010⟩, A30, H⟩ := H
  replace H : ((spec_spoilImage.f k s0_0 t95010 t95004 t95005 t95006 t95007).bind fun bt95011 => (some (bt95011.1, bt95011.2.1, bt95011.2.2.1, bt95011.2.2.2.1, bt95011.2.2.2.2))) = some (r1, r2, r3, r4, r5) := H
  have A3 := Aside0.mk A30
  clear A30
  replace H := Option.bind_eq_some_iff.mp H
  obtain ⟨⟨t95011, t95012, t95013, t95014, t95017⟩, A40, H⟩ := H
  replace H : (some (t95011, t95012, t95013, t95014, t95017)) = some (r1, r2, r3, r4, r5) := H
  have A4 := Aside0.mk A40
  clear A40
  simp only [Option.some.injEq, Prod.mk.injEq] at H
  obtain ⟨rfl, rfl, rfl, rfl, rfl⟩ := H
  go_enter Try.func94, Try.ntmps94
  go_wp2_with (first | ((with_reducible refine gate_dst (N := 2) rfl ?_); refine box_event ?hg (N := 2) ?hd (cs := #[.int .i64 0, .int .i64 0, .int .i64 0, .slice none 0 0]) (t := 27) ?hr ?_; (case hd => rfl); (case hg => rfl); (case hr => first | (go_simp; done) | (go_simp; rfl)); intro gb95001 hg w5 hbox hb; have n0_ := Aside0.mk (IsS144.below (by repeat (first | (with_reducible first | exact HI0.out | apply IsS144.alloc | apply IsS144.drewN | apply IsS144.drew | apply IsS144.set_1) | exact HI0.out)) hb); have n1_ := Aside0.mk (KeepBut.trans (by repeat (first | (with_reducible first | exact HK.out | apply KeepBut.set_ | apply keep_drewN | apply keep_drew | apply keep_alloc) | exact HK.out)) (KeepBut.of_below hb g none) (.inl rfl)); have n2_ := Aside0.mk (below_step (by repeat (first | (with_reducible first | exact HB.out | apply below_alloc | apply pw_below_drewN | apply below_drew1 | refine below_set ?_ (IsS144.ge HI0.out)) | exact HB.out)) hb); have n3_ := Aside0.mk (hbox); have n4_ := Aside0.mk ((by rw [hg]; exact (keep_size (w := w) (g := g) (row := none) (by repeat (first | (with_reducible first | exact HK.out | apply KeepBut.set_ | apply keep_drewN | apply keep_drew | apply keep_alloc) | exact HK.out))) : w.heap.size ≤ gb95001)); have n5_ := Aside0.mk ((Nat.le_trans HW0.out (by rw [hg]; exact (keep_size (w := w) (g := g) (row := none) (by repeat (first | (with_reducible first | exact HK.out | apply KeepBut.set_ | apply keep_drewN | apply keep_drew | apply keep_alloc) | exact HK.out))) : w.heap.size ≤ gb95001) : w0.heap.size ≤ gb95001)); have n6_ := Aside0.mk ((by rw [hg]; exact Nat.ne_of_lt (IsS144.lt (show IsS144 w0 _ g s0_0 s0_1 from by repeat (first | (with_reducible first | exact HI0.out | apply IsS144.alloc | apply IsS144.drewN | apply IsS144.drew | apply IsS144.set_1) | exact HI0.out))) : g ≠ gb95001)); have n7_ := Aside0.mk ((by rw [hg]; exact Nat.ne_of_gt (IsS144.lt (show IsS144 w0 _ g s0_0 s0_1 from by repeat (first | (with_reducible first | exact HI0.out | apply IsS144.alloc | apply IsS144.drewN | apply IsS144.drew | apply IsS144.set_1) | exact HI0.out))) : gb95001 ≠ g)); clear HI0; clear HK; clear HB; have HI0 := n0_; have HK := n1_; have HB := n2_; have BK95001 := n3_; have GW95001 := n4_; have GE95001 := n5_; have NB0_95001 := n6_; have NB95001_0 := n7_; clear n0_ n1_ n2_ n3_ n4_ n5_ n6_ n7_; clear hb hbox hg) | ((with_reducible refine gate_callee (f := 138) rfl ?_); refine goesL_ (some 6) rfl rfl Try.func138 (by kernel_rfl) rfl #[.pointer (some ⟨g, 0, none⟩)] rfl (by (try simp only [List.map_toArray, List.map_cons, List.map_nil]); first | done | rfl | (simp only [List.length_drop, List.length_take]; rfl)) ?_; (with_reducible refine (spec_anyPlanes.calls k g s0_0 s0_1 t95002 t95003 w0 _ ?side1 ?side2 A2.out).mono ?_); (case side1 => repeat (first | (with_reducible first | exact HI0.out | apply IsS144.alloc | apply IsS144.drewN | apply IsS144.drew | apply IsS144.set_1 | refine IsS144.far ?_ NB0_95001.out _) | exact HI0.out)); (case side2 => repeat (first | (with_reducible first | exact HB.out | apply below_alloc | apply pw_below_drewN | apply below_drew1 | refine below_set ?_ (IsS144.ge HI0.out) | refine below_set ?_ GE95001.out) | exact HB.out)); rintro e w6 ⟨rfl, hi, hb, hk⟩; refine ⟨_, rfl, ?_⟩; have n0_ := Aside0.mk (KeepBut.blk hk (g' := gb95001) (o := .cells #[.int .i64 0, .int .i64 0, .int .i64 0, .slice none 0 0] 27 (0, 0)) (by (with_reducible repeat (first | refine blk_drewN ?_ _ | refine blk_drew ?_ | refine blk_alloc ?_ _)); exact BK95001.out) NB95001_0.out (by simp)); have n1_ := Aside0.mk (KeepBut.trans (by repeat (first | (with_reducible first | exact HK.out | apply KeepBut.set_ | apply keep_drewN | apply keep_drew | apply keep_alloc | refine keep_far ?_ GW95001.out _) | exact HK.out)) hk (.inl rfl)); have n2_ := Aside0.mk (hb); have n3_ := Aside0.mk (hi); clear BK95001; clear HK; clear HB; clear HI0; have BK95001 := n0_; have HK := n1_; have HB := n2_; have HI0 := n3_; clear n0_ n1_ n2_ n3_; (try clear hb); (try clear hb2); (try clear hk); (try clear hi)) | ((with_reducible refine gate_callee (f := 137) rfl ?_); refine goesL_ (some 7) rfl rfl Try.func137 (by kernel_rfl) rfl #[.pointer (some ⟨g, 0, none⟩), .int .i64 t95002] rfl (by (try simp only [List.map_toArray, List.map_cons, List.map_nil]); first | done | rfl | (simp only [List.length_drop, List.length_take]; rfl)) ?_; (with_reducible refine (spec_randomImage.calls k g s0_0 t95003 t95002 t95004 t95005 t95006 t95007 t95010 w0 _ ?side1 ?side2 A3.out).mono ?_); (case side1 => repeat (first | (with_reducible first | exact HI0.out | apply IsS144.alloc | apply IsS144.drewN | apply IsS144.drew | apply IsS144.set_1 | refine IsS144.far ?_ NB0_95001.out _) | exact HI0.out)); (case side2 => repeat (first | (with_reducible first | exact HB.out | apply below_alloc | apply pw_below_drewN | apply below_drew1 | refine below_set ?_ (IsS144.ge HI0.out) | refine below_set ?_ GE95001.out) | exact HB.out)); rintro e w7 ⟨v95008, rfl, ho0, hi, hb, hk⟩; refine ⟨_, rfl, ?_⟩; have n0_ := Aside0.mk (KeepBut.blk hk (g' := gb95001) (o := .cells #[.int .i64 0, .int .i64 0, .int .i64 0, .slice none 0 0] 27 (0, 0)) (by (with_reducible repeat (first | refine blk_drewN ?_ _ | refine blk_drew ?_ | refine blk_alloc ?_ _)); exact BK95001.out) NB95001_0.out (by simp)); have n1_ := Aside0.mk (Kd.R_lower ho0 (keep_size (w := w) (g := g) (row := none) (by repeat (first | (with_reducible first | exact HK.out | apply KeepBut.set_ | apply keep_drewN | apply keep_drew | apply keep_alloc | refine keep_far ?_ GW95001.out _) | exact HK.out)))); have n2_ := Aside0.mk (KeepBut.trans (by repeat (first | (with_reducible first | exact HK.out | apply KeepBut.set_ | apply keep_drewN | apply keep_drew | apply keep_alloc | refine keep_far ?_ GW95001.out _) | exact HK.out)) hk (.inl rfl)); have n3_ := Aside0.mk (hb); have n4_ := Aside0.mk (hi); clear BK95001; clear HK; clear HB; clear HI0; have BK95001 := n0_; have HO95009 := n1_; have HK := n2_; have HB := n3_; have HI0 := n4_; clear n0_ n1_ n2_ n3_ n4_; (try clear hb); (try clear hb2); (try clear hk); (try clear hi); (try clear ho0); obtain ⟨Ao8, co8, eo8⟩ := Kd.R_slice HO95009.out; subst eo8) | ((with_reducible refine gate_callee (f := 136) rfl ?_); refine goesL_ (some 8) rfl rfl Try.func136 (by kernel_rfl) rfl #[.pointer (some ⟨g, 0, none⟩), .agg #[.int .i64 t95004, .int .i64 t95005, .int .i64 t95006, .slice Ao8 t95007.length co8]] rfl (by (try simp only [List.map_toArray, List.map_cons, List.map_nil]); first | done | rfl | (simp only [List.length_drop, List.length_take]; rfl)) ?_; (with_reducible refine (spec_spoilImage.calls k g s0_0 t95010 t95004 t95005 t95006 (fun k_ => some k_ = (.slice Ao8 t95007.length co8 : Value).ownBlock) (.slice Ao8 t95007.length co8) t95007 t95011 t95012 t95013 t95014 t95017 w0 _ ?side1 ?side2 ?side3 A4.out).mono ?_); (case side1 => repeat (first | (with_reducible first | exact HI0.out | apply IsS144.alloc | apply IsS144.drewN | apply IsS144.drew | apply IsS144.set_1 | refine IsS144.far ?_ NB0_95001.out _) | exact HI0.out)); (case side2 => repeat (first | (with_reducible first | exact HB.out | apply below_alloc | apply pw_below_drewN | apply below_drew1 | refine below_set ?_ (IsS144.ge HI0.out) | refine below_set ?_ GE95001.out) | exact HB.out)); (case side3 => exact Kd.R_lower (Kd.R_tight rfl HO95009.out) HL.out); rintro e w9 ⟨v95015, rfl, ho0, hi, hb, hkp⟩; refine ⟨_, rfl, ?_⟩; have n0_ := Aside0.mk (hi); have n1_ := Aside0.mk (blk_kept (by (with_reducible repeat (first | refine blk_drewN ?_ _ | refine blk_drew ?_ | refine blk_alloc ?_ _)); exact BK95001.out) hkp (fun hs_ => Or.elim hs_ (fun hs_ => (fun e_ => (Kd.R_ne HO95009.out BK95001.out (by decide)) e_) hs_) (fun e_ => NB95001_0.out e_))); have n2_ := Aside0.mk (Kd.Q_mono (ok' := fun k_ => True) (qraise (d := (Kd.int .i64)) (b := w0.heap.size) (b' := w.heap.size) (fun _ _ _ _ h_ => h_) ho0 (fun k_ e_ => Or.elim (ho0.1 k_ e_) (fun hs_ => (fun e_ => Kd.R_base HO95009.out k_ e_.symm) hs_) (fun hn_ => Nat.le_trans (keep_size (w := w) (g := g) (row := none) (by repeat (first | (with_reducible first | exact HK.out | apply KeepBut.set_ | apply keep_drewN | apply keep_drew | apply keep_alloc | refine keep_far ?_ GW95001.out _) | exact HK.out))) hn_))) (fun k_ hk_ => trivial)); have n3_ := Aside0.mk (Kept.keepG (by repeat (first | (with_reducible first | exact HK.out | apply KeepBut.set_ | apply keep_drewN | apply keep_drew | apply keep_alloc | refine keep_far ?_ GW95001.out _) | exact HK.out)) hkp (fun k_ hs_ => Or.elim hs_ (fun hs_ => (fun e_ => .inr (Kd.R_base HO95009.out k_ e_.symm)) hs_) (fun e_ => .inl e_))); have n4_ := Aside0.mk (hb); clear HI0; clear BK95001; clear HK; clear HB; clear HO95009; have HI0 := n0_; have BK95001 := n1_; have HO95016 := n2_; have HK := n3_; have HB := n4_; clear n0_ n1_ n2_ n3_ n4_; (try clear hb); (try clear hkp); (try clear ho0); have hnb10 := NB95001_0.out; have hnc10 := NB0_95001.out; have hcz11_0 : w9.cell? ⟨gb95001, 0, none⟩ = some (.int .i64 0) := (blk_cell BK95001.out 0).trans rfl; have hcz11_1 : w9.cell? ⟨gb95001, 1, none⟩ = some (.int .i64 0) := (blk_cell BK95001.out 1).trans rfl; have hcz11_2 : w9.cell? ⟨gb95001, 2, none⟩ = some (.int .i64 0) := (blk_cell BK95001.out 2).trans rfl; have hcz11_3 : w9.cell? ⟨gb95001, 3, none⟩ = some (.slice none 0 0) := (blk_cell BK95001.out 3).trans rfl; have hfz11_0 := blk_frozen BK95001.out 0; have hfz11_1 := blk_frozen BK95001.out 1; have hfz11_2 := blk_frozen BK95001.out 2; have hfz11_3 := blk_frozen BK95001.out 3; obtain ⟨Ao12, co12, eo12, _⟩ := Kd.Q_slice HO95016.out; subst eo12))
  refine bodyPost_ret (results_cell_row rfl _ _ gb95001 27 #[.int .i64 t95011, .int .i64 t95012, .int .i64 t95013, .slice Ao12 t95014.length co12] (0, 0) _ rfl (by (with_reducible repeat (first | refine blk_drewN ?_ _ | refine blk_drew ?_ | refine blk_alloc ?_ _)); refine blk_put (cs := #[.int .i64 t95011, .int .i64 t95012, .int .i64 t95013, .slice none 0 0]) ?_ 3 _ rfl; (with_reducible repeat (first | refine blk_drewN ?_ _ | refine blk_drew ?_ | refine blk_alloc ?_ _)); refine blk_put (cs := #[.int .i64 t95011, .int .i64 t95012, .int .i64 0, .slice none 0 0]) ?_ 2 _ rfl; (with_reducible repeat (first | refine blk_drewN ?_ _ | refine blk_drew ?_ | refine blk_alloc ?_ _)); refine blk_put (cs := #[.int .i64 t95011, .int .i64 0, .int .i64 0, .slice none 0 0]) ?_ 1 _ rfl; (with_reducible repeat (first | refine blk_drewN ?_ _ | refine blk_drew ?_ | refine blk_alloc ?_ _)); refine blk_put (cs := #[.int .i64 0, .int .i64 0, .int .i64 0, .slice none 0 0]) ?_ 0 _ rfl; (with_reducible repeat (first | refine blk_drewN ?_ _ | refine blk_drew ?_ | refine blk_alloc ?_ _)); exact BK95001.out) Try.underlying27 rfl (by kernel_rfl)) rfl ?_
  exact ⟨_, by first | rfl | (simp [errW_none, errW_some] <;> rfl) | (simp [*, errW_none, errW_some] <;> rfl), by (with_reducible repeat (first | apply Kd.Q_alloc | apply Kd.Q_drewN | apply Kd.Q_drew)); exact Kd.Q_mono (Kd.Q_far (p := ⟨gb95001, 3, none⟩) (Kd.Q_far (p := ⟨gb95001, 2, none⟩) (Kd.Q_far (p := ⟨gb95001, 1, none⟩) (Kd.Q_far (p := ⟨gb95001, 0, none⟩) (Kd.Q_types HO95016.out BK95001.out (by decide)) (fun _ hk => hk.2) (.int .i64 t95011)) (fun _ hk => hk.2) (.int .i64 t95012)) (fun _ hk => hk.2) (.int .i64 t95013)) (fun _ hk => hk.2) (.slice Ao12 t95014.length co12)) (fun _ hk => trivial), by repeat (first | (with_reducible first | exact HI0.out | apply IsS144.alloc | apply IsS144.drewN | apply IsS144.drew | apply IsS144.set_1 | refine IsS144.far ?_ NB0_95001.out _) | exact HI0.out), by repeat (first | (with_reducible first | exact HB.out | apply below_alloc | apply pw_below_drewN | apply below_drew1 | refine below_set ?_ (IsS144.ge HI0.out) | refine below_set ?_ GE95001.out) | exact HB.out), by repeat (first | (with_reducible first | exact HK.out | apply KeepBut.set_ | apply keep_drewN | apply keep_drew | apply keep_alloc | refine keep_far ?_ GW95001.out _) | exact HK.out)⟩

end Go.Proofs.Ytnofkbbcbpjhfaa.Q
