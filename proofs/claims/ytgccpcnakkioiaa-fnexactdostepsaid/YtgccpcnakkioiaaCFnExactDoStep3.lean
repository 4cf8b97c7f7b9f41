/- A part of the proof that the statement FnExactDoStepSaid holds, under no condition of its own: The program's DoStep and the reference's return the same, and what is returned is held by nobody else: over lists of numbers alone. -/
import Derived.Test.YtgccpcnakkioiaaCFnExactDoStep1
import Derived.Test.YtgccpcnakkioiaaCFnExactDoStep2
import Derived.Shelf.Abstract
import Derived.Deep.WholeRow
import Derived.Deep.RegionWith
import Derived.OrdersHeld
import Derived.Deep.RegionHeld
import Derived.RegionTactic
namespace Go.Proofs.Ytgccpcnakkioiaa.Q
open Go.RowKit Go.Proofs.YtgccpcnakkioiaaW.PrintWords Go.Proofs.YtgccpcnakkioiaaW.PrintLast Go.Proofs.YtgccpcnakkioiaaW.PrintMore
attribute [local go_sem] max2_int min2_int max_two min_two max_three min_three max_four min_four
set_option linter.unusedVariables false
set_option linter.unusedSimpArgs false
def spec_doStep.j0 : Nat → Bool → Int → Int → Int → List Int → Int → Int → Int → Int → Int → List Int → Option (Int × Int × Int × List Int × Bool)
  | 0, _, _, _, _, _, _, _, _, _, _, _ => none
  | k + 1, x49, x42002000, x42002001, x42002002, x42002003, x42003000, x42003001, x42003002, x42003003, x42003004, x42003005 => if x49 = true then (some (0, 0, 0, ([] : List Int), false)) else ((spec_copyImage.f x42002000 x42002001 x42002002 x42002003).bind fun bt42031 => ((spec_FillImage.f k x42003003 x42003004 x42003005).bind fun bt42038 => ((spec_paste.f k bt42031.1 bt42031.2.1 bt42031.2.2.1 bt42031.2.2.2 x42003001 x42003002 bt42038.1 bt42038.2.1 bt42038.2.2.1 bt42038.2.2.2).bind fun t42044 => (some (bt42031.1, bt42031.2.1, bt42031.2.2.1, t42044, true)))))
def spec_doStep.f (k : Nat) (a0_0 : Int) (a0_1 : Int) (a0_2 : Int) (l0_3 : List Int) (a1_0 : Int) (a1_1 : Int) (a1_2 : Int) (a1_3 : Int) (a1_4 : Int) (l1_5 : List Int) : Option (Int × Int × Int × List Int × Bool) := if a1_0 = 0 then ((spec_mirror.f k a0_0 a0_1 a0_2 l0_3).bind fun bt42004 => (some (bt42004.1, bt42004.2.1, bt42004.2.2.1, bt42004.2.2.2, true))) else (if a1_0 = 1 then ((spec_turn.f k a0_0 a0_1 a0_2 l0_3).bind fun bt42010 => (some (bt42010.1, bt42010.2.1, bt42010.2.2.1, bt42010.2.2.2, true))) else (if a1_0 = 2 then ((spec_InvertImage.f k a0_0 a0_1 a0_2 l0_3).bind fun bt42016 => (some (bt42016.1, bt42016.2.1, bt42016.2.2.1, bt42016.2.2.2, true))) else (if a1_0 = 3 then ((spec_CropImage.f k a0_0 a0_1 a0_2 l0_3 a1_1 a1_2 a1_3 a1_4).bind fun bt42022 => (some (bt42022.1, bt42022.2.1, bt42022.2.2.1, bt42022.2.2.2.1, bt42022.2.2.2.2))) else (if a1_0 = 4 then ((spec_validBox.f a0_0 a0_1 a0_2 l0_3 a1_1 a1_2 a1_3 a1_4).bind fun t42029 => (if t42029 = true then (if (l1_5.length : Int) = a0_2 then ((spec_allIn.f k l1_5 0 255).bind fun t42030 => (spec_doStep.j0 k (!t42030) a0_0 a0_1 a0_2 l0_3 a1_0 a1_1 a1_2 a1_3 a1_4 l1_5)) else (spec_doStep.j0 k true a0_0 a0_1 a0_2 l0_3 a1_0 a1_1 a1_2 a1_3 a1_4 l1_5)) else (spec_doStep.j0 k true a0_0 a0_1 a0_2 l0_3 a1_0 a1_1 a1_2 a1_3 a1_4 l1_5))) else (some (0, 0, 0, ([] : List Int), false))))))
theorem spec_doStep.mono_l : ∀ k, (∀ y0 y1 y2 y3 y4 y5 y6 y7 y8 y9 y10, LeO (spec_doStep.j0 k y0 y1 y2 y3 y4 y5 y6 y7 y8 y9 y10) (spec_doStep.j0 (k + 1) y0 y1 y2 y3 y4 y5 y6 y7 y8 y9 y10))
  | 0 => fun _ _ _ _ _ _ _ _ _ _ _ r h => by simp [spec_doStep.j0] at h
  | k + 1 => by
    have ih0 := spec_doStep.mono_l k
    · intro y0 y1 y2 y3 y4 y5 y6 y7 y8 y9 y10
      unfold spec_doStep.j0
      repeat' first | (with_reducible exact spec_FillImage.mono _ _ _ _) | (with_reducible exact spec_paste.mono _ _ _ _ _ _ _ _ _ _ _) | (with_reducible exact LeO.refl _) | (with_reducible refine LeO.ite ?_ ?_) | (with_reducible refine LeO.bind ?_ (fun _ => ?_))
theorem spec_doStep.mono : ∀ a0 a1 a2 a3 a4 a5 a6 a7 a8 a9 k, LeO (spec_doStep.f k a0 a1 a2 a3 a4 a5 a6 a7 a8 a9) (spec_doStep.f (k + 1) a0 a1 a2 a3 a4 a5 a6 a7 a8 a9) := by
  intro a0 a1 a2 a3 a4 a5 a6 a7 a8 a9 k
  have ih0 := spec_doStep.mono_l k
  unfold spec_doStep.f
  repeat' first | (with_reducible exact ih0 _ _ _ _ _ _ _ _ _ _ _) | (with_reducible exact spec_CropImage.mono _ _ _ _ _ _ _ _ _) | (with_reducible exact spec_InvertImage.mono _ _ _ _ _) | (with_reducible exact spec_allIn.mono _ _ _ _) | (with_reducible exact spec_mirror.mono _ _ _ _ _) | (with_reducible exact spec_turn.mono _ _ _ _ _) | (with_reducible exact LeO.refl _) | (with_reducible refine LeO.ite ?_ ?_) | (with_reducible refine LeO.bind ?_ (fun _ => ?_))
def spec_doStep.T14 : Bool × List (List Nat × List Nat) := (true, [([], []), ([], []), ([1], [1]), ([2], [2]), ([], []), ([4], [4]), ([5], [5]), ([], []), ([7], [7]), ([8], [8]), ([], []), ([10], [10]), ([11], [11]), ([], []), ([13], [13]), ([9, 12, 14], [9, 12, 14]), ([0, 3, 6, 15, 15], [0, 3, 6, 15])])
def spec_doStep.B14 : List Nat := [0, 0, 2, 6, 0, 16, 48, 0, 128, 384, 0, 1024, 3072, 0, 8192, 32640, 65535]
theorem spec_doStep.tab14 : rtab .any (opsOf Try.f41 14) = spec_doStep.T14 := by kernel_rfl
theorem spec_doStep.bits14 : waitsOk spec_doStep.T14.2 spec_doStep.B14 = true := by kernel_rfl
set_option maxHeartbeats 8000000 in
set_option maxRecDepth 100000 in
theorem spec_doStep.calls (k : Nat) (a0_0 : Int) (a0_1 : Int) (a0_2 : Int) (A0_3 : Option Addr) (c0_3 : Nat) (l0_3 : List Int) (a1_0 : Int) (a1_1 : Int) (a1_2 : Int) (a1_3 : Int) (a1_4 : Int) (A1_5 : Option Addr) (c1_5 : Nat) (l1_5 : List Int) (r1 : Int) (r2 : Int) (r3 : Int) (r4 : List Int) (r5 : Bool) (w : World) (hr0_3 : Kd.C (Kd.int .i64) w A0_3 l0_3.length l0_3) (hc0_3 : l0_3.length ≤ c0_3) (hr1_5 : Kd.C (Kd.int .i64) w A1_5 l1_5.length l1_5) (hc1_5 : l1_5.length ≤ c1_5) (h : spec_doStep.f k a0_0 a0_1 a0_2 l0_3 a1_0 a1_1 a1_2 a1_3 a1_4 l1_5 = some (r1, r2, r3, r4, r5)) :
    Calls Try.prog 41 #[.agg #[.int .i64 a0_0, .int .i64 a0_1, .int .i64 a0_2, .slice A0_3 l0_3.length c0_3], .agg #[.int .i64 a1_0, .int .i64 a1_1, .int .i64 a1_2, .int .i64 a1_3, .int .i64 a1_4, .slice A1_5 l1_5.length c1_5]] w fun e w' => ∃ v3_ : Value, e = .returned (.tuple #[.agg #[.int .i64 r1, .int .i64 r2, .int .i64 r3, v3_], .bool r5]) ∧ Kd.R (Kd.int .i64) 3 w' w.heap.size (fun _ => True) v3_ r4 ∧ Below w.heap.size w w' := by
  have hu28 := Try.underlying28
  have hu43 := Try.underlying43
  have hu41 := Try.underlying41
  have HR0_3 := Aside0.mk hr0_3
  have HC0_3 := Aside0.mk hc0_3
  clear hr0_3 hc0_3
  have HR1_5 := Aside0.mk hr1_5
  have HC1_5 := Aside0.mk hc1_5
  clear hr1_5 hc1_5
  have HB := Aside0.mk (Below.refl w.heap.size w)
  have H : (if a1_0 = 0 then ((spec_mirror.f k a0_0 a0_1 a0_2 l0_3).bind fun bt42004 => (some (bt42004.1, bt42004.2.1, bt42004.2.2.1, bt42004.2.2.2, true))) else (if a1_0 = 1 then ((spec_turn.f k a0_0 a0_1 a0_2 l0_3).bind fun bt42010 => (some (bt42010.1, bt42010.2.1, bt42010.2.2.1, bt42010.2.2.2, true))) else (if a1_0 = 2 then ((spec_InvertImage.f k a0_0 a0_1 a0_2 l0_3).bind fun bt42016 => (some (bt42016.1, bt42016.2.1, bt42016.2.2.1, bt42016.2.2.2, true))) else (if a1_0 = 3 then ((spec_CropImage.f k a0_0 a0_1 a0_2 l0_3 a1_1 a1_2 a1_3 a1_4).bind fun bt42022 => (some (bt42022.1, bt42022.2.1, bt42022.2.2.1, bt42022.2.2.2.1, bt42022.2.2.2.2))) else (if a1_0 = 4 then ((spec_validBox.f a0_0 a0_1 a0_2 l0_3 a1_1 a1_2 a1_3 a1_4).bind fun t42029 => (if t42029 = true then (if (l1_5.length : Int) = a0_2 then ((spec_allIn.f k l1_5 0 255).bind fun t42030 => (spec_doStep.j0 k (!t42030) a0_0 a0_1 a0_2 l0_3 a1_0 a1_1 a1_2 a1_3 a1_4 l1_5)) else (spec_doStep.j0 k true a0_0 a0_1 a0_2 l0_3 a1_0 a1_1 a1_2 a1_3 a1_4 l1_5)) else (spec_doStep.j0 k true a0_0 a0_1 a0_2 l0_3 a1_0 a1_1 a1_2 a1_3 a1_4 l1_5))) else (some (0, 0, 0, ([] : List Int), false))))))) = some (r1, r2, r3, r4, r5) := h
  clear h
  by_cases c3 : a1_0 = 0
  · rw [if_pos c3] at H
    have c3b0 : (a1_0 == 0) = true := beq_iff_eq.mpr c3
    have c3b1 : (a1_0 != 0) = false := bne_eq_false_iff_eq.mpr c3
    clear c3
    replace H := Option.bind_eq_some_iff.mp H
    obtain ⟨⟨t42004, t42005, t42006, t42007⟩, A40, H⟩ := H
    replace H : (some (t42004, t42005, t42006, t42007, true)) = some (r1, r2, r3, r4, r5) := H
    have A4 := Aside0.mk A40
    clear A40
    simp only [Option.some.injEq, Prod.mk.injEq] at H
    obtain ⟨rfl, rfl, rfl, rfl, rfl⟩ := H
    go_enter Try.func41, Try.ntmps41
    go_wp2_with (first | ((with_reducible refine gate_dst (N := 2) rfl ?_); (try (refine gate_guard (by rfl) ?_; dsimp only)); refine box_event ?hg (N := 2) ?hd (cs := #[.int .i64 a0_0, .int .i64 a0_1, .int .i64 a0_2, .slice A0_3 l0_3.length c0_3]) (t := 28) ?hr ?_; (case hd => rfl); (case hg => rfl); (case hr => (go_simp; done)); intro gb42001 hg w5 hbox hb; have n0_ := Aside0.mk (below_step HB.out hb); have n1_ := Aside0.mk (hbox); have n2_ := Aside0.mk ((by rw [hg]; exact (below_size HB.out) : w.heap.size ≤ gb42001)); have n3_ := Aside0.mk ((by rw [hg]; exact (below_size HB.out) : w.heap.size ≤ gb42001)); clear HB; have HB := n0_; have BK42001 := n1_; have GW42001 := n2_; have GE42001 := n3_; clear n0_ n1_ n2_ n3_; clear hb hbox hg) | ((with_reducible refine gate_dst (N := 3) rfl ?_); (try (refine gate_guard (by rfl) ?_; dsimp only)); refine box_event ?hg (N := 3) ?hd (cs := #[.int .i64 a1_0, .int .i64 a1_1, .int .i64 a1_2, .int .i64 a1_3, .int .i64 a1_4, .slice A1_5 l1_5.length c1_5]) (t := 43) ?hr ?_; (case hd => rfl); (case hg => rfl); (case hr => (go_simp; done)); intro gb42002 hg w6 hbox hb; have n0_ := Aside0.mk (blk_below BK42001.out hb); have n1_ := Aside0.mk (below_step HB.out hb); have n2_ := Aside0.mk (hbox); have n3_ := Aside0.mk ((by rw [hg]; exact (below_size HB.out) : w.heap.size ≤ gb42002)); have n4_ := Aside0.mk ((by rw [hg]; exact (below_size HB.out) : w.heap.size ≤ gb42002)); have n5_ := Aside0.mk ((by rw [hg]; exact Nat.ne_of_lt (blk_lt BK42001.out) : gb42001 ≠ gb42002)); have n6_ := Aside0.mk ((by rw [hg]; exact Nat.ne_of_gt (blk_lt BK42001.out) : gb42002 ≠ gb42001)); clear BK42001; clear HB; have BK42001 := n0_; have HB := n1_; have BK42002 := n2_; have GW42002 := n3_; have GE42002 := n4_; have NB42001_42002 := n5_; have NB42002_42001 := n6_; clear n0_ n1_ n2_ n3_ n4_ n5_ n6_; clear hb hbox hg) | ((with_reducible refine gate_dst (N := 4) rfl ?_); (try (refine gate_guard (by rfl) ?_; dsimp only)); refine box_event ?hg (N := 4) ?hd (cs := #[.int .i64 0, .int .i64 0, .int .i64 0, .slice none 0 0]) (t := 28) ?hr ?_; (case hd => rfl); (case hg => rfl); (case hr => (go_simp; done)); intro gb42003 hg w7 hbox hb; have n0_ := Aside0.mk (blk_below BK42001.out hb); have n1_ := Aside0.mk (blk_below BK42002.out hb); have n2_ := Aside0.mk (below_step HB.out hb); have n3_ := Aside0.mk (hbox); have n4_ := Aside0.mk ((by rw [hg]; exact (below_size HB.out) : w.heap.size ≤ gb42003)); have n5_ := Aside0.mk ((by rw [hg]; exact (below_size HB.out) : w.heap.size ≤ gb42003)); have n6_ := Aside0.mk ((by rw [hg]; exact Nat.ne_of_lt (blk_lt BK42001.out) : gb42001 ≠ gb42003)); have n7_ := Aside0.mk ((by rw [hg]; exact Nat.ne_of_gt (blk_lt BK42001.out) : gb42003 ≠ gb42001)); have n8_ := Aside0.mk ((by rw [hg]; exact Nat.ne_of_lt (blk_lt BK42002.out) : gb42002 ≠ gb42003)); have n9_ := Aside0.mk ((by rw [hg]; exact Nat.ne_of_gt (blk_lt BK42002.out) : gb42003 ≠ gb42002)); clear BK42001; clear BK42002; clear HB; have BK42001 := n0_; have BK42002 := n1_; have HB := n2_; have BK42003 := n3_; have GW42003 := n4_; have GE42003 := n5_; have NB42001_42003 := n6_; have NB42003_42001 := n7_; have NB42002_42003 := n8_; have NB42003_42002 := n9_; clear n0_ n1_ n2_ n3_ n4_ n5_ n6_ n7_ n8_ n9_; clear hb hbox hg; have hnb8 := NB42002_42001.out; have hnc8 := NB42001_42002.out; have hnb9 := NB42002_42003.out; have hnc9 := NB42003_42002.out; have hcz10_0 : w7.cell? ⟨gb42002, 0, none⟩ = some (.int .i64 a1_0) := (blk_cell BK42002.out 0).trans rfl; have hcz10_1 : w7.cell? ⟨gb42002, 1, none⟩ = some (.int .i64 a1_1) := (blk_cell BK42002.out 1).trans rfl; have hcz10_2 : w7.cell? ⟨gb42002, 2, none⟩ = some (.int .i64 a1_2) := (blk_cell BK42002.out 2).trans rfl; have hcz10_3 : w7.cell? ⟨gb42002, 3, none⟩ = some (.int .i64 a1_3) := (blk_cell BK42002.out 3).trans rfl; have hcz10_4 : w7.cell? ⟨gb42002, 4, none⟩ = some (.int .i64 a1_4) := (blk_cell BK42002.out 4).trans rfl; have hcz10_5 : w7.cell? ⟨gb42002, 5, none⟩ = some (.slice A1_5 l1_5.length c1_5) := (blk_cell BK42002.out 5).trans rfl; have hfz10_0 := blk_frozen BK42002.out 0; have hfz10_1 := blk_frozen BK42002.out 1; have hfz10_2 := blk_frozen BK42002.out 2; have hfz10_3 := blk_frozen BK42002.out 3; have hfz10_4 := blk_frozen BK42002.out 4; have hfz10_5 := blk_frozen BK42002.out 5; have hnb11 := NB42001_42003.out; have hnc11 := NB42003_42001.out; have hcz12_0 : w7.cell? ⟨gb42001, 0, none⟩ = some (.int .i64 a0_0) := (blk_cell BK42001.out 0).trans rfl; have hcz12_1 : w7.cell? ⟨gb42001, 1, none⟩ = some (.int .i64 a0_1) := (blk_cell BK42001.out 1).trans rfl; have hcz12_2 : w7.cell? ⟨gb42001, 2, none⟩ = some (.int .i64 a0_2) := (blk_cell BK42001.out 2).trans rfl; have hcz12_3 : w7.cell? ⟨gb42001, 3, none⟩ = some (.slice A0_3 l0_3.length c0_3) := (blk_cell BK42001.out 3).trans rfl; have hfz12_0 := blk_frozen BK42001.out 0; have hfz12_1 := blk_frozen BK42001.out 1; have hfz12_2 := blk_frozen BK42001.out 2; have hfz12_3 := blk_frozen BK42001.out 3) | ((with_reducible refine gate_callee (f := 72) rfl ?_); refine goesL_ (some 12) rfl rfl Try.func72 (by kernel_rfl) rfl #[.agg #[.int .i64 a0_0, .int .i64 a0_1, .int .i64 a0_2, .slice A0_3 l0_3.length c0_3]] rfl (by (try simp only [List.map_toArray, List.map_cons, List.map_nil]); rfl) ?_; (with_reducible refine (spec_mirror.calls k a0_0 a0_1 a0_2 _ _ l0_3 t42004 t42005 t42006 t42007 _ ?side1 ?side2 A4.out).mono ?_); (case side1 => repeat (exact (Kd.C_below HR0_3.out HB.out))); (case side2 => exact HC0_3.out); rintro e w13 ⟨v42008, rfl, ho0, hb⟩; refine ⟨_, rfl, ?_⟩; have n0_ := Aside0.mk (Kd.R_lower ho0 (below_size HB.out)); have n1_ := Aside0.mk (blk_below BK42001.out hb); have n2_ := Aside0.mk (blk_below BK42002.out hb); have n3_ := Aside0.mk (blk_below BK42003.out hb); have n4_ := Aside0.mk (below_step HB.out hb); clear BK42001; clear BK42002; clear BK42003; clear HB; have HO42009 := n0_; have BK42001 := n1_; have BK42002 := n2_; have BK42003 := n3_; have HB := n4_; clear n0_ n1_ n2_ n3_ n4_; (try clear hb); (try clear ho0); have hcz14_0 : w13.cell? ⟨gb42003, 0, none⟩ = some (.int .i64 0) := (blk_cell BK42003.out 0).trans rfl; have hcz14_1 : w13.cell? ⟨gb42003, 1, none⟩ = some (.int .i64 0) := (blk_cell BK42003.out 1).trans rfl; have hcz14_2 : w13.cell? ⟨gb42003, 2, none⟩ = some (.int .i64 0) := (blk_cell BK42003.out 2).trans rfl; have hcz14_3 : w13.cell? ⟨gb42003, 3, none⟩ = some (.slice none 0 0) := (blk_cell BK42003.out 3).trans rfl; have hfz14_0 := blk_frozen BK42003.out 0; have hfz14_1 := blk_frozen BK42003.out 1; have hfz14_2 := blk_frozen BK42003.out 2; have hfz14_3 := blk_frozen BK42003.out 3; obtain ⟨Ao15, co15, eo15⟩ := Kd.R_slice HO42009.out; subst eo15))
    refine bodyPost_ret (results_ct rfl _ _ gb42003 28 #[.int .i64 t42004, .int .i64 t42005, .int .i64 t42006, .slice Ao15 t42007.length co15] (0, 0) _ rfl (by refine blk_put (cs := #[.int .i64 t42004, .int .i64 t42005, .int .i64 t42006, .slice none 0 0]) ?_ 3 _ rfl; (with_reducible repeat (first | refine blk_drewN ?_ _ | refine blk_drew ?_ | refine blk_alloc ?_ _)); refine blk_put (cs := #[.int .i64 t42004, .int .i64 t42005, .int .i64 0, .slice none 0 0]) ?_ 2 _ rfl; (with_reducible repeat (first | refine blk_drewN ?_ _ | refine blk_drew ?_ | refine blk_alloc ?_ _)); refine blk_put (cs := #[.int .i64 t42004, .int .i64 0, .int .i64 0, .slice none 0 0]) ?_ 1 _ rfl; (with_reducible repeat (first | refine blk_drewN ?_ _ | refine blk_drew ?_ | refine blk_alloc ?_ _)); refine blk_put (cs := #[.int .i64 0, .int .i64 0, .int .i64 0, .slice none 0 0]) ?_ 0 _ rfl; (with_reducible repeat (first | refine blk_drewN ?_ _ | refine blk_drew ?_ | refine blk_alloc ?_ _)); exact BK42003.out) Try.underlying28 rfl (by kernel_rfl)) rfl ?_
    exact ⟨_, by rfl, by (with_reducible repeat (first | apply Kd.R_alloc | apply Kd.R_drewN | apply Kd.R_drew)); exact Kd.R_mono (Kd.R_far (p := ⟨gb42003, 3, none⟩) (Kd.R_far (p := ⟨gb42003, 2, none⟩) (Kd.R_far (p := ⟨gb42003, 1, none⟩) (Kd.R_far (p := ⟨gb42003, 0, none⟩) (Kd.R_types HO42009.out BK42003.out (by decide)) (fun _ hk => hk.2) (.int .i64 t42004)) (fun _ hk => hk.2) (.int .i64 t42005)) (fun _ hk => hk.2) (.int .i64 t42006)) (fun _ hk => hk.2) (.slice Ao15 t42007.length co15)) (fun _ hk => trivial), by repeat (with_reducible first | exact HB.out | refine below_set ?_ GE42003.out)⟩
  · rw [if_neg c3] at H
    have c3b0 : (a1_0 == 0) = false := beq_eq_false_iff_ne.mpr c3
    have c3b1 : (a1_0 != 0) = true := bne_iff_ne.mpr c3
    by_cases c16 : a1_0 = 1
    · rw [if_pos c16] at H
      have c16b0 : (a1_0 == 1) = true := beq_iff_eq.mpr c16
      have c16b1 : (a1_0 != 1) = false := bne_eq_false_iff_eq.mpr c16
      clear c16
      replace H := Option.bind_eq_some_iff.mp H
      obtain ⟨⟨t42010, t42011, t42012, t42013⟩, A170, H⟩ := H
      replace H : (some (t42010, t42011, t42012, t42013, true)) = some (r1, r2, r3, r4, r5) := H
      have A17 := Aside0.mk A170
      clear A170
      simp only [Option.some.injEq, Prod.mk.injEq] at H
      obtain ⟨rfl, rfl, rfl, rfl, rfl⟩ := H
      go_enter Try.func41, Try.ntmps41
      go_wp2_with (first | ((with_reducible refine gate_dst (N := 2) rfl ?_); (try (refine gate_guard (by rfl) ?_; dsimp only)); refine box_event ?hg (N := 2) ?hd (cs := #[.int .i64 a0_0, .int .i64 a0_1, .int .i64 a0_2, .slice A0_3 l0_3.length c0_3]) (t := 28) ?hr ?_; (case hd => rfl); (case hg => rfl); (case hr => (go_simp; done)); intro gb42001 hg w18 hbox hb; have n0_ := Aside0.mk (below_step HB.out hb); have n1_ := Aside0.mk (hbox); have n2_ := Aside0.mk ((by rw [hg]; exact (below_size HB.out) : w.heap.size ≤ gb42001)); have n3_ := Aside0.mk ((by rw [hg]; exact (below_size HB.out) : w.heap.size ≤ gb42001)); clear HB; have HB := n0_; have BK42001 := n1_; have GW42001 := n2_; have GE42001 := n3_; clear n0_ n1_ n2_ n3_; clear hb hbox hg) | ((with_reducible refine gate_dst (N := 3) rfl ?_); (try (refine gate_guard (by rfl) ?_; dsimp only)); refine box_event ?hg (N := 3) ?hd (cs := #[.int .i64 a1_0, .int .i64 a1_1, .int .i64 a1_2, .int .i64 a1_3, .int .i64 a1_4, .slice A1_5 l1_5.length c1_5]) (t := 43) ?hr ?_; (case hd => rfl); (case hg => rfl); (case hr => (go_simp; done)); intro gb42002 hg w19 hbox hb; have n0_ := Aside0.mk (blk_below BK42001.out hb); have n1_ := Aside0.mk (below_step HB.out hb); have n2_ := Aside0.mk (hbox); have n3_ := Aside0.mk ((by rw [hg]; exact (below_size HB.out) : w.heap.size ≤ gb42002)); have n4_ := Aside0.mk ((by rw [hg]; exact (below_size HB.out) : w.heap.size ≤ gb42002)); have n5_ := Aside0.mk ((by rw [hg]; exact Nat.ne_of_lt (blk_lt BK42001.out) : gb42001 ≠ gb42002)); have n6_ := Aside0.mk ((by rw [hg]; exact Nat.ne_of_gt (blk_lt BK42001.out) : gb42002 ≠ gb42001)); clear BK42001; clear HB; have BK42001 := n0_; have HB := n1_; have BK42002 := n2_; have GW42002 := n3_; have GE42002 := n4_; have NB42001_42002 := n5_; have NB42002_42001 := n6_; clear n0_ n1_ n2_ n3_ n4_ n5_ n6_; clear hb hbox hg) | ((with_reducible refine gate_dst (N := 4) rfl ?_); (try (refine gate_guard (by rfl) ?_; dsimp only)); refine box_event ?hg (N := 4) ?hd (cs := #[.int .i64 0, .int .i64 0, .int .i64 0, .slice none 0 0]) (t := 28) ?hr ?_; (case hd => rfl); (case hg => rfl); (case hr => (go_simp; done)); intro gb42003 hg w20 hbox hb; have n0_ := Aside0.mk (blk_below BK42001.out hb); have n1_ := Aside0.mk (blk_below BK42002.out hb); have n2_ := Aside0.mk (below_step HB.out hb); have n3_ := Aside0.mk (hbox); have n4_ := Aside0.mk ((by rw [hg]; exact (below_size HB.out) : w.heap.size ≤ gb42003)); have n5_ := Aside0.mk ((by rw [hg]; exact (below_size HB.out) : w.heap.size ≤ gb42003)); have n6_ := Aside0.mk ((by rw [hg]; exact Nat.ne_of_lt (blk_lt BK42001.out) : gb42001 ≠ gb42003)); have n7_ := Aside0.mk ((by rw [hg]; exact Nat.ne_of_gt (blk_lt BK42001.out) : gb42003 ≠ gb42001)); have n8_ := Aside0.mk ((by rw [hg]; exact Nat.ne_of_lt (blk_lt BK42002.out) : gb42002 ≠ gb42003)); have n9_ := Aside0.mk ((by rw [hg]; exact Nat.ne_of_gt (blk_lt BK42002.out) : gb42003 ≠ gb42002)); clear BK42001; clear BK42002; clear HB; have BK42001 := n0_; have BK42002 := n1_; have HB := n2_; have BK42003 := n3_; have GW42003 := n4_; have GE42003 := n5_; have NB42001_42003 := n6_; have NB42003_42001 := n7_; have NB42002_42003 := n8_; have NB42003_42002 := n9_; clear n0_ n1_ n2_ n3_ n4_ n5_ n6_ n7_ n8_ n9_; clear hb hbox hg; have hnb21 := NB42002_42001.out; have hnc21 := NB42001_42002.out; have hnb22 := NB42002_42003.out; have hnc22 := NB42003_42002.out; have hcz23_0 : w20.cell? ⟨gb42002, 0, none⟩ = some (.int .i64 a1_0) := (blk_cell BK42002.out 0).trans rfl; have hcz23_1 : w20.cell? ⟨gb42002, 1, none⟩ = some (.int .i64 a1_1) := (blk_cell BK42002.out 1).trans rfl; have hcz23_2 : w20.cell? ⟨gb42002, 2, none⟩ = some (.int .i64 a1_2) := (blk_cell BK42002.out 2).trans rfl; have hcz23_3 : w20.cell? ⟨gb42002, 3, none⟩ = some (.int .i64 a1_3) := (blk_cell BK42002.out 3).trans rfl; have hcz23_4 : w20.cell? ⟨gb42002, 4, none⟩ = some (.int .i64 a1_4) := (blk_cell BK42002.out 4).trans rfl; have hcz23_5 : w20.cell? ⟨gb42002, 5, none⟩ = some (.slice A1_5 l1_5.length c1_5) := (blk_cell BK42002.out 5).trans rfl; have hfz23_0 := blk_frozen BK42002.out 0; have hfz23_1 := blk_frozen BK42002.out 1; have hfz23_2 := blk_frozen BK42002.out 2; have hfz23_3 := blk_frozen BK42002.out 3; have hfz23_4 := blk_frozen BK42002.out 4; have hfz23_5 := blk_frozen BK42002.out 5; have hnb24 := NB42001_42003.out; have hnc24 := NB42003_42001.out; have hcz25_0 : w20.cell? ⟨gb42001, 0, none⟩ = some (.int .i64 a0_0) := (blk_cell BK42001.out 0).trans rfl; have hcz25_1 : w20.cell? ⟨gb42001, 1, none⟩ = some (.int .i64 a0_1) := (blk_cell BK42001.out 1).trans rfl; have hcz25_2 : w20.cell? ⟨gb42001, 2, none⟩ = some (.int .i64 a0_2) := (blk_cell BK42001.out 2).trans rfl; have hcz25_3 : w20.cell? ⟨gb42001, 3, none⟩ = some (.slice A0_3 l0_3.length c0_3) := (blk_cell BK42001.out 3).trans rfl; have hfz25_0 := blk_frozen BK42001.out 0; have hfz25_1 := blk_frozen BK42001.out 1; have hfz25_2 := blk_frozen BK42001.out 2; have hfz25_3 := blk_frozen BK42001.out 3) | ((with_reducible refine gate_callee (f := 73) rfl ?_); refine goesL_ (some 16) rfl rfl Try.func73 (by kernel_rfl) rfl #[.agg #[.int .i64 a0_0, .int .i64 a0_1, .int .i64 a0_2, .slice A0_3 l0_3.length c0_3]] rfl (by (try simp only [List.map_toArray, List.map_cons, List.map_nil]); rfl) ?_; (with_reducible refine (spec_turn.calls k a0_0 a0_1 a0_2 _ _ l0_3 t42010 t42011 t42012 t42013 _ ?side1 ?side2 A17.out).mono ?_); (case side1 => repeat (exact (Kd.C_below HR0_3.out HB.out))); (case side2 => exact HC0_3.out); rintro e w26 ⟨v42014, rfl, ho0, hb⟩; refine ⟨_, rfl, ?_⟩; have n0_ := Aside0.mk (Kd.R_lower ho0 (below_size HB.out)); have n1_ := Aside0.mk (blk_below BK42001.out hb); have n2_ := Aside0.mk (blk_below BK42002.out hb); have n3_ := Aside0.mk (blk_below BK42003.out hb); have n4_ := Aside0.mk (below_step HB.out hb); clear BK42001; clear BK42002; clear BK42003; clear HB; have HO42015 := n0_; have BK42001 := n1_; have BK42002 := n2_; have BK42003 := n3_; have HB := n4_; clear n0_ n1_ n2_ n3_ n4_; (try clear hb); (try clear ho0); have hcz27_0 : w26.cell? ⟨gb42003, 0, none⟩ = some (.int .i64 0) := (blk_cell BK42003.out 0).trans rfl; have hcz27_1 : w26.cell? ⟨gb42003, 1, none⟩ = some (.int .i64 0) := (blk_cell BK42003.out 1).trans rfl; have hcz27_2 : w26.cell? ⟨gb42003, 2, none⟩ = some (.int .i64 0) := (blk_cell BK42003.out 2).trans rfl; have hcz27_3 : w26.cell? ⟨gb42003, 3, none⟩ = some (.slice none 0 0) := (blk_cell BK42003.out 3).trans rfl; have hfz27_0 := blk_frozen BK42003.out 0; have hfz27_1 := blk_frozen BK42003.out 1; have hfz27_2 := blk_frozen BK42003.out 2; have hfz27_3 := blk_frozen BK42003.out 3; obtain ⟨Ao28, co28, eo28⟩ := Kd.R_slice HO42015.out; subst eo28))
      refine bodyPost_ret (results_ct rfl _ _ gb42003 28 #[.int .i64 t42010, .int .i64 t42011, .int .i64 t42012, .slice Ao28 t42013.length co28] (0, 0) _ rfl (by refine blk_put (cs := #[.int .i64 t42010, .int .i64 t42011, .int .i64 t42012, .slice none 0 0]) ?_ 3 _ rfl; (with_reducible repeat (first | refine blk_drewN ?_ _ | refine blk_drew ?_ | refine blk_alloc ?_ _)); refine blk_put (cs := #[.int .i64 t42010, .int .i64 t42011, .int .i64 0, .slice none 0 0]) ?_ 2 _ rfl; (with_reducible repeat (first | refine blk_drewN ?_ _ | refine blk_drew ?_ | refine blk_alloc ?_ _)); refine blk_put (cs := #[.int .i64 t42010, .int .i64 0, .int .i64 0, .slice none 0 0]) ?_ 1 _ rfl; (with_reducible repeat (first | refine blk_drewN ?_ _ | refine blk_drew ?_ | refine blk_alloc ?_ _)); refine blk_put (cs := #[.int .i64 0, .int .i64 0, .int .i64 0, .slice none 0 0]) ?_ 0 _ rfl; (with_reducible repeat (first | refine blk_drewN ?_ _ | refine blk_drew ?_ | refine blk_alloc ?_ _)); exact BK42003.out) Try.underlying28 rfl (by kernel_rfl)) rfl ?_
      exact ⟨_, by rfl, by (with_reducible repeat (first | apply Kd.R_alloc | apply Kd.R_drewN | apply Kd.R_drew)); exact Kd.R_mono (Kd.R_far (p := ⟨gb42003, 3, none⟩) (Kd.R_far (p := ⟨gb42003, 2, none⟩) (Kd.R_far (p := ⟨gb42003, 1, none⟩) (Kd.R_far (p := ⟨gb42003, 0, none⟩) (Kd.R_types HO42015.out BK42003.out (by decide)) (fun _ hk => hk.2) (.int .i64 t42010)) (fun _ hk => hk.2) (.int .i64 t42011)) (fun _ hk => hk.2) (.int .i64 t42012)) (fun _ hk => hk.2) (.slice Ao28 t42013.length co28)) (fun _ hk => trivial), by repeat (with_reducible first | exact HB.out | refine below_set ?_ GE42003.out)⟩
    · rw [if_neg c16] at H
      have c16b0 : (a1_0 == 1) = false := beq_eq_false_iff_ne.mpr c16
      have c16b1 : (a1_0 != 1) = true := bne_iff_ne.mpr c16
      by_cases c29 : a1_0 = 2
      · rw [if_pos c29] at H
        have c29b0 : (a1_0 == 2) = true := beq_iff_eq.mpr c29
        have c29b1 : (a1_0 != 2) = false := bne_eq_false_iff_eq.mpr c29
        clear c29
        replace H := Option.bind_eq_some_iff.mp H
        obtain ⟨⟨t42016, t42017, t42018, t42019⟩, A300, H⟩ := H
        replace H : (some (t42016, t42017, t42018, t42019, true)) = some (r1, r2, r3, r4, r5) := H
        have A30 := Aside0.mk A300
        clear A300
        simp only [Option.some.injEq, Prod.mk.injEq] at H
        obtain ⟨rfl, rfl, rfl, rfl, rfl⟩ := H
        go_enter Try.func41, Try.ntmps41
        go_wp2_with (first | ((with_reducible refine gate_dst (N := 2) rfl ?_); (try (refine gate_guard (by rfl) ?_; dsimp only)); refine box_event ?hg (N := 2) ?hd (cs := #[.int .i64 a0_0, .int .i64 a0_1, .int .i64 a0_2, .slice A0_3 l0_3.length c0_3]) (t := 28) ?hr ?_; (case hd => rfl); (case hg => rfl); (case hr => (go_simp; done)); intro gb42001 hg w31 hbox hb; have n0_ := Aside0.mk (below_step HB.out hb); have n1_ := Aside0.mk (hbox); have n2_ := Aside0.mk ((by rw [hg]; exact (below_size HB.out) : w.heap.size ≤ gb42001)); have n3_ := Aside0.mk ((by rw [hg]; exact (below_size HB.out) : w.heap.size ≤ gb42001)); clear HB; have HB := n0_; have BK42001 := n1_; have GW42001 := n2_; have GE42001 := n3_; clear n0_ n1_ n2_ n3_; clear hb hbox hg) | ((with_reducible refine gate_dst (N := 3) rfl ?_); (try (refine gate_guard (by rfl) ?_; dsimp only)); refine box_event ?hg (N := 3) ?hd (cs := #[.int .i64 a1_0, .int .i64 a1_1, .int .i64 a1_2, .int .i64 a1_3, .int .i64 a1_4, .slice A1_5 l1_5.length c1_5]) (t := 43) ?hr ?_; (case hd => rfl); (case hg => rfl); (case hr => (go_simp; done)); intro gb42002 hg w32 hbox hb; have n0_ := Aside0.mk (blk_below BK42001.out hb); have n1_ := Aside0.mk (below_step HB.out hb); have n2_ := Aside0.mk (hbox); have n3_ := Aside0.mk ((by rw [hg]; exact (below_size HB.out) : w.heap.size ≤ gb42002)); have n4_ := Aside0.mk ((by rw [hg]; exact (below_size HB.out) : w.heap.size ≤ gb42002)); have n5_ := Aside0.mk ((by rw [hg]; exact Nat.ne_of_lt (blk_lt BK42001.out) : gb42001 ≠ gb42002)); have n6_ := Aside0.mk ((by rw [hg]; exact Nat.ne_of_gt (blk_lt BK42001.out) : gb42002 ≠ gb42001)); clear BK42001; clear HB; have BK42001 := n0_; have HB := n1_; have BK42002 := n2_; have GW42002 := n3_; have GE42002 := n4_; have NB42001_42002 := n5_; have NB42002_42001 := n6_; clear n0_ n1_ n2_ n3_ n4_ n5_ n6_; clear hb hbox hg) | ((with_reducible refine gate_dst (N := 4) rfl ?_); (try (refine gate_guard (by rfl) ?_; dsimp only)); refine box_event ?hg (N := 4) ?hd (cs := #[.int .i64 0, .int .i64 0, .int .i64 0, .slice none 0 0]) (t := 28) ?hr ?_; (case hd => rfl); (case hg => rfl); (case hr => (go_simp; done)); intro gb42003 hg w33 hbox hb; have n0_ := Aside0.mk (blk_below BK42001.out hb); have n1_ := Aside0.mk (blk_below BK42002.out hb); have n2_ := Aside0.mk (below_step HB.out hb); have n3_ := Aside0.mk (hbox); have n4_ := Aside0.mk ((by rw [hg]; exact (below_size HB.out) : w.heap.size ≤ gb42003)); have n5_ := Aside0.mk ((by rw [hg]; exact (below_size HB.out) : w.heap.size ≤ gb42003)); have n6_ := Aside0.mk ((by rw [hg]; exact Nat.ne_of_lt (blk_lt BK42001.out) : gb42001 ≠ gb42003)); have n7_ := Aside0.mk ((by rw [hg]; exact Nat.ne_of_gt (blk_lt BK42001.out) : gb42003 ≠ gb42001)); have n8_ := Aside0.mk ((by rw [hg]; exact Nat.ne_of_lt (blk_lt BK42002.out) : gb42002 ≠ gb42003)); have n9_ := Aside0.mk ((by rw [hg]; exact Nat.ne_of_gt (blk_lt BK42002.out) : gb42003 ≠ gb42002)); clear BK42001; clear BK42002; clear HB; have BK42001 := n0_; have BK42002 := n1_; have HB := n2_; have BK42003 := n3_; have GW42003 := n4_; have GE42003 := n5_; have NB42001_42003 := n6_; have NB42003_42001 := n7_; have NB42002_42003 := n8_; have NB42003_42002 := n9_; clear n0_ n1_ n2_ n3_ n4_ n5_ n6_ n7_ n8_ n9_; clear hb hbox hg; have hnb34 := NB42002_42001.out; have hnc34 := NB42001_42002.out; have hnb35 := NB42002_42003.out; have hnc35 := NB42003_42002.out; have hcz36_0 : w33.cell? ⟨gb42002, 0, none⟩ = some (.int .i64 a1_0) := (blk_cell BK42002.out 0).trans rfl; have hcz36_1 : w33.cell? ⟨gb42002, 1, none⟩ = some (.int .i64 a1_1) := (blk_cell BK42002.out 1).trans rfl; have hcz36_2 : w33.cell? ⟨gb42002, 2, none⟩ = some (.int .i64 a1_2) := (blk_cell BK42002.out 2).trans rfl; have hcz36_3 : w33.cell? ⟨gb42002, 3, none⟩ = some (.int .i64 a1_3) := (blk_cell BK42002.out 3).trans rfl; have hcz36_4 : w33.cell? ⟨gb42002, 4, none⟩ = some (.int .i64 a1_4) := (blk_cell BK42002.out 4).trans rfl; have hcz36_5 : w33.cell? ⟨gb42002, 5, none⟩ = some (.slice A1_5 l1_5.length c1_5) := (blk_cell BK42002.out 5).trans rfl; have hfz36_0 := blk_frozen BK42002.out 0; have hfz36_1 := blk_frozen BK42002.out 1; have hfz36_2 := blk_frozen BK42002.out 2; have hfz36_3 := blk_frozen BK42002.out 3; have hfz36_4 := blk_frozen BK42002.out 4; have hfz36_5 := blk_frozen BK42002.out 5; have hnb37 := NB42001_42003.out; have hnc37 := NB42003_42001.out; have hcz38_0 : w33.cell? ⟨gb42001, 0, none⟩ = some (.int .i64 a0_0) := (blk_cell BK42001.out 0).trans rfl; have hcz38_1 : w33.cell? ⟨gb42001, 1, none⟩ = some (.int .i64 a0_1) := (blk_cell BK42001.out 1).trans rfl; have hcz38_2 : w33.cell? ⟨gb42001, 2, none⟩ = some (.int .i64 a0_2) := (blk_cell BK42001.out 2).trans rfl; have hcz38_3 : w33.cell? ⟨gb42001, 3, none⟩ = some (.slice A0_3 l0_3.length c0_3) := (blk_cell BK42001.out 3).trans rfl; have hfz38_0 := blk_frozen BK42001.out 0; have hfz38_1 := blk_frozen BK42001.out 1; have hfz38_2 := blk_frozen BK42001.out 2; have hfz38_3 := blk_frozen BK42001.out 3) | ((with_reducible refine gate_callee (f := 74) rfl ?_); refine goesL_ (some 20) rfl rfl Try.func74 (by kernel_rfl) rfl #[.agg #[.int .i64 a0_0, .int .i64 a0_1, .int .i64 a0_2, .slice A0_3 l0_3.length c0_3]] rfl (by (try simp only [List.map_toArray, List.map_cons, List.map_nil]); rfl) ?_; (with_reducible refine (spec_InvertImage.calls k a0_0 a0_1 a0_2 _ _ l0_3 t42016 t42017 t42018 t42019 _ ?side1 ?side2 A30.out).mono ?_); (case side1 => repeat (exact (Kd.C_below HR0_3.out HB.out))); (case side2 => exact HC0_3.out); rintro e w39 ⟨v42020, rfl, ho0, hb⟩; refine ⟨_, rfl, ?_⟩; have n0_ := Aside0.mk (Kd.R_lower ho0 (below_size HB.out)); have n1_ := Aside0.mk (blk_below BK42001.out hb); have n2_ := Aside0.mk (blk_below BK42002.out hb); have n3_ := Aside0.mk (blk_below BK42003.out hb); have n4_ := Aside0.mk (below_step HB.out hb); clear BK42001; clear BK42002; clear BK42003; clear HB; have HO42021 := n0_; have BK42001 := n1_; have BK42002 := n2_; have BK42003 := n3_; have HB := n4_; clear n0_ n1_ n2_ n3_ n4_; (try clear hb); (try clear ho0); have hcz40_0 : w39.cell? ⟨gb42003, 0, none⟩ = some (.int .i64 0) := (blk_cell BK42003.out 0).trans rfl; have hcz40_1 : w39.cell? ⟨gb42003, 1, none⟩ = some (.int .i64 0) := (blk_cell BK42003.out 1).trans rfl; have hcz40_2 : w39.cell? ⟨gb42003, 2, none⟩ = some (.int .i64 0) := (blk_cell BK42003.out 2).trans rfl; have hcz40_3 : w39.cell? ⟨gb42003, 3, none⟩ = some (.slice none 0 0) := (blk_cell BK42003.out 3).trans rfl; have hfz40_0 := blk_frozen BK42003.out 0; have hfz40_1 := blk_frozen BK42003.out 1; have hfz40_2 := blk_frozen BK42003.out 2; have hfz40_3 := blk_frozen BK42003.out 3; obtain ⟨Ao41, co41, eo41⟩ := Kd.R_slice HO42021.out; subst eo41))
        refine bodyPost_ret (results_ct rfl _ _ gb42003 28 #[.int .i64 t42016, .int .i64 t42017, .int .i64 t42018, .slice Ao41 t42019.length co41] (0, 0) _ rfl (by refine blk_put (cs := #[.int .i64 t42016, .int .i64 t42017, .int .i64 t42018, .slice none 0 0]) ?_ 3 _ rfl; (with_reducible repeat (first | refine blk_drewN ?_ _ | refine blk_drew ?_ | refine blk_alloc ?_ _)); refine blk_put (cs := #[.int .i64 t42016, .int .i64 t42017, .int .i64 0, .slice none 0 0]) ?_ 2 _ rfl; (with_reducible repeat (first | refine blk_drewN ?_ _ | refine blk_drew ?_ | refine blk_alloc ?_ _)); refine blk_put (cs := #[.int .i64 t42016, .int .i64 0, .int .i64 0, .slice none 0 0]) ?_ 1 _ rfl; (with_reducible repeat (first | refine blk_drewN ?_ _ | refine blk_drew ?_ | refine blk_alloc ?_ _)); refine blk_put (cs := #[.int .i64 0, .int .i64 0, .int .i64 0, .slice none 0 0]) ?_ 0 _ rfl; (with_reducible repeat (first | refine blk_drewN ?_ _ | refine blk_drew ?_ | refine blk_alloc ?_ _)); exact BK42003.out) Try.underlying28 rfl (by kernel_rfl)) rfl ?_
        exact ⟨_, by rfl, by (with_reducible repeat (first | apply Kd.R_alloc | apply Kd.R_drewN | apply Kd.R_drew)); exact Kd.R_mono (Kd.R_far (p := ⟨gb42003, 3, none⟩) (Kd.R_far (p := ⟨gb42003, 2, none⟩) (Kd.R_far (p := ⟨gb42003, 1, none⟩) (Kd.R_far (p := ⟨gb42003, 0, none⟩) (Kd.R_types HO42021.out BK42003.out (by decide)) (fun _ hk => hk.2) (.int .i64 t42016)) (fun _ hk => hk.2) (.int .i64 t42017)) (fun _ hk => hk.2) (.int .i64 t42018)) (fun _ hk => hk.2) (.slice Ao41 t42019.length co41)) (fun _ hk => trivial), by repeat (with_reducible first | exact HB.out | refine below_set ?_ GE42003.out)⟩
      · rw [if_neg c29] at H
        have c29b0 : (a1_0 == 2) = false := beq_eq_false_iff_ne.mpr c29
        have c29b1 : (a1_0 != 2) = true := bne_iff_ne.mpr c29
        by_cases c42 : a1_0 = 3
        · rw [if_pos c42] at H
          have c42b0 : (a1_0 == 3) = true := beq_iff_eq.mpr c42
          have c42b1 : (a1_0 != 3) = false := bne_eq_false_iff_eq.mpr c42
          clear c42
          replace H := Option.bind_eq_some_iff.mp H
          obtain ⟨⟨t42022, t42023, t42024, t42025, t42028⟩, A430, H⟩ := H
          replace H : (some (t42022, t42023, t42024, t42025, t42028)) = some (r1, r2, r3, r4, r5) := H
          have A43 := Aside0.mk A430
          clear A430
          simp only [Option.some.injEq, Prod.mk.injEq] at H
          obtain ⟨rfl, rfl, rfl, rfl, rfl⟩ := H
          go_enter Try.func41, Try.ntmps41
          go_wp2_with (first | ((with_reducible refine gate_dst (N := 2) rfl ?_); (try (refine gate_guard (by rfl) ?_; dsimp only)); refine box_event ?hg (N := 2) ?hd (cs := #[.int .i64 a0_0, .int .i64 a0_1, .int .i64 a0_2, .slice A0_3 l0_3.length c0_3]) (t := 28) ?hr ?_; (case hd => rfl); (case hg => rfl); (case hr => (go_simp; done)); intro gb42001 hg w44 hbox hb; have n0_ := Aside0.mk (below_step HB.out hb); have n1_ := Aside0.mk (hbox); have n2_ := Aside0.mk ((by rw [hg]; exact (below_size HB.out) : w.heap.size ≤ gb42001)); have n3_ := Aside0.mk ((by rw [hg]; exact (below_size HB.out) : w.heap.size ≤ gb42001)); clear HB; have HB := n0_; have BK42001 := n1_; have GW42001 := n2_; have GE42001 := n3_; clear n0_ n1_ n2_ n3_; clear hb hbox hg) | ((with_reducible refine gate_dst (N := 3) rfl ?_); (try (refine gate_guard (by rfl) ?_; dsimp only)); refine box_event ?hg (N := 3) ?hd (cs := #[.int .i64 a1_0, .int .i64 a1_1, .int .i64 a1_2, .int .i64 a1_3, .int .i64 a1_4, .slice A1_5 l1_5.length c1_5]) (t := 43) ?hr ?_; (case hd => rfl); (case hg => rfl); (case hr => (go_simp; done)); intro gb42002 hg w45 hbox hb; have n0_ := Aside0.mk (blk_below BK42001.out hb); have n1_ := Aside0.mk (below_step HB.out hb); have n2_ := Aside0.mk (hbox); have n3_ := Aside0.mk ((by rw [hg]; exact (below_size HB.out) : w.heap.size ≤ gb42002)); have n4_ := Aside0.mk ((by rw [hg]; exact (below_size HB.out) : w.heap.size ≤ gb42002)); have n5_ := Aside0.mk ((by rw [hg]; exact Nat.ne_of_lt (blk_lt BK42001.out) : gb42001 ≠ gb42002)); have n6_ := Aside0.mk ((by rw [hg]; exact Nat.ne_of_gt (blk_lt BK42001.out) : gb42002 ≠ gb42001)); clear BK42001; clear HB; have BK42001 := n0_; have HB := n1_; have BK42002 := n2_; have GW42002 := n3_; have GE42002 := n4_; have NB42001_42002 := n5_; have NB42002_42001 := n6_; clear n0_ n1_ n2_ n3_ n4_ n5_ n6_; clear hb hbox hg) | ((with_reducible refine gate_dst (N := 4) rfl ?_); (try (refine gate_guard (by rfl) ?_; dsimp only)); refine box_event ?hg (N := 4) ?hd (cs := #[.int .i64 0, .int .i64 0, .int .i64 0, .slice none 0 0]) (t := 28) ?hr ?_; (case hd => rfl); (case hg => rfl); (case hr => (go_simp; done)); intro gb42003 hg w46 hbox hb; have n0_ := Aside0.mk (blk_below BK42001.out hb); have n1_ := Aside0.mk (blk_below BK42002.out hb); have n2_ := Aside0.mk (below_step HB.out hb); have n3_ := Aside0.mk (hbox); have n4_ := Aside0.mk ((by rw [hg]; exact (below_size HB.out) : w.heap.size ≤ gb42003)); have n5_ := Aside0.mk ((by rw [hg]; exact (below_size HB.out) : w.heap.size ≤ gb42003)); have n6_ := Aside0.mk ((by rw [hg]; exact Nat.ne_of_lt (blk_lt BK42001.out) : gb42001 ≠ gb42003)); have n7_ := Aside0.mk ((by rw [hg]; exact Nat.ne_of_gt (blk_lt BK42001.out) : gb42003 ≠ gb42001)); have n8_ := Aside0.mk ((by rw [hg]; exact Nat.ne_of_lt (blk_lt BK42002.out) : gb42002 ≠ gb42003)); have n9_ := Aside0.mk ((by rw [hg]; exact Nat.ne_of_gt (blk_lt BK42002.out) : gb42003 ≠ gb42002)); clear BK42001; clear BK42002; clear HB; have BK42001 := n0_; have BK42002 := n1_; have HB := n2_; have BK42003 := n3_; have GW42003 := n4_; have GE42003 := n5_; have NB42001_42003 := n6_; have NB42003_42001 := n7_; have NB42002_42003 := n8_; have NB42003_42002 := n9_; clear n0_ n1_ n2_ n3_ n4_ n5_ n6_ n7_ n8_ n9_; clear hb hbox hg; have hnb47 := NB42002_42001.out; have hnc47 := NB42001_42002.out; have hnb48 := NB42002_42003.out; have hnc48 := NB42003_42002.out; have hcz49_0 : w46.cell? ⟨gb42002, 0, none⟩ = some (.int .i64 a1_0) := (blk_cell BK42002.out 0).trans rfl; have hcz49_1 : w46.cell? ⟨gb42002, 1, none⟩ = some (.int .i64 a1_1) := (blk_cell BK42002.out 1).trans rfl; have hcz49_2 : w46.cell? ⟨gb42002, 2, none⟩ = some (.int .i64 a1_2) := (blk_cell BK42002.out 2).trans rfl; have hcz49_3 : w46.cell? ⟨gb42002, 3, none⟩ = some (.int .i64 a1_3) := (blk_cell BK42002.out 3).trans rfl; have hcz49_4 : w46.cell? ⟨gb42002, 4, none⟩ = some (.int .i64 a1_4) := (blk_cell BK42002.out 4).trans rfl; have hcz49_5 : w46.cell? ⟨gb42002, 5, none⟩ = some (.slice A1_5 l1_5.length c1_5) := (blk_cell BK42002.out 5).trans rfl; have hfz49_0 := blk_frozen BK42002.out 0; have hfz49_1 := blk_frozen BK42002.out 1; have hfz49_2 := blk_frozen BK42002.out 2; have hfz49_3 := blk_frozen BK42002.out 3; have hfz49_4 := blk_frozen BK42002.out 4; have hfz49_5 := blk_frozen BK42002.out 5; have hnb50 := NB42001_42003.out; have hnc50 := NB42003_42001.out; have hcz51_0 : w46.cell? ⟨gb42001, 0, none⟩ = some (.int .i64 a0_0) := (blk_cell BK42001.out 0).trans rfl; have hcz51_1 : w46.cell? ⟨gb42001, 1, none⟩ = some (.int .i64 a0_1) := (blk_cell BK42001.out 1).trans rfl; have hcz51_2 : w46.cell? ⟨gb42001, 2, none⟩ = some (.int .i64 a0_2) := (blk_cell BK42001.out 2).trans rfl; have hcz51_3 : w46.cell? ⟨gb42001, 3, none⟩ = some (.slice A0_3 l0_3.length c0_3) := (blk_cell BK42001.out 3).trans rfl; have hfz51_0 := blk_frozen BK42001.out 0; have hfz51_1 := blk_frozen BK42001.out 1; have hfz51_2 := blk_frozen BK42001.out 2; have hfz51_3 := blk_frozen BK42001.out 3) | ((with_reducible refine gate_callee (f := 75) rfl ?_); refine goesL_ (some 26) rfl rfl Try.func75 (by kernel_rfl) rfl #[.agg #[.int .i64 a0_0, .int .i64 a0_1, .int .i64 a0_2, .slice A0_3 l0_3.length c0_3], .agg #[.int .i64 a1_1, .int .i64 a1_2, .int .i64 a1_3, .int .i64 a1_4]] rfl (by (try simp only [List.map_toArray, List.map_cons, List.map_nil]); rfl) ?_; (with_reducible refine (spec_CropImage.calls k a0_0 a0_1 a0_2 _ _ l0_3 a1_1 a1_2 a1_3 a1_4 t42022 t42023 t42024 t42025 t42028 _ ?side1 ?side2 A43.out).mono ?_); (case side1 => repeat (exact (Kd.C_below HR0_3.out HB.out))); (case side2 => exact HC0_3.out); rintro e w52 ⟨v42026, rfl, ho0, hb⟩; refine ⟨_, rfl, ?_⟩; have n0_ := Aside0.mk (Kd.R_lower ho0 (below_size HB.out)); have n1_ := Aside0.mk (blk_below BK42001.out hb); have n2_ := Aside0.mk (blk_below BK42002.out hb); have n3_ := Aside0.mk (blk_below BK42003.out hb); have n4_ := Aside0.mk (below_step HB.out hb); clear BK42001; clear BK42002; clear BK42003; clear HB; have HO42027 := n0_; have BK42001 := n1_; have BK42002 := n2_; have BK42003 := n3_; have HB := n4_; clear n0_ n1_ n2_ n3_ n4_; (try clear hb); (try clear ho0); have hcz53_0 : w52.cell? ⟨gb42003, 0, none⟩ = some (.int .i64 0) := (blk_cell BK42003.out 0).trans rfl; have hcz53_1 : w52.cell? ⟨gb42003, 1, none⟩ = some (.int .i64 0) := (blk_cell BK42003.out 1).trans rfl; have hcz53_2 : w52.cell? ⟨gb42003, 2, none⟩ = some (.int .i64 0) := (blk_cell BK42003.out 2).trans rfl; have hcz53_3 : w52.cell? ⟨gb42003, 3, none⟩ = some (.slice none 0 0) := (blk_cell BK42003.out 3).trans rfl; have hfz53_0 := blk_frozen BK42003.out 0; have hfz53_1 := blk_frozen BK42003.out 1; have hfz53_2 := blk_frozen BK42003.out 2; have hfz53_3 := blk_frozen BK42003.out 3; obtain ⟨Ao54, co54, eo54⟩ := Kd.R_slice HO42027.out; subst eo54))
          refine bodyPost_ret (results_ct rfl _ _ gb42003 28 #[.int .i64 t42022, .int .i64 t42023, .int .i64 t42024, .slice Ao54 t42025.length co54] (0, 0) _ rfl (by refine blk_put (cs := #[.int .i64 t42022, .int .i64 t42023, .int .i64 t42024, .slice none 0 0]) ?_ 3 _ rfl; (with_reducible repeat (first | refine blk_drewN ?_ _ | refine blk_drew ?_ | refine blk_alloc ?_ _)); refine blk_put (cs := #[.int .i64 t42022, .int .i64 t42023, .int .i64 0, .slice none 0 0]) ?_ 2 _ rfl; (with_reducible repeat (first | refine blk_drewN ?_ _ | refine blk_drew ?_ | refine blk_alloc ?_ _)); refine blk_put (cs := #[.int .i64 t42022, .int .i64 0, .int .i64 0, .slice none 0 0]) ?_ 1 _ rfl; (with_reducible repeat (first | refine blk_drewN ?_ _ | refine blk_drew ?_ | refine blk_alloc ?_ _)); refine blk_put (cs := #[.int .i64 0, .int .i64 0, .int .i64 0, .slice none 0 0]) ?_ 0 _ rfl; (with_reducible repeat (first | refine blk_drewN ?_ _ | refine blk_drew ?_ | refine blk_alloc ?_ _)); exact BK42003.out) Try.underlying28 rfl (by kernel_rfl)) rfl ?_
          exact ⟨_, by rfl, by (with_reducible repeat (first | apply Kd.R_alloc | apply Kd.R_drewN | apply Kd.R_drew)); exact Kd.R_mono (Kd.R_far (p := ⟨gb42003, 3, none⟩) (Kd.R_far (p := ⟨gb42003, 2, none⟩) (Kd.R_far (p := ⟨gb42003, 1, none⟩) (Kd.R_far (p := ⟨gb42003, 0, none⟩) (Kd.R_types HO42027.out BK42003.out (by decide)) (fun _ hk => hk.2) (.int .i64 t42022)) (fun _ hk => hk.2) (.int .i64 t42023)) (fun _ hk => hk.2) (.int .i64 t42024)) (fun _ hk => hk.2) (.slice Ao54 t42025.length co54)) (fun _ hk => trivial), by repeat (with_reducible first | exact HB.out | refine below_set ?_ GE42003.out)⟩
        · rw [if_neg c42] at H
          have c42b0 : (a1_0 == 3) = false := beq_eq_false_iff_ne.mpr c42
          have c42b1 : (a1_0 != 3) = true := bne_iff_ne.mpr c42
          by_cases c55 : a1_0 = 4
          · rw [if_pos c55] at H
            have c55b0 : (a1_0 == 4) = true := beq_iff_eq.mpr c55
            have c55b1 : (a1_0 != 4) = false := bne_eq_false_iff_eq.mpr c55
            clear c55
            have HC56 := Aside0.mk H
            clear H
            go_enter Try.func41, Try.ntmps41
            go_upto_region 11 with (first | ((with_reducible refine gate_dst (N := 2) rfl ?_); (try (refine gate_guard (by rfl) ?_; dsimp only)); refine box_event ?hg (N := 2) ?hd (cs := #[.int .i64 a0_0, .int .i64 a0_1, .int .i64 a0_2, .slice A0_3 l0_3.length c0_3]) (t := 28) ?hr ?_; (case hd => rfl); (case hg => rfl); (case hr => (go_simp; done)); intro gb42001 hg w57 hbox hb; have n0_ := Aside0.mk (below_step HB.out hb); have n1_ := Aside0.mk (hbox); have n2_ := Aside0.mk ((by rw [hg]; exact (below_size HB.out) : w.heap.size ≤ gb42001)); have n3_ := Aside0.mk ((by rw [hg]; exact (below_size HB.out) : w.heap.size ≤ gb42001)); clear HB; have HB := n0_; have BK42001 := n1_; have GW42001 := n2_; have GE42001 := n3_; clear n0_ n1_ n2_ n3_; clear hb hbox hg) | ((with_reducible refine gate_dst (N := 3) rfl ?_); (try (refine gate_guard (by rfl) ?_; dsimp only)); refine box_event ?hg (N := 3) ?hd (cs := #[.int .i64 a1_0, .int .i64 a1_1, .int .i64 a1_2, .int .i64 a1_3, .int .i64 a1_4, .slice A1_5 l1_5.length c1_5]) (t := 43) ?hr ?_; (case hd => rfl); (case hg => rfl); (case hr => (go_simp; done)); intro gb42002 hg w58 hbox hb; have n0_ := Aside0.mk (blk_below BK42001.out hb); have n1_ := Aside0.mk (below_step HB.out hb); have n2_ := Aside0.mk (hbox); have n3_ := Aside0.mk ((by rw [hg]; exact (below_size HB.out) : w.heap.size ≤ gb42002)); have n4_ := Aside0.mk ((by rw [hg]; exact (below_size HB.out) : w.heap.size ≤ gb42002)); have n5_ := Aside0.mk ((by rw [hg]; exact Nat.ne_of_lt (blk_lt BK42001.out) : gb42001 ≠ gb42002)); have n6_ := Aside0.mk ((by rw [hg]; exact Nat.ne_of_gt (blk_lt BK42001.out) : gb42002 ≠ gb42001)); clear BK42001; clear HB; have BK42001 := n0_; have HB := n1_; have BK42002 := n2_; have GW42002 := n3_; have GE42002 := n4_; have NB42001_42002 := n5_; have NB42002_42001 := n6_; clear n0_ n1_ n2_ n3_ n4_ n5_ n6_; clear hb hbox hg) | ((with_reducible refine gate_dst (N := 4) rfl ?_); (try (refine gate_guard (by rfl) ?_; dsimp only)); refine box_event ?hg (N := 4) ?hd (cs := #[.int .i64 0, .int .i64 0, .int .i64 0, .slice none 0 0]) (t := 28) ?hr ?_; (case hd => rfl); (case hg => rfl); (case hr => (go_simp; done)); intro gb42003 hg w59 hbox hb; have n0_ := Aside0.mk (blk_below BK42001.out hb); have n1_ := Aside0.mk (blk_below BK42002.out hb); have n2_ := Aside0.mk (below_step HB.out hb); have n3_ := Aside0.mk (hbox); have n4_ := Aside0.mk ((by rw [hg]; exact (below_size HB.out) : w.heap.size ≤ gb42003)); have n5_ := Aside0.mk ((by rw [hg]; exact (below_size HB.out) : w.heap.size ≤ gb42003)); have n6_ := Aside0.mk ((by rw [hg]; exact Nat.ne_of_lt (blk_lt BK42001.out) : gb42001 ≠ gb42003)); have n7_ := Aside0.mk ((by rw [hg]; exact Nat.ne_of_gt (blk_lt BK42001.out) : gb42003 ≠ gb42001)); have n8_ := Aside0.mk ((by rw [hg]; exact Nat.ne_of_lt (blk_lt BK42002.out) : gb42002 ≠ gb42003)); have n9_ := Aside0.mk ((by rw [hg]; exact Nat.ne_of_gt (blk_lt BK42002.out) : gb42003 ≠ gb42002)); clear BK42001; clear BK42002; clear HB; have BK42001 := n0_; have BK42002 := n1_; have HB := n2_; have BK42003 := n3_; have GW42003 := n4_; have GE42003 := n5_; have NB42001_42003 := n6_; have NB42003_42001 := n7_; have NB42002_42003 := n8_; have NB42003_42002 := n9_; clear n0_ n1_ n2_ n3_ n4_ n5_ n6_ n7_ n8_ n9_; clear hb hbox hg; have hnb60 := NB42002_42001.out; have hnc60 := NB42001_42002.out; have hnb61 := NB42002_42003.out; have hnc61 := NB42003_42002.out; have hcz62_0 : w59.cell? ⟨gb42002, 0, none⟩ = some (.int .i64 a1_0) := (blk_cell BK42002.out 0).trans rfl; have hcz62_1 : w59.cell? ⟨gb42002, 1, none⟩ = some (.int .i64 a1_1) := (blk_cell BK42002.out 1).trans rfl; have hcz62_2 : w59.cell? ⟨gb42002, 2, none⟩ = some (.int .i64 a1_2) := (blk_cell BK42002.out 2).trans rfl; have hcz62_3 : w59.cell? ⟨gb42002, 3, none⟩ = some (.int .i64 a1_3) := (blk_cell BK42002.out 3).trans rfl; have hcz62_4 : w59.cell? ⟨gb42002, 4, none⟩ = some (.int .i64 a1_4) := (blk_cell BK42002.out 4).trans rfl; have hcz62_5 : w59.cell? ⟨gb42002, 5, none⟩ = some (.slice A1_5 l1_5.length c1_5) := (blk_cell BK42002.out 5).trans rfl; have hfz62_0 := blk_frozen BK42002.out 0; have hfz62_1 := blk_frozen BK42002.out 1; have hfz62_2 := blk_frozen BK42002.out 2; have hfz62_3 := blk_frozen BK42002.out 3; have hfz62_4 := blk_frozen BK42002.out 4; have hfz62_5 := blk_frozen BK42002.out 5))
            go_cut [49] (fun v49 wc => ∃ (kq : Nat) (x49_55 : Bool), v49 = .bool x49_55 ∧ Aside0 (spec_doStep.j0 kq x49_55 a0_0 a0_1 a0_2 l0_3 a1_0 a1_1 a1_2 a1_3 a1_4 l1_5 = some (r1, r2, r3, r4, r5)) ∧ Aside0 (kq ≤ k) ∧ Aside0 (wc.heap[gb42001]? = some (.cells #[.int .i64 a0_0, .int .i64 a0_1, .int .i64 a0_2, (.slice A0_3 l0_3.length c0_3)] 28 (0, 0))) ∧ Aside0 (wc.heap[gb42002]? = some (.cells #[.int .i64 a1_0, .int .i64 a1_1, .int .i64 a1_2, .int .i64 a1_3, .int .i64 a1_4, (.slice A1_5 l1_5.length c1_5)] 43 (0, 0))) ∧ Aside0 (wc.heap[gb42003]? = some (.cells #[.int .i64 0, .int .i64 0, .int .i64 0, (.slice none 0 0)] 28 (0, 0))) ∧ Aside0 (Below w.heap.size w wc))
            case first =>
              have H := HC56.out
              clear HC56
              replace H := Option.bind_eq_some_iff.mp H
              obtain ⟨t42029, A630, H⟩ := H
              replace H : (if t42029 = true then (if (l1_5.length : Int) = a0_2 then ((spec_allIn.f k l1_5 0 255).bind fun t42030 => (spec_doStep.j0 k (!t42030) a0_0 a0_1 a0_2 l0_3 a1_0 a1_1 a1_2 a1_3 a1_4 l1_5)) else (spec_doStep.j0 k true a0_0 a0_1 a0_2 l0_3 a1_0 a1_1 a1_2 a1_3 a1_4 l1_5)) else (spec_doStep.j0 k true a0_0 a0_1 a0_2 l0_3 a1_0 a1_1 a1_2 a1_3 a1_4 l1_5)) = some (r1, r2, r3, r4, r5) := H
              have A63 := Aside0.mk A630
              clear A630
              by_cases c64 : t42029 = true
              · subst c64
                have H1 : (if (l1_5.length : Int) = a0_2 then ((spec_allIn.f k l1_5 0 255).bind fun t42030 => (spec_doStep.j0 k (!t42030) a0_0 a0_1 a0_2 l0_3 a1_0 a1_1 a1_2 a1_3 a1_4 l1_5)) else (spec_doStep.j0 k true a0_0 a0_1 a0_2 l0_3 a1_0 a1_1 a1_2 a1_3 a1_4 l1_5)) = some (r1, r2, r3, r4, r5) := by rw [if_pos rfl] at H; exact H
                clear H
                have H := H1
                clear H1
                by_cases c65 : (l1_5.length : Int) = a0_2
                · rw [if_pos c65] at H
                  have c65b0 : ((l1_5.length : Int) == a0_2) = true := beq_iff_eq.mpr c65
                  have c65b1 : ((l1_5.length : Int) != a0_2) = false := bne_eq_false_iff_eq.mpr c65
                  clear c65
                  (skip)
                  replace H := Option.bind_eq_some_iff.mp H
                  obtain ⟨t42030, A660, H⟩ := H
                  replace H : (spec_doStep.j0 k (!t42030) a0_0 a0_1 a0_2 l0_3 a1_0 a1_1 a1_2 a1_3 a1_4 l1_5) = some (r1, r2, r3, r4, r5) := H
                  have A66 := Aside0.mk A660
                  clear A660
                  have H' := Aside0.mk H
                  clear H
                  have hnb67 := NB42001_42002.out
                  have hnc67 := NB42002_42001.out
                  have hnb68 := NB42001_42003.out
                  have hnc68 := NB42003_42001.out
                  have hcz69_0 : w59.cell? ⟨gb42001, 0, none⟩ = some (.int .i64 a0_0) := (blk_cell BK42001.out 0).trans rfl
                  have hcz69_1 : w59.cell? ⟨gb42001, 1, none⟩ = some (.int .i64 a0_1) := (blk_cell BK42001.out 1).trans rfl
                  have hcz69_2 : w59.cell? ⟨gb42001, 2, none⟩ = some (.int .i64 a0_2) := (blk_cell BK42001.out 2).trans rfl
                  have hcz69_3 : w59.cell? ⟨gb42001, 3, none⟩ = some (.slice A0_3 l0_3.length c0_3) := (blk_cell BK42001.out 3).trans rfl
                  have hfz69_0 := blk_frozen BK42001.out 0
                  have hfz69_1 := blk_frozen BK42001.out 1
                  have hfz69_2 := blk_frozen BK42001.out 2
                  have hfz69_3 := blk_frozen BK42001.out 3
                  have hnb70 := NB42002_42003.out
                  have hnc70 := NB42003_42002.out
                  have hcz71_0 : w59.cell? ⟨gb42002, 0, none⟩ = some (.int .i64 a1_0) := (blk_cell BK42002.out 0).trans rfl
                  have hcz71_1 : w59.cell? ⟨gb42002, 1, none⟩ = some (.int .i64 a1_1) := (blk_cell BK42002.out 1).trans rfl
                  have hcz71_2 : w59.cell? ⟨gb42002, 2, none⟩ = some (.int .i64 a1_2) := (blk_cell BK42002.out 2).trans rfl
                  have hcz71_3 : w59.cell? ⟨gb42002, 3, none⟩ = some (.int .i64 a1_3) := (blk_cell BK42002.out 3).trans rfl
                  have hcz71_4 : w59.cell? ⟨gb42002, 4, none⟩ = some (.int .i64 a1_4) := (blk_cell BK42002.out 4).trans rfl
                  have hcz71_5 : w59.cell? ⟨gb42002, 5, none⟩ = some (.slice A1_5 l1_5.length c1_5) := (blk_cell BK42002.out 5).trans rfl
                  have hfz71_0 := blk_frozen BK42002.out 0
                  have hfz71_1 := blk_frozen BK42002.out 1
                  have hfz71_2 := blk_frozen BK42002.out 2
                  have hfz71_3 := blk_frozen BK42002.out 3
                  have hfz71_4 := blk_frozen BK42002.out 4
                  have hfz71_5 := blk_frozen BK42002.out 5
                  go_wp2_with (first | ((with_reducible refine gate_callee (f := 76) rfl ?_); refine goesL_ (some 34) rfl rfl Try.func76 (by kernel_rfl) rfl #[.agg #[.int .i64 a0_0, .int .i64 a0_1, .int .i64 a0_2, .slice A0_3 l0_3.length c0_3], .agg #[.int .i64 a1_1, .int .i64 a1_2, .int .i64 a1_3, .int .i64 a1_4]] rfl (by (try simp only [List.map_toArray, List.map_cons, List.map_nil]); rfl) ?_; (with_reducible refine (spec_validBox.calls a0_0 a0_1 a0_2 _ _ l0_3 a1_1 a1_2 a1_3 a1_4 true _ ?side1 ?side2 A63.out).mono ?_); (case side1 => repeat (exact (Kd.C_below HR0_3.out HB.out))); (case side2 => exact HC0_3.out); rintro e w72 ⟨rfl, hb⟩; refine ⟨_, rfl, ?_⟩; have n0_ := Aside0.mk (blk_below BK42001.out hb); have n1_ := Aside0.mk (blk_below BK42002.out hb); have n2_ := Aside0.mk (blk_below BK42003.out hb); have n3_ := Aside0.mk (below_step HB.out hb); clear BK42001; clear BK42002; clear BK42003; clear HB; have BK42001 := n0_; have BK42002 := n1_; have BK42003 := n2_; have HB := n3_; clear n0_ n1_ n2_ n3_; (try clear hb); have hcz73_0 : w72.cell? ⟨gb42002, 0, none⟩ = some (.int .i64 a1_0) := (blk_cell BK42002.out 0).trans rfl; have hcz73_1 : w72.cell? ⟨gb42002, 1, none⟩ = some (.int .i64 a1_1) := (blk_cell BK42002.out 1).trans rfl; have hcz73_2 : w72.cell? ⟨gb42002, 2, none⟩ = some (.int .i64 a1_2) := (blk_cell BK42002.out 2).trans rfl; have hcz73_3 : w72.cell? ⟨gb42002, 3, none⟩ = some (.int .i64 a1_3) := (blk_cell BK42002.out 3).trans rfl; have hcz73_4 : w72.cell? ⟨gb42002, 4, none⟩ = some (.int .i64 a1_4) := (blk_cell BK42002.out 4).trans rfl; have hcz73_5 : w72.cell? ⟨gb42002, 5, none⟩ = some (.slice A1_5 l1_5.length c1_5) := (blk_cell BK42002.out 5).trans rfl; have hfz73_0 := blk_frozen BK42002.out 0; have hfz73_1 := blk_frozen BK42002.out 1; have hfz73_2 := blk_frozen BK42002.out 2; have hfz73_3 := blk_frozen BK42002.out 3; have hfz73_4 := blk_frozen BK42002.out 4; have hfz73_5 := blk_frozen BK42002.out 5; have hcz74_0 : w72.cell? ⟨gb42001, 0, none⟩ = some (.int .i64 a0_0) := (blk_cell BK42001.out 0).trans rfl; have hcz74_1 : w72.cell? ⟨gb42001, 1, none⟩ = some (.int .i64 a0_1) := (blk_cell BK42001.out 1).trans rfl; have hcz74_2 : w72.cell? ⟨gb42001, 2, none⟩ = some (.int .i64 a0_2) := (blk_cell BK42001.out 2).trans rfl; have hcz74_3 : w72.cell? ⟨gb42001, 3, none⟩ = some (.slice A0_3 l0_3.length c0_3) := (blk_cell BK42001.out 3).trans rfl; have hfz74_0 := blk_frozen BK42001.out 0; have hfz74_1 := blk_frozen BK42001.out 1; have hfz74_2 := blk_frozen BK42001.out 2; have hfz74_3 := blk_frozen BK42001.out 3) | (go_at_call 70; (with_reducible refine (spec_allIn.calls k _ _ l1_5 0 255 t42030 _ ?side1 ?side2 A66.out).mono ?_); (case side1 => repeat (exact (Kd.C_below HR1_5.out HB.out))); (case side2 => exact HC1_5.out); rintro e w' ⟨rfl, ⟨nd, rfl⟩⟩))
                  go_meet
                  case rel => exact ⟨_, (!t42030), (by rfl), H', ⟨by omega⟩, ⟨by (with_reducible repeat (refine blk_drewN ?_ _)); exact BK42001.out⟩, ⟨by (with_reducible repeat (refine blk_drewN ?_ _)); exact BK42002.out⟩, ⟨by (with_reducible repeat (refine blk_drewN ?_ _)); exact BK42003.out⟩, ⟨by repeat (with_reducible first | exact HB.out | apply pw_below_drewN)⟩⟩
                · rw [if_neg c65] at H
                  have c65b0 : ((l1_5.length : Int) == a0_2) = false := beq_eq_false_iff_ne.mpr c65
                  have c65b1 : ((l1_5.length : Int) != a0_2) = true := bne_iff_ne.mpr c65
                  (skip)
                  have H' := Aside0.mk H
                  clear H
                  have hnb75 := NB42001_42002.out
                  have hnc75 := NB42002_42001.out
                  have hnb76 := NB42001_42003.out
                  have hnc76 := NB42003_42001.out
                  have hcz77_0 : w59.cell? ⟨gb42001, 0, none⟩ = some (.int .i64 a0_0) := (blk_cell BK42001.out 0).trans rfl
                  have hcz77_1 : w59.cell? ⟨gb42001, 1, none⟩ = some (.int .i64 a0_1) := (blk_cell BK42001.out 1).trans rfl
                  have hcz77_2 : w59.cell? ⟨gb42001, 2, none⟩ = some (.int .i64 a0_2) := (blk_cell BK42001.out 2).trans rfl
                  have hcz77_3 : w59.cell? ⟨gb42001, 3, none⟩ = some (.slice A0_3 l0_3.length c0_3) := (blk_cell BK42001.out 3).trans rfl
                  have hfz77_0 := blk_frozen BK42001.out 0
                  have hfz77_1 := blk_frozen BK42001.out 1
                  have hfz77_2 := blk_frozen BK42001.out 2
                  have hfz77_3 := blk_frozen BK42001.out 3
                  have hnb78 := NB42002_42003.out
                  have hnc78 := NB42003_42002.out
                  have hcz79_0 : w59.cell? ⟨gb42002, 0, none⟩ = some (.int .i64 a1_0) := (blk_cell BK42002.out 0).trans rfl
                  have hcz79_1 : w59.cell? ⟨gb42002, 1, none⟩ = some (.int .i64 a1_1) := (blk_cell BK42002.out 1).trans rfl
                  have hcz79_2 : w59.cell? ⟨gb42002, 2, none⟩ = some (.int .i64 a1_2) := (blk_cell BK42002.out 2).trans rfl
                  have hcz79_3 : w59.cell? ⟨gb42002, 3, none⟩ = some (.int .i64 a1_3) := (blk_cell BK42002.out 3).trans rfl
                  have hcz79_4 : w59.cell? ⟨gb42002, 4, none⟩ = some (.int .i64 a1_4) := (blk_cell BK42002.out 4).trans rfl
                  have hcz79_5 : w59.cell? ⟨gb42002, 5, none⟩ = some (.slice A1_5 l1_5.length c1_5) := (blk_cell BK42002.out 5).trans rfl
                  have hfz79_0 := blk_frozen BK42002.out 0
                  have hfz79_1 := blk_frozen BK42002.out 1
                  have hfz79_2 := blk_frozen BK42002.out 2
                  have hfz79_3 := blk_frozen BK42002.out 3
                  have hfz79_4 := blk_frozen BK42002.out 4
                  have hfz79_5 := blk_frozen BK42002.out 5
                  go_wp2_with (first | ((with_reducible refine gate_callee (f := 76) rfl ?_); refine goesL_ (some 34) rfl rfl Try.func76 (by kernel_rfl) rfl #[.agg #[.int .i64 a0_0, .int .i64 a0_1, .int .i64 a0_2, .slice A0_3 l0_3.length c0_3], .agg #[.int .i64 a1_1, .int .i64 a1_2, .int .i64 a1_3, .int .i64 a1_4]] rfl (by (try simp only [List.map_toArray, List.map_cons, List.map_nil]); rfl) ?_; (with_reducible refine (spec_validBox.calls a0_0 a0_1 a0_2 _ _ l0_3 a1_1 a1_2 a1_3 a1_4 true _ ?side1 ?side2 A63.out).mono ?_); (case side1 => repeat (exact (Kd.C_below HR0_3.out HB.out))); (case side2 => exact HC0_3.out); rintro e w80 ⟨rfl, hb⟩; refine ⟨_, rfl, ?_⟩; have n0_ := Aside0.mk (blk_below BK42001.out hb); have n1_ := Aside0.mk (blk_below BK42002.out hb); have n2_ := Aside0.mk (blk_below BK42003.out hb); have n3_ := Aside0.mk (below_step HB.out hb); clear BK42001; clear BK42002; clear BK42003; clear HB; have BK42001 := n0_; have BK42002 := n1_; have BK42003 := n2_; have HB := n3_; clear n0_ n1_ n2_ n3_; (try clear hb); have hcz81_0 : w80.cell? ⟨gb42002, 0, none⟩ = some (.int .i64 a1_0) := (blk_cell BK42002.out 0).trans rfl; have hcz81_1 : w80.cell? ⟨gb42002, 1, none⟩ = some (.int .i64 a1_1) := (blk_cell BK42002.out 1).trans rfl; have hcz81_2 : w80.cell? ⟨gb42002, 2, none⟩ = some (.int .i64 a1_2) := (blk_cell BK42002.out 2).trans rfl; have hcz81_3 : w80.cell? ⟨gb42002, 3, none⟩ = some (.int .i64 a1_3) := (blk_cell BK42002.out 3).trans rfl; have hcz81_4 : w80.cell? ⟨gb42002, 4, none⟩ = some (.int .i64 a1_4) := (blk_cell BK42002.out 4).trans rfl; have hcz81_5 : w80.cell? ⟨gb42002, 5, none⟩ = some (.slice A1_5 l1_5.length c1_5) := (blk_cell BK42002.out 5).trans rfl; have hfz81_0 := blk_frozen BK42002.out 0; have hfz81_1 := blk_frozen BK42002.out 1; have hfz81_2 := blk_frozen BK42002.out 2; have hfz81_3 := blk_frozen BK42002.out 3; have hfz81_4 := blk_frozen BK42002.out 4; have hfz81_5 := blk_frozen BK42002.out 5; have hcz82_0 : w80.cell? ⟨gb42001, 0, none⟩ = some (.int .i64 a0_0) := (blk_cell BK42001.out 0).trans rfl; have hcz82_1 : w80.cell? ⟨gb42001, 1, none⟩ = some (.int .i64 a0_1) := (blk_cell BK42001.out 1).trans rfl; have hcz82_2 : w80.cell? ⟨gb42001, 2, none⟩ = some (.int .i64 a0_2) := (blk_cell BK42001.out 2).trans rfl; have hcz82_3 : w80.cell? ⟨gb42001, 3, none⟩ = some (.slice A0_3 l0_3.length c0_3) := (blk_cell BK42001.out 3).trans rfl; have hfz82_0 := blk_frozen BK42001.out 0; have hfz82_1 := blk_frozen BK42001.out 1; have hfz82_2 := blk_frozen BK42001.out 2; have hfz82_3 := blk_frozen BK42001.out 3))
                  go_meet
                  case rel => exact ⟨_, (true), (by rfl), H', ⟨by omega⟩, ⟨by (with_reducible repeat (first | refine blk_drewN ?_ _ | refine blk_drew ?_ | refine blk_alloc ?_ _)); exact BK42001.out⟩, ⟨by (with_reducible repeat (first | refine blk_drewN ?_ _ | refine blk_drew ?_ | refine blk_alloc ?_ _)); exact BK42002.out⟩, ⟨by (with_reducible repeat (first | refine blk_drewN ?_ _ | refine blk_drew ?_ | refine blk_alloc ?_ _)); exact BK42003.out⟩, ⟨by exact HB.out⟩⟩
              · replace c64 := Bool.eq_false_iff.mpr c64
                subst c64
                have H1 : (spec_doStep.j0 k true a0_0 a0_1 a0_2 l0_3 a1_0 a1_1 a1_2 a1_3 a1_4 l1_5) = some (r1, r2, r3, r4, r5) := by rw [if_neg (show ¬ (false = true) by decide)] at H; exact H
                clear H
                have H := H1
                clear H1
                have H' := Aside0.mk H
                clear H
                have hnb83 := NB42001_42002.out
                have hnc83 := NB42002_42001.out
                have hnb84 := NB42001_42003.out
                have hnc84 := NB42003_42001.out
                have hcz85_0 : w59.cell? ⟨gb42001, 0, none⟩ = some (.int .i64 a0_0) := (blk_cell BK42001.out 0).trans rfl
                have hcz85_1 : w59.cell? ⟨gb42001, 1, none⟩ = some (.int .i64 a0_1) := (blk_cell BK42001.out 1).trans rfl
                have hcz85_2 : w59.cell? ⟨gb42001, 2, none⟩ = some (.int .i64 a0_2) := (blk_cell BK42001.out 2).trans rfl
                have hcz85_3 : w59.cell? ⟨gb42001, 3, none⟩ = some (.slice A0_3 l0_3.length c0_3) := (blk_cell BK42001.out 3).trans rfl
                have hfz85_0 := blk_frozen BK42001.out 0
                have hfz85_1 := blk_frozen BK42001.out 1
                have hfz85_2 := blk_frozen BK42001.out 2
                have hfz85_3 := blk_frozen BK42001.out 3
                have hnb86 := NB42002_42003.out
                have hnc86 := NB42003_42002.out
                have hcz87_0 : w59.cell? ⟨gb42002, 0, none⟩ = some (.int .i64 a1_0) := (blk_cell BK42002.out 0).trans rfl
                have hcz87_1 : w59.cell? ⟨gb42002, 1, none⟩ = some (.int .i64 a1_1) := (blk_cell BK42002.out 1).trans rfl
                have hcz87_2 : w59.cell? ⟨gb42002, 2, none⟩ = some (.int .i64 a1_2) := (blk_cell BK42002.out 2).trans rfl
                have hcz87_3 : w59.cell? ⟨gb42002, 3, none⟩ = some (.int .i64 a1_3) := (blk_cell BK42002.out 3).trans rfl
                have hcz87_4 : w59.cell? ⟨gb42002, 4, none⟩ = some (.int .i64 a1_4) := (blk_cell BK42002.out 4).trans rfl
                have hcz87_5 : w59.cell? ⟨gb42002, 5, none⟩ = some (.slice A1_5 l1_5.length c1_5) := (blk_cell BK42002.out 5).trans rfl
                have hfz87_0 := blk_frozen BK42002.out 0
                have hfz87_1 := blk_frozen BK42002.out 1
                have hfz87_2 := blk_frozen BK42002.out 2
                have hfz87_3 := blk_frozen BK42002.out 3
                have hfz87_4 := blk_frozen BK42002.out 4
                have hfz87_5 := blk_frozen BK42002.out 5
                go_wp2_with (first | ((with_reducible refine gate_callee (f := 76) rfl ?_); refine goesL_ (some 34) rfl rfl Try.func76 (by kernel_rfl) rfl #[.agg #[.int .i64 a0_0, .int .i64 a0_1, .int .i64 a0_2, .slice A0_3 l0_3.length c0_3], .agg #[.int .i64 a1_1, .int .i64 a1_2, .int .i64 a1_3, .int .i64 a1_4]] rfl (by (try simp only [List.map_toArray, List.map_cons, List.map_nil]); rfl) ?_; (with_reducible refine (spec_validBox.calls a0_0 a0_1 a0_2 _ _ l0_3 a1_1 a1_2 a1_3 a1_4 false _ ?side1 ?side2 A63.out).mono ?_); (case side1 => repeat (exact (Kd.C_below HR0_3.out HB.out))); (case side2 => exact HC0_3.out); rintro e w88 ⟨rfl, hb⟩; refine ⟨_, rfl, ?_⟩; have n0_ := Aside0.mk (blk_below BK42001.out hb); have n1_ := Aside0.mk (blk_below BK42002.out hb); have n2_ := Aside0.mk (blk_below BK42003.out hb); have n3_ := Aside0.mk (below_step HB.out hb); clear BK42001; clear BK42002; clear BK42003; clear HB; have BK42001 := n0_; have BK42002 := n1_; have BK42003 := n2_; have HB := n3_; clear n0_ n1_ n2_ n3_; (try clear hb)))
                go_meet
                case rel => exact ⟨_, (true), (by rfl), H', ⟨by omega⟩, ⟨by (with_reducible repeat (first | refine blk_drewN ?_ _ | refine blk_drew ?_ | refine blk_alloc ?_ _)); exact BK42001.out⟩, ⟨by (with_reducible repeat (first | refine blk_drewN ?_ _ | refine blk_drew ?_ | refine blk_alloc ?_ _)); exact BK42002.out⟩, ⟨by (with_reducible repeat (first | refine blk_drewN ?_ _ | refine blk_drew ?_ | refine blk_alloc ?_ _)); exact BK42003.out⟩, ⟨by exact HB.out⟩⟩
            case rest =>
              clear HC56
              try clear c1
              try clear c2
              try clear p2
              try clear c3
              try clear c3b0
              try clear c3b1
              try clear c4
              try clear c5
              try clear c6
              try clear c7
              try clear c8
              try clear c9
              try clear c11
              try clear c16
              try clear c16b0
              try clear c16b1
              try clear c21
              try clear c22
              try clear c24
              try clear c29
              try clear c29b0
              try clear c29b1
              try clear c34
              try clear c35
              try clear c37
              try clear c41
              try clear c42
              try clear c42b0
              try clear c42b1
              try clear c47
              try clear c48
              try clear c50
              try clear c55
              try clear c55b0
              try clear c55b1
              try clear c60
              try clear c61
              try clear c64
              try clear c65
              try clear c65b0
              try clear c65b1
              try clear c67
              try clear c68
              try clear c70
              try clear c72
              try clear c73
              try clear c74
              try clear c75
              try clear c76
              try clear c78
              try clear c83
              try clear c84
              try clear c86
              try clear hcz10_0
              try clear hcz10_1
              try clear hcz10_2
              try clear hcz10_3
              try clear hcz10_4
              try clear hcz10_5
              try clear hcz12_0
              try clear hcz12_1
              try clear hcz12_2
              try clear hcz12_3
              try clear hcz14_0
              try clear hcz14_1
              try clear hcz14_2
              try clear hcz14_3
              try clear hcz23_0
              try clear hcz23_1
              try clear hcz23_2
              try clear hcz23_3
              try clear hcz23_4
              try clear hcz23_5
              try clear hcz25_0
              try clear hcz25_1
              try clear hcz25_2
              try clear hcz25_3
              try clear hcz27_0
              try clear hcz27_1
              try clear hcz27_2
              try clear hcz27_3
              try clear hcz36_0
              try clear hcz36_1
              try clear hcz36_2
              try clear hcz36_3
              try clear hcz36_4
              try clear hcz36_5
              try clear hcz38_0
              try clear hcz38_1
              try clear hcz38_2
              try clear hcz38_3
              try clear hcz40_0
              try clear hcz40_1
              try clear hcz40_2
              try clear hcz40_3
              try clear hcz49_0
              try clear hcz49_1
              try clear hcz49_2
              try clear hcz49_3
              try clear hcz49_4
              try clear hcz49_5
              try clear hcz51_0
              try clear hcz51_1
              try clear hcz51_2
              try clear hcz51_3
              try clear hcz53_0
              try clear hcz53_1
              try clear hcz53_2
              try clear hcz53_3
              try clear hcz62_0
              try clear hcz62_1
              try clear hcz62_2
              try clear hcz62_3
              try clear hcz62_4
              try clear hcz62_5
              try clear hcz69_0
              try clear hcz69_1
              try clear hcz69_2
              try clear hcz69_3
              try clear hcz71_0
              try clear hcz71_1
              try clear hcz71_2
              try clear hcz71_3
              try clear hcz71_4
              try clear hcz71_5
              try clear hcz73_0
              try clear hcz73_1
              try clear hcz73_2
              try clear hcz73_3
              try clear hcz73_4
              try clear hcz73_5
              try clear hcz74_0
              try clear hcz74_1
              try clear hcz74_2
              try clear hcz74_3
              try clear hcz77_0
              try clear hcz77_1
              try clear hcz77_2
              try clear hcz77_3
              try clear hcz79_0
              try clear hcz79_1
              try clear hcz79_2
              try clear hcz79_3
              try clear hcz79_4
              try clear hcz79_5
              try clear hcz81_0
              try clear hcz81_1
              try clear hcz81_2
              try clear hcz81_3
              try clear hcz81_4
              try clear hcz81_5
              try clear hcz82_0
              try clear hcz82_1
              try clear hcz82_2
              try clear hcz82_3
              try clear hcz85_0
              try clear hcz85_1
              try clear hcz85_2
              try clear hcz85_3
              try clear hcz87_0
              try clear hcz87_1
              try clear hcz87_2
              try clear hcz87_3
              try clear hcz87_4
              try clear hcz87_5
              try clear hfz10_0
              try clear hfz10_1
              try clear hfz10_2
              try clear hfz10_3
              try clear hfz10_4
              try clear hfz10_5
              try clear hfz12_0
              try clear hfz12_1
              try clear hfz12_2
              try clear hfz12_3
              try clear hfz14_0
              try clear hfz14_1
              try clear hfz14_2
              try clear hfz14_3
              try clear hfz23_0
              try clear hfz23_1
              try clear hfz23_2
              try clear hfz23_3
              try clear hfz23_4
              try clear hfz23_5
              try clear hfz25_0
              try clear hfz25_1
              try clear hfz25_2
              try clear hfz25_3
              try clear hfz27_0
              try clear hfz27_1
              try clear hfz27_2
              try clear hfz27_3
              try clear hfz36_0
              try clear hfz36_1
              try clear hfz36_2
              try clear hfz36_3
              try clear hfz36_4
              try clear hfz36_5
              try clear hfz38_0
              try clear hfz38_1
              try clear hfz38_2
              try clear hfz38_3
              try clear hfz40_0
              try clear hfz40_1
              try clear hfz40_2
              try clear hfz40_3
              try clear hfz49_0
              try clear hfz49_1
              try clear hfz49_2
              try clear hfz49_3
              try clear hfz49_4
              try clear hfz49_5
              try clear hfz51_0
              try clear hfz51_1
              try clear hfz51_2
              try clear hfz51_3
              try clear hfz53_0
              try clear hfz53_1
              try clear hfz53_2
              try clear hfz53_3
              try clear hfz62_0
              try clear hfz62_1
              try clear hfz62_2
              try clear hfz62_3
              try clear hfz62_4
              try clear hfz62_5
              try clear hfz69_0
              try clear hfz69_1
              try clear hfz69_2
              try clear hfz69_3
              try clear hfz71_0
              try clear hfz71_1
              try clear hfz71_2
              try clear hfz71_3
              try clear hfz71_4
              try clear hfz71_5
              try clear hfz73_0
              try clear hfz73_1
              try clear hfz73_2
              try clear hfz73_3
              try clear hfz73_4
              try clear hfz73_5
              try clear hfz74_0
              try clear hfz74_1
              try clear hfz74_2
              try clear hfz74_3
              try clear hfz77_0
              try clear hfz77_1
              try clear hfz77_2
              try clear hfz77_3
              try clear hfz79_0
              try clear hfz79_1
              try clear hfz79_2
              try clear hfz79_3
              try clear hfz79_4
              try clear hfz79_5
              try clear hfz81_0
              try clear hfz81_1
              try clear hfz81_2
              try clear hfz81_3
              try clear hfz81_4
              try clear hfz81_5
              try clear hfz82_0
              try clear hfz82_1
              try clear hfz82_2
              try clear hfz82_3
              try clear hfz85_0
              try clear hfz85_1
              try clear hfz85_2
              try clear hfz85_3
              try clear hfz87_0
              try clear hfz87_1
              try clear hfz87_2
              try clear hfz87_3
              try clear hfz87_4
              try clear hfz87_5
              obtain ⟨kq, x49_55, rfl, HA, HJ55, BK42001, BK42002, BK42003, HB⟩ := hcut
              cases kq with
              | zero => exact absurd HA.out (by simp [spec_doStep.j0])
              | succ kj55 =>
                have H := HA.out
                clear HA
                simp only [spec_doStep.j0] at H
                by_cases c89 : x49_55 = true
                · subst c89
                  have H1 : (some (0, 0, 0, ([] : List Int), false)) = some (r1, r2, r3, r4, r5) := by rw [if_pos rfl] at H; exact H
                  clear H
                  have H := H1
                  clear H1
                  simp only [Option.some.injEq, Prod.mk.injEq] at H
                  obtain ⟨rfl, rfl, rfl, rfl, rfl⟩ := H
                  have hnb90 := NB42003_42001.out
                  have hnc90 := NB42001_42003.out
                  have hnb91 := NB42003_42002.out
                  have hnc91 := NB42002_42003.out
                  have hcz92_0 : wc.cell? ⟨gb42003, 0, none⟩ = some (.int .i64 0) := (blk_cell BK42003.out 0).trans rfl
                  have hcz92_1 : wc.cell? ⟨gb42003, 1, none⟩ = some (.int .i64 0) := (blk_cell BK42003.out 1).trans rfl
                  have hcz92_2 : wc.cell? ⟨gb42003, 2, none⟩ = some (.int .i64 0) := (blk_cell BK42003.out 2).trans rfl
                  have hcz92_3 : wc.cell? ⟨gb42003, 3, none⟩ = some (.slice none 0 0) := (blk_cell BK42003.out 3).trans rfl
                  have hfz92_0 := blk_frozen BK42003.out 0
                  have hfz92_1 := blk_frozen BK42003.out 1
                  have hfz92_2 := blk_frozen BK42003.out 2
                  have hfz92_3 := blk_frozen BK42003.out 3
                  go_wp2
                  refine bodyPost_ret (results_ct rfl _ _ gb42003 28 #[.int .i64 0, .int .i64 0, .int .i64 0, .slice none 0 0] (0, 0) _ rfl (by refine blk_put (cs := #[.int .i64 0, .int .i64 0, .int .i64 0, .slice none 0 0]) ?_ 3 _ rfl; (with_reducible repeat (first | refine blk_drewN ?_ _ | refine blk_drew ?_ | refine blk_alloc ?_ _)); refine blk_put (cs := #[.int .i64 0, .int .i64 0, .int .i64 0, .slice none 0 0]) ?_ 2 _ rfl; (with_reducible repeat (first | refine blk_drewN ?_ _ | refine blk_drew ?_ | refine blk_alloc ?_ _)); refine blk_put (cs := #[.int .i64 0, .int .i64 0, .int .i64 0, .slice none 0 0]) ?_ 1 _ rfl; (with_reducible repeat (first | refine blk_drewN ?_ _ | refine blk_drew ?_ | refine blk_alloc ?_ _)); refine blk_put (cs := #[.int .i64 0, .int .i64 0, .int .i64 0, .slice none 0 0]) ?_ 0 _ rfl; (with_reducible repeat (first | refine blk_drewN ?_ _ | refine blk_drew ?_ | refine blk_alloc ?_ _)); exact BK42003.out) Try.underlying28 rfl (by kernel_rfl)) rfl ?_
                  exact ⟨_, by rfl, by exact Kd.R_nil _ _ _ _ _, by repeat (with_reducible first | exact HB.out | refine below_set ?_ GE42003.out)⟩
                · replace c89 := Bool.eq_false_iff.mpr c89
                  subst c89
                  have H1 : ((spec_copyImage.f a0_0 a0_1 a0_2 l0_3).bind fun bt42031 => ((spec_FillImage.f kj55 a1_3 a1_4 l1_5).bind fun bt42038 => ((spec_paste.f kj55 bt42031.1 bt42031.2.1 bt42031.2.2.1 bt42031.2.2.2 a1_1 a1_2 bt42038.1 bt42038.2.1 bt42038.2.2.1 bt42038.2.2.2).bind fun t42044 => (some (bt42031.1, bt42031.2.1, bt42031.2.2.1, t42044, true))))) = some (r1, r2, r3, r4, r5) := by rw [if_neg (show ¬ (false = true) by decide)] at H; exact H
                  clear H
                  have H := H1
                  clear H1
                  replace H := Option.bind_eq_some_iff.mp H
                  obtain ⟨⟨t42031, t42032, t42033, t42034⟩, A930, H⟩ := H
                  replace H : ((spec_FillImage.f kj55 a1_3 a1_4 l1_5).bind fun bt42038 => ((spec_paste.f kj55 t42031 t42032 t42033 t42034 a1_1 a1_2 bt42038.1 bt42038.2.1 bt42038.2.2.1 bt42038.2.2.2).bind fun t42044 => (some (t42031, t42032, t42033, t42044, true)))) = some (r1, r2, r3, r4, r5) := H
                  have A93 := Aside0.mk A930
                  clear A930
                  replace H := Option.bind_eq_some_iff.mp H
                  obtain ⟨⟨t42038, t42039, t42040, t42041⟩, A940, H⟩ := H
                  replace H : ((spec_paste.f kj55 t42031 t42032 t42033 t42034 a1_1 a1_2 t42038 t42039 t42040 t42041).bind fun t42044 => (some (t42031, t42032, t42033, t42044, true))) = some (r1, r2, r3, r4, r5) := H
                  have A94 := Aside0.mk A940
                  clear A940
                  replace H := Option.bind_eq_some_iff.mp H
                  obtain ⟨t42044, A950, H⟩ := H
                  replace H : (some (t42031, t42032, t42033, t42044, true)) = some (r1, r2, r3, r4, r5) := H
                  have A95 := Aside0.mk A950
                  clear A950
                  simp only [Option.some.injEq, Prod.mk.injEq] at H
                  obtain ⟨rfl, rfl, rfl, rfl, rfl⟩ := H
                  have hnb96 := NB42001_42002.out
                  have hnc96 := NB42002_42001.out
                  have hnb97 := NB42001_42003.out
                  have hnc97 := NB42003_42001.out
                  have hcz98_0 : wc.cell? ⟨gb42001, 0, none⟩ = some (.int .i64 a0_0) := (blk_cell BK42001.out 0).trans rfl
                  have hcz98_1 : wc.cell? ⟨gb42001, 1, none⟩ = some (.int .i64 a0_1) := (blk_cell BK42001.out 1).trans rfl
                  have hcz98_2 : wc.cell? ⟨gb42001, 2, none⟩ = some (.int .i64 a0_2) := (blk_cell BK42001.out 2).trans rfl
                  have hcz98_3 : wc.cell? ⟨gb42001, 3, none⟩ = some (.slice A0_3 l0_3.length c0_3) := (blk_cell BK42001.out 3).trans rfl
                  have hfz98_0 := blk_frozen BK42001.out 0
                  have hfz98_1 := blk_frozen BK42001.out 1
                  have hfz98_2 := blk_frozen BK42001.out 2
                  have hfz98_3 := blk_frozen BK42001.out 3
                  try go_wp2_with (first | ((with_reducible refine gate_callee (f := 40) rfl ?_); refine goesL_ (some 52) rfl rfl Try.func40 (by kernel_rfl) rfl #[.agg #[.int .i64 a0_0, .int .i64 a0_1, .int .i64 a0_2, .slice A0_3 l0_3.length c0_3]] rfl (by (try simp only [List.map_toArray, List.map_cons, List.map_nil]); rfl) ?_; (with_reducible refine (spec_copyImage.calls a0_0 a0_1 a0_2 _ _ l0_3 t42031 t42032 t42033 t42034 _ ?side1 ?side2 A93.out).mono ?_); (case side1 => repeat (exact (Kd.C_below HR0_3.out HB.out))); (case side2 => exact HC0_3.out); rintro e w99 ⟨v42035, rfl, ho0, hb⟩; refine ⟨_, rfl, ?_⟩; have n0_ := Aside0.mk (Kd.R_lower ho0 (below_size HB.out)); have n1_ := Aside0.mk (blk_below BK42001.out hb); have n2_ := Aside0.mk (blk_below BK42002.out hb); have n3_ := Aside0.mk (blk_below BK42003.out hb); have n4_ := Aside0.mk (below_step HB.out hb); clear BK42001; clear BK42002; clear BK42003; clear HB; have HO42036 := n0_; have BK42001 := n1_; have BK42002 := n2_; have BK42003 := n3_; have HB := n4_; clear n0_ n1_ n2_ n3_ n4_; (try clear hb); (try clear ho0)) | ((with_reducible refine gate_dst (N := 6) rfl ?_); (try (refine gate_guard (by rfl) ?_; dsimp only)); refine box_event ?hg (N := 6) ?hd (cs := #[.int .i64 0, .int .i64 0, .int .i64 0, .slice none 0 0]) (t := 28) ?hr ?_; (case hd => rfl); (case hg => rfl); (case hr => (go_simp; done)); intro gb42037 hg w100 hbox hb; have n0_ := Aside0.mk (Kd.R_below HO42036.out hb); have n1_ := Aside0.mk (blk_below BK42001.out hb); have n2_ := Aside0.mk (blk_below BK42002.out hb); have n3_ := Aside0.mk (blk_below BK42003.out hb); have n4_ := Aside0.mk (below_step HB.out hb); have n5_ := Aside0.mk (hbox); have n6_ := Aside0.mk ((by rw [hg]; exact (below_size HB.out) : w.heap.size ≤ gb42037)); have n7_ := Aside0.mk ((by rw [hg]; exact (below_size HB.out) : w.heap.size ≤ gb42037)); have n8_ := Aside0.mk ((by rw [hg]; exact Nat.ne_of_lt (blk_lt BK42001.out) : gb42001 ≠ gb42037)); have n9_ := Aside0.mk ((by rw [hg]; exact Nat.ne_of_gt (blk_lt BK42001.out) : gb42037 ≠ gb42001)); have n10_ := Aside0.mk ((by rw [hg]; exact Nat.ne_of_lt (blk_lt BK42002.out) : gb42002 ≠ gb42037)); have n11_ := Aside0.mk ((by rw [hg]; exact Nat.ne_of_gt (blk_lt BK42002.out) : gb42037 ≠ gb42002)); have n12_ := Aside0.mk ((by rw [hg]; exact Nat.ne_of_lt (blk_lt BK42003.out) : gb42003 ≠ gb42037)); have n13_ := Aside0.mk ((by rw [hg]; exact Nat.ne_of_gt (blk_lt BK42003.out) : gb42037 ≠ gb42003)); clear HO42036; clear BK42001; clear BK42002; clear BK42003; clear HB; have HO42036 := n0_; have BK42001 := n1_; have BK42002 := n2_; have BK42003 := n3_; have HB := n4_; have BK42037 := n5_; have GW42037 := n6_; have GE42037 := n7_; have NB42001_42037 := n8_; have NB42037_42001 := n9_; have NB42002_42037 := n10_; have NB42037_42002 := n11_; have NB42003_42037 := n12_; have NB42037_42003 := n13_; clear n0_ n1_ n2_ n3_ n4_ n5_ n6_ n7_ n8_ n9_ n10_ n11_ n12_ n13_; clear hb hbox hg; have hnb101 := NB42037_42001.out; have hnc101 := NB42001_42037.out; have hnb102 := NB42037_42002.out; have hnc102 := NB42002_42037.out; have hnb103 := NB42037_42003.out; have hnc103 := NB42003_42037.out; have hcz104_0 : w100.cell? ⟨gb42037, 0, none⟩ = some (.int .i64 0) := (blk_cell BK42037.out 0).trans rfl; have hcz104_1 : w100.cell? ⟨gb42037, 1, none⟩ = some (.int .i64 0) := (blk_cell BK42037.out 1).trans rfl; have hcz104_2 : w100.cell? ⟨gb42037, 2, none⟩ = some (.int .i64 0) := (blk_cell BK42037.out 2).trans rfl; have hcz104_3 : w100.cell? ⟨gb42037, 3, none⟩ = some (.slice none 0 0) := (blk_cell BK42037.out 3).trans rfl; have hfz104_0 := blk_frozen BK42037.out 0; have hfz104_1 := blk_frozen BK42037.out 1; have hfz104_2 := blk_frozen BK42037.out 2; have hfz104_3 := blk_frozen BK42037.out 3; obtain ⟨Ao105, co105, eo105⟩ := Kd.R_slice HO42036.out; subst eo105))
                  have n0_ : Aside0 (Kd.R (Kd.int .i64) 3 ((((w100.setCell ⟨gb42037, 0, none⟩ (.int .i64 t42031)).setCell ⟨gb42037, 1, none⟩ (.int .i64 t42032)).setCell ⟨gb42037, 2, none⟩ (.int .i64 t42033)).setCell ⟨gb42037, 3, none⟩ (.slice Ao105 t42034.length co105)) w.heap.size (fun _ => True) (.slice Ao105 t42034.length co105) t42034) := ⟨by (with_reducible repeat (first | apply Kd.R_alloc | apply Kd.R_drewN | apply Kd.R_drew)); exact Kd.R_mono (Kd.R_far (p := ⟨gb42037, 3, none⟩) (Kd.R_far (p := ⟨gb42037, 2, none⟩) (Kd.R_far (p := ⟨gb42037, 1, none⟩) (Kd.R_far (p := ⟨gb42037, 0, none⟩) (Kd.R_types HO42036.out BK42037.out (by decide)) (fun _ hk => hk.2) (.int .i64 t42031)) (fun _ hk => hk.2) (.int .i64 t42032)) (fun _ hk => hk.2) (.int .i64 t42033)) (fun _ hk => hk.2) (.slice Ao105 t42034.length co105)) (fun _ hk => trivial)⟩
                  have n1_ : Aside0 (((((w100.setCell ⟨gb42037, 0, none⟩ (.int .i64 t42031)).setCell ⟨gb42037, 1, none⟩ (.int .i64 t42032)).setCell ⟨gb42037, 2, none⟩ (.int .i64 t42033)).setCell ⟨gb42037, 3, none⟩ (.slice Ao105 t42034.length co105)).heap[gb42001]? = some (.cells #[.int .i64 a0_0, .int .i64 a0_1, .int .i64 a0_2, .slice A0_3 l0_3.length c0_3] 28 (0, 0))) := ⟨by (with_reducible repeat (first | refine blk_drewN ?_ _ | refine blk_drew ?_ | refine blk_alloc ?_ _)); refine blk_far ?_ NB42001_42037.out _; (with_reducible repeat (first | refine blk_drewN ?_ _ | refine blk_drew ?_ | refine blk_alloc ?_ _)); refine blk_far ?_ NB42001_42037.out _; (with_reducible repeat (first | refine blk_drewN ?_ _ | refine blk_drew ?_ | refine blk_alloc ?_ _)); refine blk_far ?_ NB42001_42037.out _; (with_reducible repeat (first | refine blk_drewN ?_ _ | refine blk_drew ?_ | refine blk_alloc ?_ _)); refine blk_far ?_ NB42001_42037.out _; (with_reducible repeat (first | refine blk_drewN ?_ _ | refine blk_drew ?_ | refine blk_alloc ?_ _)); exact BK42001.out⟩
                  have n2_ : Aside0 (((((w100.setCell ⟨gb42037, 0, none⟩ (.int .i64 t42031)).setCell ⟨gb42037, 1, none⟩ (.int .i64 t42032)).setCell ⟨gb42037, 2, none⟩ (.int .i64 t42033)).setCell ⟨gb42037, 3, none⟩ (.slice Ao105 t42034.length co105)).heap[gb42002]? = some (.cells #[.int .i64 a1_0, .int .i64 a1_1, .int .i64 a1_2, .int .i64 a1_3, .int .i64 a1_4, .slice A1_5 l1_5.length c1_5] 43 (0, 0))) := ⟨by (with_reducible repeat (first | refine blk_drewN ?_ _ | refine blk_drew ?_ | refine blk_alloc ?_ _)); refine blk_far ?_ NB42002_42037.out _; (with_reducible repeat (first | refine blk_drewN ?_ _ | refine blk_drew ?_ | refine blk_alloc ?_ _)); refine blk_far ?_ NB42002_42037.out _; (with_reducible repeat (first | refine blk_drewN ?_ _ | refine blk_drew ?_ | refine blk_alloc ?_ _)); refine blk_far ?_ NB42002_42037.out _; (with_reducible repeat (first | refine blk_drewN ?_ _ | refine blk_drew ?_ | refine blk_alloc ?_ _)); refine blk_far ?_ NB42002_42037.out _; (with_reducible repeat (first | refine blk_drewN ?_ _ | refine blk_drew ?_ | refine blk_alloc ?_ _)); exact BK42002.out⟩
                  have n3_ : Aside0 (((((w100.setCell ⟨gb42037, 0, none⟩ (.int .i64 t42031)).setCell ⟨gb42037, 1, none⟩ (.int .i64 t42032)).setCell ⟨gb42037, 2, none⟩ (.int .i64 t42033)).setCell ⟨gb42037, 3, none⟩ (.slice Ao105 t42034.length co105)).heap[gb42003]? = some (.cells #[.int .i64 0, .int .i64 0, .int .i64 0, .slice none 0 0] 28 (0, 0))) := ⟨by (with_reducible repeat (first | refine blk_drewN ?_ _ | refine blk_drew ?_ | refine blk_alloc ?_ _)); refine blk_far ?_ NB42003_42037.out _; (with_reducible repeat (first | refine blk_drewN ?_ _ | refine blk_drew ?_ | refine blk_alloc ?_ _)); refine blk_far ?_ NB42003_42037.out _; (with_reducible repeat (first | refine blk_drewN ?_ _ | refine blk_drew ?_ | refine blk_alloc ?_ _)); refine blk_far ?_ NB42003_42037.out _; (with_reducible repeat (first | refine blk_drewN ?_ _ | refine blk_drew ?_ | refine blk_alloc ?_ _)); refine blk_far ?_ NB42003_42037.out _; (with_reducible repeat (first | refine blk_drewN ?_ _ | refine blk_drew ?_ | refine blk_alloc ?_ _)); exact BK42003.out⟩
                  have n4_ : Aside0 (((((w100.setCell ⟨gb42037, 0, none⟩ (.int .i64 t42031)).setCell ⟨gb42037, 1, none⟩ (.int .i64 t42032)).setCell ⟨gb42037, 2, none⟩ (.int .i64 t42033)).setCell ⟨gb42037, 3, none⟩ (.slice Ao105 t42034.length co105)).heap[gb42037]? = some (.cells #[.int .i64 t42031, .int .i64 t42032, .int .i64 t42033, .slice Ao105 t42034.length co105] 28 (0, 0))) := ⟨by (with_reducible repeat (first | refine blk_drewN ?_ _ | refine blk_drew ?_ | refine blk_alloc ?_ _)); refine blk_put (cs := #[.int .i64 t42031, .int .i64 t42032, .int .i64 t42033, .slice none 0 0]) ?_ 3 _ rfl; (with_reducible repeat (first | refine blk_drewN ?_ _ | refine blk_drew ?_ | refine blk_alloc ?_ _)); refine blk_put (cs := #[.int .i64 t42031, .int .i64 t42032, .int .i64 0, .slice none 0 0]) ?_ 2 _ rfl; (with_reducible repeat (first | refine blk_drewN ?_ _ | refine blk_drew ?_ | refine blk_alloc ?_ _)); refine blk_put (cs := #[.int .i64 t42031, .int .i64 0, .int .i64 0, .slice none 0 0]) ?_ 1 _ rfl; (with_reducible repeat (first | refine blk_drewN ?_ _ | refine blk_drew ?_ | refine blk_alloc ?_ _)); refine blk_put (cs := #[.int .i64 0, .int .i64 0, .int .i64 0, .slice none 0 0]) ?_ 0 _ rfl; (with_reducible repeat (first | refine blk_drewN ?_ _ | refine blk_drew ?_ | refine blk_alloc ?_ _)); exact BK42037.out⟩
                  have n5_ : Aside0 (Below w.heap.size w ((((w100.setCell ⟨gb42037, 0, none⟩ (.int .i64 t42031)).setCell ⟨gb42037, 1, none⟩ (.int .i64 t42032)).setCell ⟨gb42037, 2, none⟩ (.int .i64 t42033)).setCell ⟨gb42037, 3, none⟩ (.slice Ao105 t42034.length co105))) := ⟨by repeat (with_reducible first | exact HB.out | refine below_set ?_ GE42037.out)⟩
                  (try clear HO42036)
                  (try clear BK42001)
                  (try clear BK42002)
                  (try clear BK42003)
                  (try clear BK42037)
                  (try clear HB)
                  generalize ((((w100.setCell ⟨gb42037, 0, none⟩ (.int .i64 t42031)).setCell ⟨gb42037, 1, none⟩ (.int .i64 t42032)).setCell ⟨gb42037, 2, none⟩ (.int .i64 t42033)).setCell ⟨gb42037, 3, none⟩ (.slice Ao105 t42034.length co105)) = w106 at n0_ n1_ n2_ n3_ n4_ n5_ ⊢
                  revert n0_ n1_ n2_ n3_ n4_ n5_; intro HO42036 BK42001 BK42002 BK42003 BK42037 HB
                  have n0_ := Aside0.mk (Kd.R_drew HO42036.out)
                  have n1_ := Aside0.mk (blk_drew BK42001.out)
                  have n2_ := Aside0.mk (blk_drew BK42002.out)
                  have n3_ := Aside0.mk (blk_drew BK42003.out)
                  have n4_ := Aside0.mk (blk_drew BK42037.out)
                  have n5_ := Aside0.mk (below_drew1 HB.out)
                  clear HO42036 BK42001 BK42002 BK42003 BK42037 HB
                  revert n0_ n1_ n2_ n3_ n4_ n5_; intro HO42036 BK42001 BK42002 BK42003 BK42037 HB
                  refine start_ (n := 17) (S := fun w' => w'.cell? ⟨gb42037, 0, none⟩ = some (.int .i64 t42031) ∧ w'.cell? ⟨gb42037, 1, none⟩ = some (.int .i64 t42032) ∧ w'.cell? ⟨gb42037, 2, none⟩ = some (.int .i64 t42033) ∧ w'.cell? ⟨gb42037, 3, none⟩ = some (.slice Ao105 t42034.length co105) ∧ w'.cell? ⟨gb42002, 0, none⟩ = some (.int .i64 a1_0) ∧ w'.cell? ⟨gb42002, 1, none⟩ = some (.int .i64 a1_1) ∧ w'.cell? ⟨gb42002, 2, none⟩ = some (.int .i64 a1_2) ∧ w'.cell? ⟨gb42002, 3, none⟩ = some (.int .i64 a1_3) ∧ w'.cell? ⟨gb42002, 4, none⟩ = some (.int .i64 a1_4) ∧ w'.cell? ⟨gb42002, 5, none⟩ = some (.slice A1_5 l1_5.length c1_5)) (ds := []) #[false, false, false, false, false, false, false, false, false, false, false, false, false, false, false, false, false] (by kernel_rfl) rfl rfl ⟨(blk_cell BK42037.out 0).trans rfl, (blk_cell BK42037.out 1).trans rfl, (blk_cell BK42037.out 2).trans rfl, (blk_cell BK42037.out 3).trans rfl, (blk_cell BK42002.out 0).trans rfl, (blk_cell BK42002.out 1).trans rfl, (blk_cell BK42002.out 2).trans rfl, (blk_cell BK42002.out 3).trans rfl, (blk_cell BK42002.out 4).trans rfl, (blk_cell BK42002.out 5).trans rfl⟩ (fun hHeld => ?_); refine with_tabW spec_doStep.tab14 spec_doStep.bits14 (fun HT_ HW_ => ?_)
                  generalize w106.drew = w107 at HO42036 BK42001 BK42002 BK42003 BK42037 HB hHeld ⊢
                  refine pure_ (i := 1) (N := some 54) (v := ?_) (a' := ?_) #[false, true, false, false, false, false, false, false, false, false, false, false, false, false, false, false, false] rfl rfl (any_of HT_.out (by kernel_rfl)) (fun _ _ _ h => h) (Or.inl ⟨by rfl, ?_⟩) ?_ ?_
                  rotate_left
                  · intro w'
                    go_simp
                    with_reducible rfl
                  rotate_left
                  · simp only [Act.put, List.setIfInBounds_toArray, List.set_cons_zero, List.set_cons_succ, i64_w, i32_w]
                    rfl
                  refine pure_ (i := 2) (N := some 55) (v := ?_) (a' := ?_) #[false, true, true, false, false, false, false, false, false, false, false, false, false, false, false, false, false] rfl rfl (any_of HT_.out (by kernel_rfl)) (fun _ _ _ h => h) (Or.inl ⟨by rfl, ?_⟩) ?_ ?_
                  rotate_left
                  · intro w'
                    go_simp
                    with_reducible rfl
                  rotate_left
                  · simp only [Act.put, List.setIfInBounds_toArray, List.set_cons_zero, List.set_cons_succ, i64_w, i32_w]
                    rfl
                  refine pure_ (i := 4) (N := some 57) (v := ?_) (a' := ?_) #[false, true, true, false, true, false, false, false, false, false, false, false, false, false, false, false, false] rfl rfl (any_of HT_.out (by kernel_rfl)) (fun _ _ _ h => h) (Or.inl ⟨by rfl, ?_⟩) ?_ ?_
                  rotate_left
                  · intro w'
                    go_simp
                    with_reducible rfl
                  rotate_left
                  · simp only [Act.put, List.setIfInBounds_toArray, List.set_cons_zero, List.set_cons_succ, i64_w, i32_w]
                    rfl
                  refine pure_ (i := 5) (N := some 58) (v := ?_) (a' := ?_) #[false, true, true, false, true, true, false, false, false, false, false, false, false, false, false, false, false] rfl rfl (any_of HT_.out (by kernel_rfl)) (fun _ _ _ h => h) (Or.inl ⟨by rfl, ?_⟩) ?_ ?_
                  rotate_left
                  · intro w'
                    go_simp
                    with_reducible rfl
                  rotate_left
                  · simp only [Act.put, List.setIfInBounds_toArray, List.set_cons_zero, List.set_cons_succ, i64_w, i32_w]
                    rfl
                  refine pure_ (i := 7) (N := some 60) (v := ?_) (a' := ?_) #[false, true, true, false, true, true, false, true, false, false, false, false, false, false, false, false, false] rfl rfl (any_of HT_.out (by kernel_rfl)) (fun _ _ _ h => h) (Or.inl ⟨by rfl, ?_⟩) ?_ ?_
                  rotate_left
                  · intro w'
                    go_simp
                    with_reducible rfl
                  rotate_left
                  · simp only [Act.put, List.setIfInBounds_toArray, List.set_cons_zero, List.set_cons_succ, i64_w, i32_w]
                    rfl
                  refine pure_ (i := 8) (N := some 61) (v := ?_) (a' := ?_) #[false, true, true, false, true, true, false, true, true, false, false, false, false, false, false, false, false] rfl rfl (any_of HT_.out (by kernel_rfl)) (fun _ _ _ h => h) (Or.inl ⟨by rfl, ?_⟩) ?_ ?_
                  rotate_left
                  · intro w'
                    go_simp
                    with_reducible rfl
                  rotate_left
                  · simp only [Act.put, List.setIfInBounds_toArray, List.set_cons_zero, List.set_cons_succ, i64_w, i32_w]
                    rfl
                  refine pure_ (i := 10) (N := some 63) (v := ?_) (a' := ?_) #[false, true, true, false, true, true, false, true, true, false, true, false, false, false, false, false, false] rfl rfl (any_of HT_.out (by kernel_rfl)) (fun _ _ _ h => h) (Or.inl ⟨by rfl, ?_⟩) ?_ ?_
                  rotate_left
                  · intro w'
                    go_simp
                    with_reducible rfl
                  rotate_left
                  · simp only [Act.put, List.setIfInBounds_toArray, List.set_cons_zero, List.set_cons_succ, i64_w, i32_w]
                    rfl
                  refine pure_ (i := 11) (N := some 64) (v := ?_) (a' := ?_) #[false, true, true, false, true, true, false, true, true, false, true, true, false, false, false, false, false] rfl rfl (any_of HT_.out (by kernel_rfl)) (fun _ _ _ h => h) (Or.inl ⟨by rfl, ?_⟩) ?_ ?_
                  rotate_left
                  · intro w'
                    go_simp
                    with_reducible rfl
                  rotate_left
                  · simp only [Act.put, List.setIfInBounds_toArray, List.set_cons_zero, List.set_cons_succ, i64_w, i32_w]
                    rfl
                  refine pure_ (i := 13) (N := some 66) (v := ?_) (a' := ?_) #[false, true, true, false, true, true, false, true, true, false, true, true, false, true, false, false, false] rfl rfl (any_of HT_.out (by kernel_rfl)) (fun _ _ _ h => h) (Or.inl ⟨by rfl, ?_⟩) ?_ ?_
                  rotate_left
                  · intro w'
                    go_simp
                    with_reducible rfl
                  rotate_left
                  · simp only [Act.put, List.setIfInBounds_toArray, List.set_cons_zero, List.set_cons_succ, i64_w, i32_w]
                    rfl
                  refine take_ (i := 0) (N := some 53) (v := ?_) (a' := ?_) #[true, true, true, false, true, true, false, true, true, false, true, true, false, true, false, false, false] rfl rfl (take_ofW HT_.out HW_.out (by kernel_rfl)) (fun _ _ _ h => h) (Or.inl ⟨by rfl, ?_⟩) hHeld ?_ ?_
                  rotate_left
                  · rintro w' ⟨s0, s1, s2, s3, s4, s5, s6, s7, s8, s9⟩
                    go_simp
                    with_reducible rfl
                  rotate_left
                  · simp only [Act.put, List.setIfInBounds_toArray, List.set_cons_zero, List.set_cons_succ, i64_w, i32_w]
                    rfl
                  refine take_ (i := 3) (N := some 56) (v := ?_) (a' := ?_) #[true, true, true, true, true, true, false, true, true, false, true, true, false, true, false, false, false] rfl rfl (take_ofW HT_.out HW_.out (by kernel_rfl)) (fun _ _ _ h => h) (Or.inl ⟨by rfl, ?_⟩) hHeld ?_ ?_
                  rotate_left
                  · rintro w' ⟨s0, s1, s2, s3, s4, s5, s6, s7, s8, s9⟩
                    go_simp
                    with_reducible rfl
                  rotate_left
                  · simp only [Act.put, List.setIfInBounds_toArray, List.set_cons_zero, List.set_cons_succ, i64_w, i32_w]
                    rfl
                  refine take_ (i := 6) (N := some 59) (v := ?_) (a' := ?_) #[true, true, true, true, true, true, true, true, true, false, true, true, false, true, false, false, false] rfl rfl (take_ofW HT_.out HW_.out (by kernel_rfl)) (fun _ _ _ h => h) (Or.inl ⟨by rfl, ?_⟩) hHeld ?_ ?_
                  rotate_left
                  · rintro w' ⟨s0, s1, s2, s3, s4, s5, s6, s7, s8, s9⟩
                    go_simp
                    with_reducible rfl
                  rotate_left
                  · simp only [Act.put, List.setIfInBounds_toArray, List.set_cons_zero, List.set_cons_succ, i64_w, i32_w]
                    rfl
                  refine take_ (i := 9) (N := some 62) (v := ?_) (a' := ?_) #[true, true, true, true, true, true, true, true, true, true, true, true, false, true, false, false, false] rfl rfl (take_ofW HT_.out HW_.out (by kernel_rfl)) (fun _ _ _ h => h) (Or.inl ⟨by rfl, ?_⟩) hHeld ?_ ?_
                  rotate_left
                  · rintro w' ⟨s0, s1, s2, s3, s4, s5, s6, s7, s8, s9⟩
                    go_simp
                    with_reducible rfl
                  rotate_left
                  · simp only [Act.put, List.setIfInBounds_toArray, List.set_cons_zero, List.set_cons_succ, i64_w, i32_w]
                    rfl
                  refine take_ (i := 12) (N := some 65) (v := ?_) (a' := ?_) #[true, true, true, true, true, true, true, true, true, true, true, true, true, true, false, false, false] rfl rfl (take_ofW HT_.out HW_.out (by kernel_rfl)) (fun _ _ _ h => h) (Or.inl ⟨by rfl, ?_⟩) hHeld ?_ ?_
                  rotate_left
                  · rintro w' ⟨s0, s1, s2, s3, s4, s5, s6, s7, s8, s9⟩
                    go_simp
                    with_reducible rfl
                  rotate_left
                  · simp only [Act.put, List.setIfInBounds_toArray, List.set_cons_zero, List.set_cons_succ, i64_w, i32_w]
                    rfl
                  refine take_ (i := 14) (N := some 67) (v := ?_) (a' := ?_) #[true, true, true, true, true, true, true, true, true, true, true, true, true, true, true, false, false] rfl rfl (take_ofW HT_.out HW_.out (by kernel_rfl)) (fun _ _ _ h => h) (Or.inl ⟨by rfl, ?_⟩) hHeld ?_ ?_
                  rotate_left
                  · rintro w' ⟨s0, s1, s2, s3, s4, s5, s6, s7, s8, s9⟩
                    go_simp
                    with_reducible rfl
                  rotate_left
                  · simp only [Act.put, List.setIfInBounds_toArray, List.set_cons_zero, List.set_cons_succ, i64_w, i32_w]
                    rfl
                  refine one_ (i := 15) (N := some 68) #[true, true, true, true, true, true, true, true, true, true, true, true, true, true, true, true, false] rfl rfl (one_of HT_.out (by kernel_rfl)) (by decide) (fun K hK => ?_)
                  refine goes_ Try.func78 (by kernel_rfl) rfl #[.int .i64 a1_3, .int .i64 a1_4, .slice A1_5 l1_5.length c1_5] (by rfl) rfl rfl (by (try simp only [List.map_toArray, List.map_cons, List.map_nil]); rfl) ?_
                  with_reducible refine (spec_FillImage.calls kj55 a1_3 a1_4 _ _ l1_5 t42038 t42039 t42040 t42041 _ ?side1 ?side2 A94.out).mono ?_
                  (case side1 => repeat (exact (Kd.C_below HR1_5.out HB.out)))
                  (case side2 => exact HC1_5.out)
                  rintro e w108 ⟨v42042, rfl, ho0, hb⟩
                  refine ⟨_, rfl, ?_⟩
                  have n0_ := Aside0.mk (Kd.R_elder' HO42036.out (Kd.R_base ho0) hb)
                  have n1_ := Aside0.mk (Kd.R_lower (Kd.R_new' ho0 (Kd.R_lt HO42036.out)) (below_size HB.out))
                  have n2_ := Aside0.mk (blk_below BK42001.out hb)
                  have n3_ := Aside0.mk (blk_below BK42002.out hb)
                  have n4_ := Aside0.mk (blk_below BK42003.out hb)
                  have n5_ := Aside0.mk (blk_below BK42037.out hb)
                  have n6_ := Aside0.mk (below_step HB.out hb)
                  clear HO42036 BK42001 BK42002 BK42003 BK42037 HB
                  revert n0_ n1_ n2_ n3_ n4_ n5_ n6_; intro HO42036 HO42043 BK42001 BK42002 BK42003 BK42037 HB
                  (try clear hb)
                  (try clear ho0)
                  obtain ⟨Ao109, co109, eo109⟩ := Kd.R_slice HO42043.out
                  (subst eo109)
                  refine hK.out _ _ ⟨(blk_cell BK42037.out 0).trans rfl, (blk_cell BK42037.out 1).trans rfl, (blk_cell BK42037.out 2).trans rfl, (blk_cell BK42037.out 3).trans rfl, (blk_cell BK42002.out 0).trans rfl, (blk_cell BK42002.out 1).trans rfl, (blk_cell BK42002.out 2).trans rfl, (blk_cell BK42002.out 3).trans rfl, (blk_cell BK42002.out 4).trans rfl, (blk_cell BK42002.out 5).trans rfl⟩ (fun hHeld => ?_)
                  clear hK K
                  refine norm_ (a' := ?_) ?_ ?_
                  rotate_left
                  · show Act.put _ (some 68) _ = _
                    simp only [Act.put, List.setIfInBounds_toArray, List.set_cons_zero, List.set_cons_succ, i64_w, i32_w]
                    rfl
                  refine one_ (i := 16) (N := some 69) #[true, true, true, true, true, true, true, true, true, true, true, true, true, true, true, true, true] rfl rfl (one_of HT_.out (by kernel_rfl)) (by decide) (fun K hK => ?_)
                  refine goes_ Try.func77 (by kernel_rfl) rfl #[.agg #[.int .i64 t42031, .int .i64 t42032, .int .i64 t42033, .slice Ao105 t42034.length co105], .int .i64 a1_1, .int .i64 a1_2, .agg #[.int .i64 t42038, .int .i64 t42039, .int .i64 t42040, .slice Ao109 t42041.length co109]] (by rfl) rfl rfl (by (try simp only [List.map_toArray, List.map_cons, List.map_nil]); rfl) ?_
                  with_reducible refine (spec_paste.calls kj55 t42031 t42032 t42033 (fun k_ => some k_ = (.slice Ao105 t42034.length co105 : Value).ownBlock) (.slice Ao105 t42034.length co105) t42034 a1_1 a1_2 t42038 t42039 t42040 _ _ t42041 t42044 w _ ?side1 ?side2 ?side3 ?side4 A95.out).mono ?_
                  (case side1 => repeat (with_reducible exact HB.out))
                  (case side2 => exact Kd.R_tight rfl HO42036.out)
                  (case side3 => exact Kd.C_kept_own HO42043.out (fun k_ hk_ hs_ => hk_.2 hs_))
                  (case side4 => exact (Kd.R_reads' HO42043.out).2.1)
                  rintro e w110 ⟨rfl, hy0, hb, hkp⟩
                  refine ⟨_, rfl, ?_⟩
                  have n0_ := Aside0.mk (blk_kept BK42001.out hkp (fun hs_ => (fun e_ => (Kd.R_ne HO42036.out BK42001.out (by decide)) e_) hs_))
                  have n1_ := Aside0.mk (blk_kept BK42002.out hkp (fun hs_ => (fun e_ => (Kd.R_ne HO42036.out BK42002.out (by decide)) e_) hs_))
                  have n2_ := Aside0.mk (blk_kept BK42003.out hkp (fun hs_ => (fun e_ => (Kd.R_ne HO42036.out BK42003.out (by decide)) e_) hs_))
                  have n3_ := Aside0.mk (Kd.R_reok rfl hy0 (fun k_ e_ => HO42036.out.1 k_ e_))
                  have n4_ := Aside0.mk (blk_kept BK42037.out hkp (fun hs_ => (fun e_ => (Kd.R_ne HO42036.out BK42037.out (by decide)) e_) hs_))
                  have n5_ := Aside0.mk (Kd.R_mono (ok' := fun k_ => some k_ ≠ (.slice Ao105 t42034.length co105 : Value).ownBlock) (Kd.R_keptB HO42043.out hkp (fun k_ hk_ hs_ => hk_.2 hs_)) (fun k_ hk_ => hk_.1.2))
                  have n6_ := Aside0.mk (hb)
                  clear BK42001 BK42002 BK42003 HO42036 BK42037 HO42043 HB
                  revert n0_ n1_ n2_ n3_ n4_ n5_ n6_; intro BK42001 BK42002 BK42003 HO42036 BK42037 HO42043 HB
                  (try clear hb)
                  (try clear hkp)
                  (try clear hy0)
                  refine hK.out _ _ ⟨(blk_cell BK42037.out 0).trans rfl, (blk_cell BK42037.out 1).trans rfl, (blk_cell BK42037.out 2).trans rfl, (blk_cell BK42037.out 3).trans rfl, (blk_cell BK42002.out 0).trans rfl, (blk_cell BK42002.out 1).trans rfl, (blk_cell BK42002.out 2).trans rfl, (blk_cell BK42002.out 3).trans rfl, (blk_cell BK42002.out 4).trans rfl, (blk_cell BK42002.out 5).trans rfl⟩ (fun hHeld => ?_)
                  clear hK K
                  refine norm_ (a' := ?_) ?_ ?_
                  rotate_left
                  · show Act.put _ (some 69) _ = _
                    simp only [Act.put, List.setIfInBounds_toArray, List.set_cons_zero, List.set_cons_succ, i64_w, i32_w]
                    rfl
                  refine done_ (done_of HT_.out (by kernel_rfl)) ?_
                  have hcz111_0 : w110.cell? ⟨gb42037, 0, none⟩ = some (.int .i64 t42031) := (blk_cell BK42037.out 0).trans rfl
                  have hcz111_1 : w110.cell? ⟨gb42037, 1, none⟩ = some (.int .i64 t42032) := (blk_cell BK42037.out 1).trans rfl
                  have hcz111_2 : w110.cell? ⟨gb42037, 2, none⟩ = some (.int .i64 t42033) := (blk_cell BK42037.out 2).trans rfl
                  have hcz111_3 : w110.cell? ⟨gb42037, 3, none⟩ = some (.slice Ao105 t42034.length co105) := (blk_cell BK42037.out 3).trans rfl
                  have hfz111_0 := blk_frozen BK42037.out 0
                  have hfz111_1 := blk_frozen BK42037.out 1
                  have hfz111_2 := blk_frozen BK42037.out 2
                  have hfz111_3 := blk_frozen BK42037.out 3
                  have hnb112 := NB42003_42002.out
                  have hnc112 := NB42002_42003.out
                  have hcz113_0 : w110.cell? ⟨gb42003, 0, none⟩ = some (.int .i64 0) := (blk_cell BK42003.out 0).trans rfl
                  have hcz113_1 : w110.cell? ⟨gb42003, 1, none⟩ = some (.int .i64 0) := (blk_cell BK42003.out 1).trans rfl
                  have hcz113_2 : w110.cell? ⟨gb42003, 2, none⟩ = some (.int .i64 0) := (blk_cell BK42003.out 2).trans rfl
                  have hcz113_3 : w110.cell? ⟨gb42003, 3, none⟩ = some (.slice none 0 0) := (blk_cell BK42003.out 3).trans rfl
                  have hfz113_0 := blk_frozen BK42003.out 0
                  have hfz113_1 := blk_frozen BK42003.out 1
                  have hfz113_2 := blk_frozen BK42003.out 2
                  have hfz113_3 := blk_frozen BK42003.out 3
                  try go_wp2
                  refine bodyPost_ret (results_ct rfl _ _ gb42003 28 #[.int .i64 t42031, .int .i64 t42032, .int .i64 t42033, .slice Ao105 t42034.length co105] (0, 0) _ rfl (by refine blk_put (cs := #[.int .i64 t42031, .int .i64 t42032, .int .i64 t42033, .slice none 0 0]) ?_ 3 _ rfl; (with_reducible repeat (first | refine blk_drewN ?_ _ | refine blk_drew ?_ | refine blk_alloc ?_ _)); refine blk_put (cs := #[.int .i64 t42031, .int .i64 t42032, .int .i64 0, .slice none 0 0]) ?_ 2 _ rfl; (with_reducible repeat (first | refine blk_drewN ?_ _ | refine blk_drew ?_ | refine blk_alloc ?_ _)); refine blk_put (cs := #[.int .i64 t42031, .int .i64 0, .int .i64 0, .slice none 0 0]) ?_ 1 _ rfl; (with_reducible repeat (first | refine blk_drewN ?_ _ | refine blk_drew ?_ | refine blk_alloc ?_ _)); refine blk_put (cs := #[.int .i64 0, .int .i64 0, .int .i64 0, .slice none 0 0]) ?_ 0 _ rfl; (with_reducible repeat (first | refine blk_drewN ?_ _ | refine blk_drew ?_ | refine blk_alloc ?_ _)); exact BK42003.out) Try.underlying28 rfl (by kernel_rfl)) rfl ?_
                  exact ⟨_, by rfl, by (with_reducible repeat (first | apply Kd.R_alloc | apply Kd.R_drewN | apply Kd.R_drew)); exact Kd.R_mono (Kd.R_far (p := ⟨gb42003, 3, none⟩) (Kd.R_far (p := ⟨gb42003, 2, none⟩) (Kd.R_far (p := ⟨gb42003, 1, none⟩) (Kd.R_far (p := ⟨gb42003, 0, none⟩) (Kd.R_types HO42036.out BK42003.out (by decide)) (fun _ hk => hk.2) (.int .i64 t42031)) (fun _ hk => hk.2) (.int .i64 t42032)) (fun _ hk => hk.2) (.int .i64 t42033)) (fun _ hk => hk.2) (.slice Ao105 t42034.length co105)) (fun _ hk => trivial), by repeat (with_reducible first | exact HB.out | refine below_set ?_ GE42003.out)⟩
          · rw [if_neg c55] at H
            have c55b0 : (a1_0 == 4) = false := beq_eq_false_iff_ne.mpr c55
            have c55b1 : (a1_0 != 4) = true := bne_iff_ne.mpr c55
            simp only [Option.some.injEq, Prod.mk.injEq] at H
            obtain ⟨rfl, rfl, rfl, rfl, rfl⟩ := H
            go_enter Try.func41, Try.ntmps41
            go_wp2_with (first | ((with_reducible refine gate_dst (N := 2) rfl ?_); (try (refine gate_guard (by rfl) ?_; dsimp only)); refine box_event ?hg (N := 2) ?hd (cs := #[.int .i64 a0_0, .int .i64 a0_1, .int .i64 a0_2, .slice A0_3 l0_3.length c0_3]) (t := 28) ?hr ?_; (case hd => rfl); (case hg => rfl); (case hr => (go_simp; done)); intro gb42001 hg w114 hbox hb; have n0_ := Aside0.mk (below_step HB.out hb); have n1_ := Aside0.mk (hbox); have n2_ := Aside0.mk ((by rw [hg]; exact (below_size HB.out) : w.heap.size ≤ gb42001)); have n3_ := Aside0.mk ((by rw [hg]; exact (below_size HB.out) : w.heap.size ≤ gb42001)); clear HB; have HB := n0_; have BK42001 := n1_; have GW42001 := n2_; have GE42001 := n3_; clear n0_ n1_ n2_ n3_; clear hb hbox hg) | ((with_reducible refine gate_dst (N := 3) rfl ?_); (try (refine gate_guard (by rfl) ?_; dsimp only)); refine box_event ?hg (N := 3) ?hd (cs := #[.int .i64 a1_0, .int .i64 a1_1, .int .i64 a1_2, .int .i64 a1_3, .int .i64 a1_4, .slice A1_5 l1_5.length c1_5]) (t := 43) ?hr ?_; (case hd => rfl); (case hg => rfl); (case hr => (go_simp; done)); intro gb42002 hg w115 hbox hb; have n0_ := Aside0.mk (blk_below BK42001.out hb); have n1_ := Aside0.mk (below_step HB.out hb); have n2_ := Aside0.mk (hbox); have n3_ := Aside0.mk ((by rw [hg]; exact (below_size HB.out) : w.heap.size ≤ gb42002)); have n4_ := Aside0.mk ((by rw [hg]; exact (below_size HB.out) : w.heap.size ≤ gb42002)); have n5_ := Aside0.mk ((by rw [hg]; exact Nat.ne_of_lt (blk_lt BK42001.out) : gb42001 ≠ gb42002)); have n6_ := Aside0.mk ((by rw [hg]; exact Nat.ne_of_gt (blk_lt BK42001.out) : gb42002 ≠ gb42001)); clear BK42001; clear HB; have BK42001 := n0_; have HB := n1_; have BK42002 := n2_; have GW42002 := n3_; have GE42002 := n4_; have NB42001_42002 := n5_; have NB42002_42001 := n6_; clear n0_ n1_ n2_ n3_ n4_ n5_ n6_; clear hb hbox hg) | ((with_reducible refine gate_dst (N := 4) rfl ?_); (try (refine gate_guard (by rfl) ?_; dsimp only)); refine box_event ?hg (N := 4) ?hd (cs := #[.int .i64 0, .int .i64 0, .int .i64 0, .slice none 0 0]) (t := 28) ?hr ?_; (case hd => rfl); (case hg => rfl); (case hr => (go_simp; done)); intro gb42003 hg w116 hbox hb; have n0_ := Aside0.mk (blk_below BK42001.out hb); have n1_ := Aside0.mk (blk_below BK42002.out hb); have n2_ := Aside0.mk (below_step HB.out hb); have n3_ := Aside0.mk (hbox); have n4_ := Aside0.mk ((by rw [hg]; exact (below_size HB.out) : w.heap.size ≤ gb42003)); have n5_ := Aside0.mk ((by rw [hg]; exact (below_size HB.out) : w.heap.size ≤ gb42003)); have n6_ := Aside0.mk ((by rw [hg]; exact Nat.ne_of_lt (blk_lt BK42001.out) : gb42001 ≠ gb42003)); have n7_ := Aside0.mk ((by rw [hg]; exact Nat.ne_of_gt (blk_lt BK42001.out) : gb42003 ≠ gb42001)); have n8_ := Aside0.mk ((by rw [hg]; exact Nat.ne_of_lt (blk_lt BK42002.out) : gb42002 ≠ gb42003)); have n9_ := Aside0.mk ((by rw [hg]; exact Nat.ne_of_gt (blk_lt BK42002.out) : gb42003 ≠ gb42002)); clear BK42001; clear BK42002; clear HB; have BK42001 := n0_; have BK42002 := n1_; have HB := n2_; have BK42003 := n3_; have GW42003 := n4_; have GE42003 := n5_; have NB42001_42003 := n6_; have NB42003_42001 := n7_; have NB42002_42003 := n8_; have NB42003_42002 := n9_; clear n0_ n1_ n2_ n3_ n4_ n5_ n6_ n7_ n8_ n9_; clear hb hbox hg; have hnb117 := NB42002_42001.out; have hnc117 := NB42001_42002.out; have hnb118 := NB42002_42003.out; have hnc118 := NB42003_42002.out; have hcz119_0 : w116.cell? ⟨gb42002, 0, none⟩ = some (.int .i64 a1_0) := (blk_cell BK42002.out 0).trans rfl; have hcz119_1 : w116.cell? ⟨gb42002, 1, none⟩ = some (.int .i64 a1_1) := (blk_cell BK42002.out 1).trans rfl; have hcz119_2 : w116.cell? ⟨gb42002, 2, none⟩ = some (.int .i64 a1_2) := (blk_cell BK42002.out 2).trans rfl; have hcz119_3 : w116.cell? ⟨gb42002, 3, none⟩ = some (.int .i64 a1_3) := (blk_cell BK42002.out 3).trans rfl; have hcz119_4 : w116.cell? ⟨gb42002, 4, none⟩ = some (.int .i64 a1_4) := (blk_cell BK42002.out 4).trans rfl; have hcz119_5 : w116.cell? ⟨gb42002, 5, none⟩ = some (.slice A1_5 l1_5.length c1_5) := (blk_cell BK42002.out 5).trans rfl; have hfz119_0 := blk_frozen BK42002.out 0; have hfz119_1 := blk_frozen BK42002.out 1; have hfz119_2 := blk_frozen BK42002.out 2; have hfz119_3 := blk_frozen BK42002.out 3; have hfz119_4 := blk_frozen BK42002.out 4; have hfz119_5 := blk_frozen BK42002.out 5; have hnb120 := NB42003_42001.out; have hnc120 := NB42001_42003.out; have hcz121_0 : w116.cell? ⟨gb42003, 0, none⟩ = some (.int .i64 0) := (blk_cell BK42003.out 0).trans rfl; have hcz121_1 : w116.cell? ⟨gb42003, 1, none⟩ = some (.int .i64 0) := (blk_cell BK42003.out 1).trans rfl; have hcz121_2 : w116.cell? ⟨gb42003, 2, none⟩ = some (.int .i64 0) := (blk_cell BK42003.out 2).trans rfl; have hcz121_3 : w116.cell? ⟨gb42003, 3, none⟩ = some (.slice none 0 0) := (blk_cell BK42003.out 3).trans rfl; have hfz121_0 := blk_frozen BK42003.out 0; have hfz121_1 := blk_frozen BK42003.out 1; have hfz121_2 := blk_frozen BK42003.out 2; have hfz121_3 := blk_frozen BK42003.out 3))
            refine bodyPost_ret (results_ct rfl _ _ gb42003 28 #[.int .i64 0, .int .i64 0, .int .i64 0, .slice none 0 0] (0, 0) _ rfl (by refine blk_put (cs := #[.int .i64 0, .int .i64 0, .int .i64 0, .slice none 0 0]) ?_ 3 _ rfl; (with_reducible repeat (first | refine blk_drewN ?_ _ | refine blk_drew ?_ | refine blk_alloc ?_ _)); refine blk_put (cs := #[.int .i64 0, .int .i64 0, .int .i64 0, .slice none 0 0]) ?_ 2 _ rfl; (with_reducible repeat (first | refine blk_drewN ?_ _ | refine blk_drew ?_ | refine blk_alloc ?_ _)); refine blk_put (cs := #[.int .i64 0, .int .i64 0, .int .i64 0, .slice none 0 0]) ?_ 1 _ rfl; (with_reducible repeat (first | refine blk_drewN ?_ _ | refine blk_drew ?_ | refine blk_alloc ?_ _)); refine blk_put (cs := #[.int .i64 0, .int .i64 0, .int .i64 0, .slice none 0 0]) ?_ 0 _ rfl; (with_reducible repeat (first | refine blk_drewN ?_ _ | refine blk_drew ?_ | refine blk_alloc ?_ _)); exact BK42003.out) Try.underlying28 rfl (by kernel_rfl)) rfl ?_
            exact ⟨_, by rfl, by exact Kd.R_nil _ _ _ _ _, by repeat (with_reducible first | exact HB.out | refine below_set ?_ GE42003.out)⟩


def spec_DoStep.f (k : Nat) (a0_0 : Int) (a0_1 : Int) (a0_2 : Int) (l0_3 : List Int) (a1_0 : Int) (a1_1 : Int) (a1_2 : Int) (a1_3 : Int) (a1_4 : Int) (l1_5 : List Int) : Option (Int × Int × Int × List Int × Bool) := (spec_validImage.f k a0_0 a0_1 a0_2 l0_3).bind fun t24004 => (if t24004 = true then ((spec_doStep.f k a0_0 a0_1 a0_2 l0_3 a1_0 a1_1 a1_2 a1_3 a1_4 l1_5).bind fun bt24005 => (some (bt24005.1, bt24005.2.1, bt24005.2.2.1, bt24005.2.2.2.1, bt24005.2.2.2.2))) else (some (0, 0, 0, ([] : List Int), false)))
theorem spec_DoStep.mono : ∀ a0 a1 a2 a3 a4 a5 a6 a7 a8 a9 k, LeO (spec_DoStep.f k a0 a1 a2 a3 a4 a5 a6 a7 a8 a9) (spec_DoStep.f (k + 1) a0 a1 a2 a3 a4 a5 a6 a7 a8 a9) := by
  intro a0 a1 a2 a3 a4 a5 a6 a7 a8 a9 k
  unfold spec_DoStep.f
  repeat' first | (with_reducible exact spec_doStep.mono _ _ _ _ _ _ _ _ _ _ _) | (with_reducible exact spec_validImage.mono _ _ _ _ _) | (with_reducible exact LeO.refl _) | (with_reducible refine LeO.ite ?_ ?_) | (with_reducible refine LeO.bind ?_ (fun _ => ?_))
set_option maxHeartbeats 8000000 in
set_option maxRecDepth 100000 in
theorem spec_DoStep.calls (k : Nat) (a0_0 : Int) (a0_1 : Int) (a0_2 : Int) (A0_3 : Option Addr) (c0_3 : Nat) (l0_3 : List Int) (a1_0 : Int) (a1_1 : Int) (a1_2 : Int) (a1_3 : Int) (a1_4 : Int) (A1_5 : Option Addr) (c1_5 : Nat) (l1_5 : List Int) (r1 : Int) (r2 : Int) (r3 : Int) (r4 : List Int) (r5 : Bool) (w : World) (hr0_3 : Kd.C (Kd.int .i64) w A0_3 l0_3.length l0_3) (hc0_3 : l0_3.length ≤ c0_3) (hr1_5 : Kd.C (Kd.int .i64) w A1_5 l1_5.length l1_5) (hc1_5 : l1_5.length ≤ c1_5) (h : spec_DoStep.f k a0_0 a0_1 a0_2 l0_3 a1_0 a1_1 a1_2 a1_3 a1_4 l1_5 = some (r1, r2, r3, r4, r5)) :
    Calls Try.prog 23 #[.agg #[.int .i64 a0_0, .int .i64 a0_1, .int .i64 a0_2, .slice A0_3 l0_3.length c0_3], .agg #[.int .i64 a1_0, .int .i64 a1_1, .int .i64 a1_2, .int .i64 a1_3, .int .i64 a1_4, .slice A1_5 l1_5.length c1_5]] w fun e w' => ∃ v3_ : Value, e = .returned (.tuple #[.agg #[.int .i64 r1, .int .i64 r2, .int .i64 r3, v3_], .bool r5]) ∧ Kd.R (Kd.int .i64) 3 w' w.heap.size (fun _ => True) v3_ r4 ∧ Below w.heap.size w w' := by
  have hu28 := Try.underlying28
  have hu43 := Try.underlying43
  have HR0_3 := Aside0.mk hr0_3
  have HC0_3 := Aside0.mk hc0_3
  clear hr0_3 hc0_3
  have HR1_5 := Aside0.mk hr1_5
  have HC1_5 := Aside0.mk hc1_5
  clear hr1_5 hc1_5
  have HB := Aside0.mk (Below.refl w.heap.size w)
  have H : ((spec_validImage.f k a0_0 a0_1 a0_2 l0_3).bind fun t24004 => (if t24004 = true then ((spec_doStep.f k a0_0 a0_1 a0_2 l0_3 a1_0 a1_1 a1_2 a1_3 a1_4 l1_5).bind fun bt24005 => (some (bt24005.1, bt24005.2.1, bt24005.2.2.1, bt24005.2.2.2.1, bt24005.2.2.2.2))) else (some (0, 0, 0, ([] : List Int), false)))) = some (r1, r2, r3, r4, r5) := h
  clear h
  replace H := Option.bind_eq_some_iff.mp H
  obtain ⟨t24004, A30, H⟩ := H
  replace H : (if t24004 = true then ((spec_doStep.f k a0_0 a0_1 a0_2 l0_3 a1_0 a1_1 a1_2 a1_3 a1_4 l1_5).bind fun bt24005 => (some (bt24005.1, bt24005.2.1, bt24005.2.2.1, bt24005.2.2.2.1, bt24005.2.2.2.2))) else (some (0, 0, 0, ([] : List Int), false))) = some (r1, r2, r3, r4, r5) := H
  have A3 := Aside0.mk A30
  clear A30
  by_cases c4 : t24004 = true
  · subst c4
    have H1 : ((spec_doStep.f k a0_0 a0_1 a0_2 l0_3 a1_0 a1_1 a1_2 a1_3 a1_4 l1_5).bind fun bt24005 => (some (bt24005.1, bt24005.2.1, bt24005.2.2.1, bt24005.2.2.2.1, bt24005.2.2.2.2))) = some (r1, r2, r3, r4, r5) := by rw [if_pos rfl] at H; exact H
    clear H
    have H := H1
    clear H1
    replace H := Option.bind_eq_some_iff.mp H
    obtain ⟨⟨t24005, t24006, t24007, t24008, t24011⟩, A50, H⟩ := H
    replace H : (some (t24005, t24006, t24007, t24008, t24011)) = some (r1, r2, r3, r4, r5) := H
    have A5 := Aside0.mk A50
    clear A50
    simp only [Option.some.injEq, Prod.mk.injEq] at H
    obtain ⟨rfl, rfl, rfl, rfl, rfl⟩ := H
    go_enter Try.func23, Try.ntmps23
    go_wp2_with (first | ((with_reducible refine gate_dst (N := 2) rfl ?_); refine box_event ?hg (N := 2) ?hd (cs := #[.int .i64 a0_0, .int .i64 a0_1, .int .i64 a0_2, .slice A0_3 l0_3.length c0_3]) (t := 28) ?hr ?_; (case hd => rfl); (case hg => rfl); (case hr => (go_simp; done)); intro gb24001 hg w6 hbox hb; have n0_ := Aside0.mk (below_step HB.out hb); have n1_ := Aside0.mk (hbox); have n2_ := Aside0.mk ((by rw [hg]; exact (below_size HB.out) : w.heap.size ≤ gb24001)); have n3_ := Aside0.mk ((by rw [hg]; exact (below_size HB.out) : w.heap.size ≤ gb24001)); clear HB; have HB := n0_; have BK24001 := n1_; have GW24001 := n2_; have GE24001 := n3_; clear n0_ n1_ n2_ n3_; clear hb hbox hg) | ((with_reducible refine gate_dst (N := 3) rfl ?_); refine box_event ?hg (N := 3) ?hd (cs := #[.int .i64 a1_0, .int .i64 a1_1, .int .i64 a1_2, .int .i64 a1_3, .int .i64 a1_4, .slice A1_5 l1_5.length c1_5]) (t := 43) ?hr ?_; (case hd => rfl); (case hg => rfl); (case hr => (go_simp; done)); intro gb24002 hg w7 hbox hb; have n0_ := Aside0.mk (blk_below BK24001.out hb); have n1_ := Aside0.mk (below_step HB.out hb); have n2_ := Aside0.mk (hbox); have n3_ := Aside0.mk ((by rw [hg]; exact (below_size HB.out) : w.heap.size ≤ gb24002)); have n4_ := Aside0.mk ((by rw [hg]; exact (below_size HB.out) : w.heap.size ≤ gb24002)); have n5_ := Aside0.mk ((by rw [hg]; exact Nat.ne_of_lt (blk_lt BK24001.out) : gb24001 ≠ gb24002)); have n6_ := Aside0.mk ((by rw [hg]; exact Nat.ne_of_gt (blk_lt BK24001.out) : gb24002 ≠ gb24001)); clear BK24001; clear HB; have BK24001 := n0_; have HB := n1_; have BK24002 := n2_; have GW24002 := n3_; have GE24002 := n4_; have NB24001_24002 := n5_; have NB24002_24001 := n6_; clear n0_ n1_ n2_ n3_ n4_ n5_ n6_; clear hb hbox hg) | ((with_reducible refine gate_dst (N := 4) rfl ?_); refine box_event ?hg (N := 4) ?hd (cs := #[.int .i64 0, .int .i64 0, .int .i64 0, .slice none 0 0]) (t := 28) ?hr ?_; (case hd => rfl); (case hg => rfl); (case hr => (go_simp; done)); intro gb24003 hg w8 hbox hb; have n0_ := Aside0.mk (blk_below BK24001.out hb); have n1_ := Aside0.mk (blk_below BK24002.out hb); have n2_ := Aside0.mk (below_step HB.out hb); have n3_ := Aside0.mk (hbox); have n4_ := Aside0.mk ((by rw [hg]; exact (below_size HB.out) : w.heap.size ≤ gb24003)); have n5_ := Aside0.mk ((by rw [hg]; exact (below_size HB.out) : w.heap.size ≤ gb24003)); have n6_ := Aside0.mk ((by rw [hg]; exact Nat.ne_of_lt (blk_lt BK24001.out) : gb24001 ≠ gb24003)); have n7_ := Aside0.mk ((by rw [hg]; exact Nat.ne_of_gt (blk_lt BK24001.out) : gb24003 ≠ gb24001)); have n8_ := Aside0.mk ((by rw [hg]; exact Nat.ne_of_lt (blk_lt BK24002.out) : gb24002 ≠ gb24003)); have n9_ := Aside0.mk ((by rw [hg]; exact Nat.ne_of_gt (blk_lt BK24002.out) : gb24003 ≠ gb24002)); clear BK24001; clear BK24002; clear HB; have BK24001 := n0_; have BK24002 := n1_; have HB := n2_; have BK24003 := n3_; have GW24003 := n4_; have GE24003 := n5_; have NB24001_24003 := n6_; have NB24003_24001 := n7_; have NB24002_24003 := n8_; have NB24003_24002 := n9_; clear n0_ n1_ n2_ n3_ n4_ n5_ n6_ n7_ n8_ n9_; clear hb hbox hg; have hnb9 := NB24001_24002.out; have hnc9 := NB24002_24001.out; have hnb10 := NB24001_24003.out; have hnc10 := NB24003_24001.out; have hcz11_0 : w8.cell? ⟨gb24001, 0, none⟩ = some (.int .i64 a0_0) := (blk_cell BK24001.out 0).trans rfl; have hcz11_1 : w8.cell? ⟨gb24001, 1, none⟩ = some (.int .i64 a0_1) := (blk_cell BK24001.out 1).trans rfl; have hcz11_2 : w8.cell? ⟨gb24001, 2, none⟩ = some (.int .i64 a0_2) := (blk_cell BK24001.out 2).trans rfl; have hcz11_3 : w8.cell? ⟨gb24001, 3, none⟩ = some (.slice A0_3 l0_3.length c0_3) := (blk_cell BK24001.out 3).trans rfl; have hfz11_0 := blk_frozen BK24001.out 0; have hfz11_1 := blk_frozen BK24001.out 1; have hfz11_2 := blk_frozen BK24001.out 2; have hfz11_3 := blk_frozen BK24001.out 3) | ((with_reducible refine gate_callee (f := 39) rfl ?_); refine goesL_ (some 7) rfl rfl Try.func39 (by kernel_rfl) rfl #[.agg #[.int .i64 a0_0, .int .i64 a0_1, .int .i64 a0_2, .slice A0_3 l0_3.length c0_3]] rfl (by (try simp only [List.map_toArray, List.map_cons, List.map_nil]); rfl) ?_; (with_reducible refine (spec_validImage.calls k a0_0 a0_1 a0_2 _ _ l0_3 true _ ?side1 ?side2 A3.out).mono ?_); (case side1 => repeat (exact (Kd.C_below HR0_3.out HB.out))); (case side2 => exact HC0_3.out); rintro e w12 ⟨rfl, hb⟩; refine ⟨_, rfl, ?_⟩; have n0_ := Aside0.mk (blk_below BK24001.out hb); have n1_ := Aside0.mk (blk_below BK24002.out hb); have n2_ := Aside0.mk (blk_below BK24003.out hb); have n3_ := Aside0.mk (below_step HB.out hb); clear BK24001; clear BK24002; clear BK24003; clear HB; have BK24001 := n0_; have BK24002 := n1_; have BK24003 := n2_; have HB := n3_; clear n0_ n1_ n2_ n3_; (try clear hb); have hcz13_0 : w12.cell? ⟨gb24001, 0, none⟩ = some (.int .i64 a0_0) := (blk_cell BK24001.out 0).trans rfl; have hcz13_1 : w12.cell? ⟨gb24001, 1, none⟩ = some (.int .i64 a0_1) := (blk_cell BK24001.out 1).trans rfl; have hcz13_2 : w12.cell? ⟨gb24001, 2, none⟩ = some (.int .i64 a0_2) := (blk_cell BK24001.out 2).trans rfl; have hcz13_3 : w12.cell? ⟨gb24001, 3, none⟩ = some (.slice A0_3 l0_3.length c0_3) := (blk_cell BK24001.out 3).trans rfl; have hfz13_0 := blk_frozen BK24001.out 0; have hfz13_1 := blk_frozen BK24001.out 1; have hfz13_2 := blk_frozen BK24001.out 2; have hfz13_3 := blk_frozen BK24001.out 3; have hnb14 := NB24002_24003.out; have hnc14 := NB24003_24002.out; have hcz15_0 : w12.cell? ⟨gb24002, 0, none⟩ = some (.int .i64 a1_0) := (blk_cell BK24002.out 0).trans rfl; have hcz15_1 : w12.cell? ⟨gb24002, 1, none⟩ = some (.int .i64 a1_1) := (blk_cell BK24002.out 1).trans rfl; have hcz15_2 : w12.cell? ⟨gb24002, 2, none⟩ = some (.int .i64 a1_2) := (blk_cell BK24002.out 2).trans rfl; have hcz15_3 : w12.cell? ⟨gb24002, 3, none⟩ = some (.int .i64 a1_3) := (blk_cell BK24002.out 3).trans rfl; have hcz15_4 : w12.cell? ⟨gb24002, 4, none⟩ = some (.int .i64 a1_4) := (blk_cell BK24002.out 4).trans rfl; have hcz15_5 : w12.cell? ⟨gb24002, 5, none⟩ = some (.slice A1_5 l1_5.length c1_5) := (blk_cell BK24002.out 5).trans rfl; have hfz15_0 := blk_frozen BK24002.out 0; have hfz15_1 := blk_frozen BK24002.out 1; have hfz15_2 := blk_frozen BK24002.out 2; have hfz15_3 := blk_frozen BK24002.out 3; have hfz15_4 := blk_frozen BK24002.out 4; have hfz15_5 := blk_frozen BK24002.out 5) | ((with_reducible refine gate_callee (f := 41) rfl ?_); refine goesL_ (some 12) rfl rfl Try.func41 (by kernel_rfl) rfl #[.agg #[.int .i64 a0_0, .int .i64 a0_1, .int .i64 a0_2, .slice A0_3 l0_3.length c0_3], .agg #[.int .i64 a1_0, .int .i64 a1_1, .int .i64 a1_2, .int .i64 a1_3, .int .i64 a1_4, .slice A1_5 l1_5.length c1_5]] rfl (by (try simp only [List.map_toArray, List.map_cons, List.map_nil]); rfl) ?_; (with_reducible refine (spec_doStep.calls k a0_0 a0_1 a0_2 _ _ l0_3 a1_0 a1_1 a1_2 a1_3 a1_4 _ _ l1_5 t24005 t24006 t24007 t24008 t24011 _ ?side1 ?side2 ?side3 ?side4 A5.out).mono ?_); (case side1 => repeat (exact (Kd.C_below HR0_3.out HB.out))); (case side2 => exact HC0_3.out); (case side3 => repeat (exact (Kd.C_below HR1_5.out HB.out))); (case side4 => exact HC1_5.out); rintro e w16 ⟨v24009, rfl, ho0, hb⟩; refine ⟨_, rfl, ?_⟩; have n0_ := Aside0.mk (Kd.R_lower ho0 (below_size HB.out)); have n1_ := Aside0.mk (blk_below BK24001.out hb); have n2_ := Aside0.mk (blk_below BK24002.out hb); have n3_ := Aside0.mk (blk_below BK24003.out hb); have n4_ := Aside0.mk (below_step HB.out hb); clear BK24001; clear BK24002; clear BK24003; clear HB; have HO24010 := n0_; have BK24001 := n1_; have BK24002 := n2_; have BK24003 := n3_; have HB := n4_; clear n0_ n1_ n2_ n3_ n4_; (try clear hb); (try clear ho0); have hcz17_0 : w16.cell? ⟨gb24003, 0, none⟩ = some (.int .i64 0) := (blk_cell BK24003.out 0).trans rfl; have hcz17_1 : w16.cell? ⟨gb24003, 1, none⟩ = some (.int .i64 0) := (blk_cell BK24003.out 1).trans rfl; have hcz17_2 : w16.cell? ⟨gb24003, 2, none⟩ = some (.int .i64 0) := (blk_cell BK24003.out 2).trans rfl; have hcz17_3 : w16.cell? ⟨gb24003, 3, none⟩ = some (.slice none 0 0) := (blk_cell BK24003.out 3).trans rfl; have hfz17_0 := blk_frozen BK24003.out 0; have hfz17_1 := blk_frozen BK24003.out 1; have hfz17_2 := blk_frozen BK24003.out 2; have hfz17_3 := blk_frozen BK24003.out 3; obtain ⟨Ao18, co18, eo18⟩ := Kd.R_slice HO24010.out; subst eo18))
    refine bodyPost_ret (results_ct rfl _ _ gb24003 28 #[.int .i64 t24005, .int .i64 t24006, .int .i64 t24007, .slice Ao18 t24008.length co18] (0, 0) _ rfl (by refine blk_put (cs := #[.int .i64 t24005, .int .i64 t24006, .int .i64 t24007, .slice none 0 0]) ?_ 3 _ rfl; (with_reducible repeat (first | refine blk_drewN ?_ _ | refine blk_drew ?_ | refine blk_alloc ?_ _)); refine blk_put (cs := #[.int .i64 t24005, .int .i64 t24006, .int .i64 0, .slice none 0 0]) ?_ 2 _ rfl; (with_reducible repeat (first | refine blk_drewN ?_ _ | refine blk_drew ?_ | refine blk_alloc ?_ _)); refine blk_put (cs := #[.int .i64 t24005, .int .i64 0, .int .i64 0, .slice none 0 0]) ?_ 1 _ rfl; (with_reducible repeat (first | refine blk_drewN ?_ _ | refine blk_drew ?_ | refine blk_alloc ?_ _)); refine blk_put (cs := #[.int .i64 0, .int .i64 0, .int .i64 0, .slice none 0 0]) ?_ 0 _ rfl; (with_reducible repeat (first | refine blk_drewN ?_ _ | refine blk_drew ?_ | refine blk_alloc ?_ _)); exact BK24003.out) Try.underlying28 rfl (by kernel_rfl)) rfl ?_
    exact ⟨_, by rfl, by (with_reducible repeat (first | apply Kd.R_alloc | apply Kd.R_drewN | apply Kd.R_drew)); exact Kd.R_mono (Kd.R_far (p := ⟨gb24003, 3, none⟩) (Kd.R_far (p := ⟨gb24003, 2, none⟩) (Kd.R_far (p := ⟨gb24003, 1, none⟩) (Kd.R_far (p := ⟨gb24003, 0, none⟩) (Kd.R_types HO24010.out BK24003.out (by decide)) (fun _ hk => hk.2) (.int .i64 t24005)) (fun _ hk => hk.2) (.int .i64 t24006)) (fun _ hk => hk.2) (.int .i64 t24007)) (fun _ hk => hk.2) (.slice Ao18 t24008.length co18)) (fun _ hk => trivial), by repeat (with_reducible first | exact HB.out | refine below_set ?_ GE24003.out)⟩
  · replace c4 := Bool.eq_false_iff.mpr c4
    subst c4
    have H1 : (some (0, 0, 0, ([] : List Int), false)) = some (r1, r2, r3, r4, r5) := by rw [if_neg (show ¬ (false = true) by decide)] at H; exact H
    clear H
    have H := H1
    clear H1
    simp only [Option.some.injEq, Prod.mk.injEq] at H
    obtain ⟨rfl, rfl, rfl, rfl, rfl⟩ := H
    go_enter Try.func23, Try.ntmps23
    go_wp2_with (first | ((with_reducible refine gate_dst (N := 2) rfl ?_); refine box_event ?hg (N := 2) ?hd (cs := #[.int .i64 a0_0, .int .i64 a0_1, .int .i64 a0_2, .slice A0_3 l0_3.length c0_3]) (t := 28) ?hr ?_; (case hd => rfl); (case hg => rfl); (case hr => (go_simp; done)); intro gb24001 hg w19 hbox hb; have n0_ := Aside0.mk (below_step HB.out hb); have n1_ := Aside0.mk (hbox); have n2_ := Aside0.mk ((by rw [hg]; exact (below_size HB.out) : w.heap.size ≤ gb24001)); have n3_ := Aside0.mk ((by rw [hg]; exact (below_size HB.out) : w.heap.size ≤ gb24001)); clear HB; have HB := n0_; have BK24001 := n1_; have GW24001 := n2_; have GE24001 := n3_; clear n0_ n1_ n2_ n3_; clear hb hbox hg) | ((with_reducible refine gate_dst (N := 3) rfl ?_); refine box_event ?hg (N := 3) ?hd (cs := #[.int .i64 a1_0, .int .i64 a1_1, .int .i64 a1_2, .int .i64 a1_3, .int .i64 a1_4, .slice A1_5 l1_5.length c1_5]) (t := 43) ?hr ?_; (case hd => rfl); (case hg => rfl); (case hr => (go_simp; done)); intro gb24002 hg w20 hbox hb; have n0_ := Aside0.mk (blk_below BK24001.out hb); have n1_ := Aside0.mk (below_step HB.out hb); have n2_ := Aside0.mk (hbox); have n3_ := Aside0.mk ((by rw [hg]; exact (below_size HB.out) : w.heap.size ≤ gb24002)); have n4_ := Aside0.mk ((by rw [hg]; exact (below_size HB.out) : w.heap.size ≤ gb24002)); have n5_ := Aside0.mk ((by rw [hg]; exact Nat.ne_of_lt (blk_lt BK24001.out) : gb24001 ≠ gb24002)); have n6_ := Aside0.mk ((by rw [hg]; exact Nat.ne_of_gt (blk_lt BK24001.out) : gb24002 ≠ gb24001)); clear BK24001; clear HB; have BK24001 := n0_; have HB := n1_; have BK24002 := n2_; have GW24002 := n3_; have GE24002 := n4_; have NB24001_24002 := n5_; have NB24002_24001 := n6_; clear n0_ n1_ n2_ n3_ n4_ n5_ n6_; clear hb hbox hg) | ((with_reducible refine gate_dst (N := 4) rfl ?_); refine box_event ?hg (N := 4) ?hd (cs := #[.int .i64 0, .int .i64 0, .int .i64 0, .slice none 0 0]) (t := 28) ?hr ?_; (case hd => rfl); (case hg => rfl); (case hr => (go_simp; done)); intro gb24003 hg w21 hbox hb; have n0_ := Aside0.mk (blk_below BK24001.out hb); have n1_ := Aside0.mk (blk_below BK24002.out hb); have n2_ := Aside0.mk (below_step HB.out hb); have n3_ := Aside0.mk (hbox); have n4_ := Aside0.mk ((by rw [hg]; exact (below_size HB.out) : w.heap.size ≤ gb24003)); have n5_ := Aside0.mk ((by rw [hg]; exact (below_size HB.out) : w.heap.size ≤ gb24003)); have n6_ := Aside0.mk ((by rw [hg]; exact Nat.ne_of_lt (blk_lt BK24001.out) : gb24001 ≠ gb24003)); have n7_ := Aside0.mk ((by rw [hg]; exact Nat.ne_of_gt (blk_lt BK24001.out) : gb24003 ≠ gb24001)); have n8_ := Aside0.mk ((by rw [hg]; exact Nat.ne_of_lt (blk_lt BK24002.out) : gb24002 ≠ gb24003)); have n9_ := Aside0.mk ((by rw [hg]; exact Nat.ne_of_gt (blk_lt BK24002.out) : gb24003 ≠ gb24002)); clear BK24001; clear BK24002; clear HB; have BK24001 := n0_; have BK24002 := n1_; have HB := n2_; have BK24003 := n3_; have GW24003 := n4_; have GE24003 := n5_; have NB24001_24003 := n6_; have NB24003_24001 := n7_; have NB24002_24003 := n8_; have NB24003_24002 := n9_; clear n0_ n1_ n2_ n3_ n4_ n5_ n6_ n7_ n8_ n9_; clear hb hbox hg; have hnb22 := NB24001_24002.out; have hnc22 := NB24002_24001.out; have hnb23 := NB24001_24003.out; have hnc23 := NB24003_24001.out; have hcz24_0 : w21.cell? ⟨gb24001, 0, none⟩ = some (.int .i64 a0_0) := (blk_cell BK24001.out 0).trans rfl; have hcz24_1 : w21.cell? ⟨gb24001, 1, none⟩ = some (.int .i64 a0_1) := (blk_cell BK24001.out 1).trans rfl; have hcz24_2 : w21.cell? ⟨gb24001, 2, none⟩ = some (.int .i64 a0_2) := (blk_cell BK24001.out 2).trans rfl; have hcz24_3 : w21.cell? ⟨gb24001, 3, none⟩ = some (.slice A0_3 l0_3.length c0_3) := (blk_cell BK24001.out 3).trans rfl; have hfz24_0 := blk_frozen BK24001.out 0; have hfz24_1 := blk_frozen BK24001.out 1; have hfz24_2 := blk_frozen BK24001.out 2; have hfz24_3 := blk_frozen BK24001.out 3) | ((with_reducible refine gate_callee (f := 39) rfl ?_); refine goesL_ (some 7) rfl rfl Try.func39 (by kernel_rfl) rfl #[.agg #[.int .i64 a0_0, .int .i64 a0_1, .int .i64 a0_2, .slice A0_3 l0_3.length c0_3]] rfl (by (try simp only [List.map_toArray, List.map_cons, List.map_nil]); rfl) ?_; (with_reducible refine (spec_validImage.calls k a0_0 a0_1 a0_2 _ _ l0_3 false _ ?side1 ?side2 A3.out).mono ?_); (case side1 => repeat (exact (Kd.C_below HR0_3.out HB.out))); (case side2 => exact HC0_3.out); rintro e w25 ⟨rfl, hb⟩; refine ⟨_, rfl, ?_⟩; have n0_ := Aside0.mk (blk_below BK24001.out hb); have n1_ := Aside0.mk (blk_below BK24002.out hb); have n2_ := Aside0.mk (blk_below BK24003.out hb); have n3_ := Aside0.mk (below_step HB.out hb); clear BK24001; clear BK24002; clear BK24003; clear HB; have BK24001 := n0_; have BK24002 := n1_; have BK24003 := n2_; have HB := n3_; clear n0_ n1_ n2_ n3_; (try clear hb); have hnb26 := NB24003_24002.out; have hnc26 := NB24002_24003.out; have hcz27_0 : w25.cell? ⟨gb24003, 0, none⟩ = some (.int .i64 0) := (blk_cell BK24003.out 0).trans rfl; have hcz27_1 : w25.cell? ⟨gb24003, 1, none⟩ = some (.int .i64 0) := (blk_cell BK24003.out 1).trans rfl; have hcz27_2 : w25.cell? ⟨gb24003, 2, none⟩ = some (.int .i64 0) := (blk_cell BK24003.out 2).trans rfl; have hcz27_3 : w25.cell? ⟨gb24003, 3, none⟩ = some (.slice none 0 0) := (blk_cell BK24003.out 3).trans rfl; have hfz27_0 := blk_frozen BK24003.out 0; have hfz27_1 := blk_frozen BK24003.out 1; have hfz27_2 := blk_frozen BK24003.out 2; have hfz27_3 := blk_frozen BK24003.out 3))
    refine bodyPost_ret (results_ct rfl _ _ gb24003 28 #[.int .i64 0, .int .i64 0, .int .i64 0, .slice none 0 0] (0, 0) _ rfl (by refine blk_put (cs := #[.int .i64 0, .int .i64 0, .int .i64 0, .slice none 0 0]) ?_ 3 _ rfl; (with_reducible repeat (first | refine blk_drewN ?_ _ | refine blk_drew ?_ | refine blk_alloc ?_ _)); refine blk_put (cs := #[.int .i64 0, .int .i64 0, .int .i64 0, .slice none 0 0]) ?_ 2 _ rfl; (with_reducible repeat (first | refine blk_drewN ?_ _ | refine blk_drew ?_ | refine blk_alloc ?_ _)); refine blk_put (cs := #[.int .i64 0, .int .i64 0, .int .i64 0, .slice none 0 0]) ?_ 1 _ rfl; (with_reducible repeat (first | refine blk_drewN ?_ _ | refine blk_drew ?_ | refine blk_alloc ?_ _)); refine blk_put (cs := #[.int .i64 0, .int .i64 0, .int .i64 0, .slice none 0 0]) ?_ 0 _ rfl; (with_reducible repeat (first | refine blk_drewN ?_ _ | refine blk_drew ?_ | refine blk_alloc ?_ _)); exact BK24003.out) Try.underlying28 rfl (by kernel_rfl)) rfl ?_
    exact ⟨_, by rfl, by exact Kd.R_nil _ _ _ _ _, by repeat (with_reducible first | exact HB.out | refine below_set ?_ GE24003.out)⟩


/- Words of this session's own hand-made walks: where the first element lies for which a test holds; draws that follow each other. -/

theorem dtrans {a b c : World} (h : Drawn0 a b) (k : Drawn0 b c) : Drawn0 a c := by
  obtain ⟨n, rfl⟩ := k
  exact h.step n

/-- where the first element is for which p holds; -1 -/
def idxF {α : Type} (p : α → Bool) : List α → Int
  | [] => -1
  | x :: xs => if p x then 0 else (let r := idxF p xs; if r < 0 then -1 else r + 1)
theorem idxF_any {α : Type} (p : α → Bool) (l : List α) : decide (idxF p l ≥ 0) = l.any p := by
  induction l with
  | nil => simp [idxF]
  | cons x xs ih =>
    unfold idxF
    by_cases h : p x = true
    · simp [h]
    · simp only [h, List.any_cons, Bool.false_or, ← ih]
      simp only [Bool.false_eq_true, if_false]
      split
      · simp; omega
      · simp; omega
/-- p fails at all that lies before k -/
def SawNone {α : Type} (p : α → Bool) (l : List α) (k : Nat) : Prop := ∀ j, j < k → ∀ h : j < l.length, p l[j] = false
theorem SawNone.succ {α : Type} {p : α → Bool} {l : List α} {k : Nat} (h : SawNone p l k) (hk : k < l.length) (hp : p l[k] = false) : SawNone p l (k + 1) := by
  intro j hj hl
  by_cases e : j = k
  · subst e; exact hp
  · exact h j (by omega) hl
theorem idxF_at {α : Type} (p : α → Bool) (l : List α) (k : Nat) (hk : k < l.length) (hs : SawNone p l k) (hp : p l[k] = true) : idxF p l = k := by
  induction l generalizing k with
  | nil => simp at hk
  | cons x xs ih =>
    unfold idxF
    cases k with
    | zero => simp at hp; simp [hp]
    | succ k =>
      have h0 : p x = false := hs 0 (by omega) (by simp)
      have := ih k (by simpa using hk) (fun j hj h => hs (j + 1) (by omega) (by simpa using h)) (by simpa using hp)
      simp [h0, this]; omega
theorem idxF_none {α : Type} (p : α → Bool) (l : List α) (hs : SawNone p l l.length) : idxF p l = -1 := by
  induction l with
  | nil => rfl
  | cons x xs ih =>
    unfold idxF
    have h0 : p x = false := hs 0 (by simp) (by simp)
    have := ih (fun j hj h => hs (j + 1) (by simpa using hj) (by simpa using h))
    simp [h0, this]
theorem rd_get (l : List Int) (k : Nat) (hk : k < l.length) : rd l k = l[k] := by simp [rd, hk]
theorem ret_bool {a b : Bool} (h : a = b) : Ending.returned (.bool a) = .returned (.bool b) := by rw [h]

/- slices.IndexFunc over whole numbers: where the first element lies for which the function value's answer is true. -/

set_option maxHeartbeats 1000000 in
theorem idxFunc_int (g : Nat) (lb : Array Value) (p : Int → Bool) (A : Option Addr) (c : Nat) (l : List Int) (w : World)
    (eg : ∀ args W, (callFunc g args).run Try.prog W = .ok (.enter g args) W)
    (hp : ∀ (W : World) (x : Int), Below w.heap.size w W → Calls Try.prog g (#[.int .i64 x] ++ lb) W fun e W' => e = .returned (.bool (p x)) ∧ Drawn0 W W')
    (hr : Kd.C (Kd.int .i64) w A l.length l) :
    Calls Try.prog 100 #[.slice A l.length c, .func (.func g) #[] lb] w fun e w' => e = .returned (.int .i64 (idxF p l)) ∧ Drawn0 w w' := by
  have hm : l.length ≤ 9223372036854775807 := hr.2.1
  have HP := Aside0.mk hp
  have HR := Aside0.mk hr
  clear hp hr
  go_enter Try.func100, Try.ntmps100
  go_wp2
  go_loopw [8] (fun v8 W => ∃ k : Nat, v8 = .int .i64 k ∧ k ≤ l.length ∧ SawNone p l k ∧ Drawn0 w W) (fun v8 _ => l.length - (intOf v8).toNat)
  case atStart => exact ⟨0, rfl, by omega, fun j hj => by omega, Drawn0.refl _⟩
  case round =>
    obtain ⟨k, rfl, hk, hs, hd⟩ := hrel
    by_cases hlt : k < l.length
    · obtain ⟨ad, e, hx⟩ := Kd.at_int HR.out (k : Int) (by omega) (by omega)
      cases e
      rw [rd_get l k hlt, Int.toNat_natCast] at hx
      replace hx := (hd.below.cell (World.block_lt_of_cell? w _ hx)).trans hx
      by_cases hv : p l[k] = true
      · have HV := Aside0.mk hv
        clear hv
        go_wp2_with (first | (go_at_fn g; refine (HP.out _ _ hd.below).mono ?_; rintro e w' ⟨rfl, hd2⟩; rw [HV.out]))
        go_ret
        exact ⟨by rw [idxF_at p l k hlt hs HV.out]; rfl, dtrans hd hd2⟩
      · replace hv : p l[k] = false := by simpa using hv
        have hs' := hs.succ hlt hv
        have HV := Aside0.mk hv
        clear hv
        go_wp2_with (first | (go_at_fn g; refine (HP.out _ _ hd.below).mono ?_; rintro e w' ⟨rfl, hd2⟩; rw [HV.out]))
        go_roundw
        case rel => exact ⟨k + 1, by go_num, by omega, hs', dtrans hd hd2⟩
        case measure => simp [intOf]; omega
    · go_wp2
      go_ret
      have : k = l.length := by omega
      subst this
      exact ⟨by rw [idxF_none p l hs]; rfl, hd⟩

/- slices.ContainsFunc over whole numbers. -/

set_option maxHeartbeats 1000000 in
theorem containsFunc_int (g : Nat) (lb : Array Value) (p : Int → Bool) (A : Option Addr) (c : Nat) (l : List Int) (w : World)
    (eg : ∀ args W, (callFunc g args).run Try.prog W = .ok (.enter g args) W)
    (hp : ∀ (W : World) (x : Int), Below w.heap.size w W → Calls Try.prog g (#[.int .i64 x] ++ lb) W fun e W' => e = .returned (.bool (p x)) ∧ Drawn0 W W')
    (hr : Kd.C (Kd.int .i64) w A l.length l) :
    Calls Try.prog 88 #[.slice A l.length c, .func (.func g) #[] lb] w fun e w' => e = .returned (.bool (l.any p)) ∧ Drawn0 w w' := by
  have HP := Aside0.mk hp
  have HR := Aside0.mk hr
  clear hp hr
  go_enter Try.func88, Try.ntmps88
  go_wp2_with (first | (go_at_call 100; refine (idxFunc_int g lb p _ _ _ _ eg HP.out HR.out).mono ?_; rintro e w' ⟨rfl, hd⟩))
  go_ret
  exact ⟨ret_bool (by first | exact idxF_any p l | (rw [← idxF_any p l])), hd⟩

/- impl.areBytes: every number is in 0..255. -/

def notByte (n : Int) : Bool := decide (n < 0) || decide (n > 255)
def impl_areBytes.f (l0 : List Int) : Option Bool := some (!l0.any notByte)

theorem areBytes1 (n : Int) (w : World) : Calls Try.prog 89 #[.int .i64 n] w fun e w' => e = .returned (.bool (notByte n)) ∧ Drawn0 w w' := by
  by_cases h1 : n < 0 <;> by_cases h2 : n > 255
  all_goals
    go_enter Try.func89, Try.ntmps89
    go_wp2
    go_ret
    exact ⟨by simp [notByte, *], Drawn0.refl _⟩

set_option maxHeartbeats 1000000 in
theorem impl_areBytes.calls (A0 : Option Addr) (c0 : Nat) (l0 : List Int) (r : Bool) (w : World) (hr0 : Kd.C (Kd.int .i64) w A0 l0.length l0) (hc0 : l0.length ≤ c0) (h : impl_areBytes.f l0 = some r) :
    Calls Try.prog 63 #[.slice A0 l0.length c0] w fun e w' => e = .returned (.bool r) ∧ Drawn0 w w' := by
  obtain rfl := Option.some.inj h
  clear h
  have HR := Aside0.mk hr0
  clear hr0
  have eg : ∀ args W, (callFunc 89 args).run Try.prog W = .ok (.enter 89 args) W := enters_of Try.func89 (by kernel_rfl) rfl
  go_enter Try.func63, Try.ntmps63
  go_wp2_with (first | (go_at_call 88; refine (containsFunc_int 89 #[] notByte _ _ _ _ eg (fun W x _ => areBytes1 x W) HR.out).mono ?_; rintro e w' ⟨rfl, hd⟩))
  go_ret
  exact ⟨rfl, hd⟩

def impl_isSide.f (a0 : Int) : Option (Bool) := if a0 ≥ 1 then (some (decide (a0 ≤ 16))) else (some false)
set_option maxHeartbeats 8000000 in
set_option maxRecDepth 100000 in
theorem impl_isSide.calls (a0 : Int) (r : Bool) (w : World) (h : impl_isSide.f a0 = some r) :
    Calls Try.prog 62 #[.int .i64 a0] w fun e w' => e = .returned (.bool r) ∧ Drawn0 w w' := by
  have H : (if a0 ≥ 1 then (some (decide (a0 ≤ 16))) else (some false)) = some r := h
  clear h
  by_cases c2 : a0 ≥ 1
  · rw [if_pos c2] at H
    have c2b0 : decide (1 ≤ a0) = true := decide_eq_true c2
    clear c2
    obtain rfl := Option.some.inj H
    go_enter Try.func62, Try.ntmps62
    go_wp2
    go_ret
    exact ⟨by first | rfl | (simp; done) | (simp [*]; done), by repeat (first | exact Drawn0.refl _ | apply Drawn0.step)⟩
  · rw [if_neg c2] at H
    have c2b0 : decide (1 ≤ a0) = false := decide_eq_false c2
    clear c2
    obtain rfl := Option.some.inj H
    go_enter Try.func62, Try.ntmps62
    go_wp2
    go_ret
    exact ⟨by first | rfl | (simp; done) | (simp [*]; done), by repeat (first | exact Drawn0.refl _ | apply Drawn0.step)⟩


def impl_isShape.f (a0 : Int) (a1 : Int) (a2 : Int) : Option (Bool) := (impl_isSide.f a0).bind fun t80001 => (if t80001 = true then ((impl_isSide.f a1).bind fun t80002 => (if t80002 = true then (if a2 ≥ 1 then (some (decide (a2 ≤ 4))) else (some false)) else (some false))) else (some false))
set_option maxHeartbeats 8000000 in
set_option maxRecDepth 100000 in
theorem impl_isShape.calls (a0 : Int) (a1 : Int) (a2 : Int) (r : Bool) (w : World) (h : impl_isShape.f a0 a1 a2 = some r) :
    Calls Try.prog 79 #[.int .i64 a0, .int .i64 a1, .int .i64 a2] w fun e w' => e = .returned (.bool r) ∧ Drawn0 w w' := by
  have H : ((impl_isSide.f a0).bind fun t80001 => (if t80001 = true then ((impl_isSide.f a1).bind fun t80002 => (if t80002 = true then (if a2 ≥ 1 then (some (decide (a2 ≤ 4))) else (some false)) else (some false))) else (some false))) = some r := h
  clear h
  replace H := Option.bind_eq_some_iff.mp H
  obtain ⟨t80001, A40, H⟩ := H
  replace H : (if t80001 = true then ((impl_isSide.f a1).bind fun t80002 => (if t80002 = true then (if a2 ≥ 1 then (some (decide (a2 ≤ 4))) else (some false)) else (some false))) else (some false)) = some r := H
  have A4 := Aside0.mk A40
  clear A40
  by_cases c5 : t80001 = true
  · subst c5
    have H1 : ((impl_isSide.f a1).bind fun t80002 => (if t80002 = true then (if a2 ≥ 1 then (some (decide (a2 ≤ 4))) else (some false)) else (some false))) = some r := by rw [if_pos rfl] at H; exact H
    clear H
    have H := H1
    clear H1
    replace H := Option.bind_eq_some_iff.mp H
    obtain ⟨t80002, A60, H⟩ := H
    replace H : (if t80002 = true then (if a2 ≥ 1 then (some (decide (a2 ≤ 4))) else (some false)) else (some false)) = some r := H
    have A6 := Aside0.mk A60
    clear A60
    by_cases c7 : t80002 = true
    · subst c7
      have H1 : (if a2 ≥ 1 then (some (decide (a2 ≤ 4))) else (some false)) = some r := by rw [if_pos rfl] at H; exact H
      clear H
      have H := H1
      clear H1
      by_cases c8 : a2 ≥ 1
      · rw [if_pos c8] at H
        have c8b0 : decide (1 ≤ a2) = true := decide_eq_true c8
        clear c8
        obtain rfl := Option.some.inj H
        go_enter Try.func79, Try.ntmps79
        go_wp2_with (first | ((with_reducible refine gate_callee (f := 62) rfl ?_); refine goesL_ (some 8) rfl rfl Try.func62 (by kernel_rfl) rfl #[.int .i64 a0] rfl (by (try simp only [List.map_toArray, List.map_cons, List.map_nil]); first | done | rfl | (simp only [List.length_drop, List.length_take]; rfl)) ?_; (with_reducible refine (impl_isSide.calls a0 true _ A4.out).mono ?_); rintro e w' ⟨rfl, ⟨nd, rfl⟩⟩; refine ⟨_, rfl, ?_⟩) | (go_at_call 62; (with_reducible refine (impl_isSide.calls a1 true _ A6.out).mono ?_); rintro e w' ⟨rfl, ⟨nd, rfl⟩⟩))
        go_ret
        exact ⟨by first | rfl | (simp; done) | (simp [*]; done), by repeat (first | exact Drawn0.refl _ | apply Drawn0.step)⟩
      · rw [if_neg c8] at H
        have c8b0 : decide (1 ≤ a2) = false := decide_eq_false c8
        clear c8
        obtain rfl := Option.some.inj H
        go_enter Try.func79, Try.ntmps79
        go_wp2_with (first | ((with_reducible refine gate_callee (f := 62) rfl ?_); refine goesL_ (some 8) rfl rfl Try.func62 (by kernel_rfl) rfl #[.int .i64 a0] rfl (by (try simp only [List.map_toArray, List.map_cons, List.map_nil]); first | done | rfl | (simp only [List.length_drop, List.length_take]; rfl)) ?_; (with_reducible refine (impl_isSide.calls a0 true _ A4.out).mono ?_); rintro e w' ⟨rfl, ⟨nd, rfl⟩⟩; refine ⟨_, rfl, ?_⟩) | (go_at_call 62; (with_reducible refine (impl_isSide.calls a1 true _ A6.out).mono ?_); rintro e w' ⟨rfl, ⟨nd, rfl⟩⟩))
        go_ret
        exact ⟨by first | rfl | (simp; done) | (simp [*]; done), by repeat (first | exact Drawn0.refl _ | apply Drawn0.step)⟩
    · replace c7 := Bool.eq_false_iff.mpr c7
      subst c7
      have H1 : (some false) = some r := by rw [if_neg (show ¬ (false = true) by decide)] at H; exact H
      clear H
      have H := H1
      clear H1
      obtain rfl := Option.some.inj H
      go_enter Try.func79, Try.ntmps79
      go_wp2_with (first | ((with_reducible refine gate_callee (f := 62) rfl ?_); refine goesL_ (some 8) rfl rfl Try.func62 (by kernel_rfl) rfl #[.int .i64 a0] rfl (by (try simp only [List.map_toArray, List.map_cons, List.map_nil]); first | done | rfl | (simp only [List.length_drop, List.length_take]; rfl)) ?_; (with_reducible refine (impl_isSide.calls a0 true _ A4.out).mono ?_); rintro e w' ⟨rfl, ⟨nd, rfl⟩⟩; refine ⟨_, rfl, ?_⟩) | (go_at_call 62; (with_reducible refine (impl_isSide.calls a1 false _ A6.out).mono ?_); rintro e w' ⟨rfl, ⟨nd, rfl⟩⟩))
      go_ret
      exact ⟨by first | rfl | (simp; done) | (simp [*]; done), by repeat (first | exact Drawn0.refl _ | apply Drawn0.step)⟩
  · replace c5 := Bool.eq_false_iff.mpr c5
    subst c5
    have H1 : (some false) = some r := by rw [if_neg (show ¬ (false = true) by decide)] at H; exact H
    clear H
    have H := H1
    clear H1
    obtain rfl := Option.some.inj H
    go_enter Try.func79, Try.ntmps79
    go_wp2_with (first | ((with_reducible refine gate_callee (f := 62) rfl ?_); refine goesL_ (some 8) rfl rfl Try.func62 (by kernel_rfl) rfl #[.int .i64 a0] rfl (by (try simp only [List.map_toArray, List.map_cons, List.map_nil]); first | done | rfl | (simp only [List.length_drop, List.length_take]; rfl)) ?_; (with_reducible refine (impl_isSide.calls a0 false _ A4.out).mono ?_); rintro e w' ⟨rfl, ⟨nd, rfl⟩⟩; refine ⟨_, rfl, ?_⟩))
    go_ret
    exact ⟨by first | rfl | (simp; done) | (simp [*]; done), by repeat (first | exact Drawn0.refl _ | apply Drawn0.step)⟩


def impl_isImage.f (a0_0 : Int) (a0_1 : Int) (a0_2 : Int) (l0_3 : List Int) : Option (Bool) := (impl_isShape.f a0_0 a0_1 a0_2).bind fun t44002 => (if t44002 = true then (if (l0_3.length : Int) = (wrap64 ((wrap64 (a0_0 * a0_1)) * a0_2)) then ((impl_areBytes.f l0_3).bind fun t44003 => (some t44003)) else (some false)) else (some false))
set_option maxHeartbeats 8000000 in
set_option maxRecDepth 100000 in
theorem impl_isImage.calls (a0_0 : Int) (a0_1 : Int) (a0_2 : Int) (A0_3 : Option Addr) (c0_3 : Nat) (l0_3 : List Int) (r : Bool) (w : World) (hr0_3 : Kd.C (Kd.int .i64) w A0_3 l0_3.length l0_3) (hc0_3 : l0_3.length ≤ c0_3) (h : impl_isImage.f a0_0 a0_1 a0_2 l0_3 = some r) :
    Calls Try.prog 43 #[.agg #[.int .i64 a0_0, .int .i64 a0_1, .int .i64 a0_2, .slice A0_3 l0_3.length c0_3]] w fun e w' => e = .returned (.bool r) ∧ Below w.heap.size w w' := by
  have hu28 := Try.underlying28
  have HR0_3 := Aside0.mk hr0_3
  have HC0_3 := Aside0.mk hc0_3
  clear hr0_3 hc0_3
  have HB := Aside0.mk (Below.refl w.heap.size w)
  have H : ((impl_isShape.f a0_0 a0_1 a0_2).bind fun t44002 => (if t44002 = true then (if (l0_3.length : Int) = (wrap64 ((wrap64 (a0_0 * a0_1)) * a0_2)) then ((impl_areBytes.f l0_3).bind fun t44003 => (some t44003)) else (some false)) else (some false))) = some r := h
  clear h
  replace H := Option.bind_eq_some_iff.mp H
  obtain ⟨t44002, A20, H⟩ := H
  replace H : (if t44002 = true then (if (l0_3.length : Int) = (wrap64 ((wrap64 (a0_0 * a0_1)) * a0_2)) then ((impl_areBytes.f l0_3).bind fun t44003 => (some t44003)) else (some false)) else (some false)) = some r := H
  have A2 := Aside0.mk A20
  clear A20
  by_cases c3 : t44002 = true
  · subst c3
    have H1 : (if (l0_3.length : Int) = (wrap64 ((wrap64 (a0_0 * a0_1)) * a0_2)) then ((impl_areBytes.f l0_3).bind fun t44003 => (some t44003)) else (some false)) = some r := by rw [if_pos rfl] at H; exact H
    clear H
    have H := H1
    clear H1
    by_cases c4 : (l0_3.length : Int) = (wrap64 ((wrap64 (a0_0 * a0_1)) * a0_2))
    · rw [if_pos c4] at H
      have c4b0 : ((l0_3.length : Int) == (wrap64 ((wrap64 (a0_0 * a0_1)) * a0_2))) = true := beq_iff_eq.mpr c4
      have c4b1 : ((l0_3.length : Int) != (wrap64 ((wrap64 (a0_0 * a0_1)) * a0_2))) = false := bne_eq_false_iff_eq.mpr c4
      clear c4
      replace H := Option.bind_eq_some_iff.mp H
      obtain ⟨t44003, A50, H⟩ := H
      replace H : (some t44003) = some r := H
      have A5 := Aside0.mk A50
      clear A50
      obtain rfl := Option.some.inj H
      go_enter Try.func43, Try.ntmps43
      go_wp2_with (first | ((with_reducible refine gate_dst (N := 1) rfl ?_); (try (refine gate_guard (by rfl) ?_; dsimp only)); refine box_event ?hg (N := 1) ?hd (cs := #[.int .i64 a0_0, .int .i64 a0_1, .int .i64 a0_2, .slice A0_3 l0_3.length c0_3]) (t := 28) ?hr ?_; (case hd => rfl); (case hg => rfl); (case hr => first | (go_simp; done) | (go_simp; rfl)); intro gb44001 hg w6 hbox hb; have n0_ := Aside0.mk (below_step (by repeat (first | (with_reducible first | exact HB.out | apply below_alloc | apply pw_below_drewN | apply below_drew1) | exact HB.out)) hb); have n1_ := Aside0.mk (hbox); have n2_ := Aside0.mk ((by rw [hg]; exact (below_size (by repeat (first | (with_reducible first | exact HB.out | apply below_alloc | apply pw_below_drewN | apply below_drew1) | exact HB.out))) : w.heap.size ≤ gb44001)); have n3_ := Aside0.mk ((by rw [hg]; exact (below_size (by repeat (first | (with_reducible first | exact HB.out | apply below_alloc | apply pw_below_drewN | apply below_drew1) | exact HB.out))) : w.heap.size ≤ gb44001)); clear HB; have HB := n0_; have BK44001 := n1_; have GW44001 := n2_; have GE44001 := n3_; clear n0_ n1_ n2_ n3_; clear hb hbox hg; have hcz7_0 : w6.cell? ⟨gb44001, 0, none⟩ = some (.int .i64 a0_0) := (blk_cell BK44001.out 0).trans rfl; have hcz7_1 : w6.cell? ⟨gb44001, 1, none⟩ = some (.int .i64 a0_1) := (blk_cell BK44001.out 1).trans rfl; have hcz7_2 : w6.cell? ⟨gb44001, 2, none⟩ = some (.int .i64 a0_2) := (blk_cell BK44001.out 2).trans rfl; have hcz7_3 : w6.cell? ⟨gb44001, 3, none⟩ = some (.slice A0_3 l0_3.length c0_3) := (blk_cell BK44001.out 3).trans rfl; have hfz7_0 := blk_frozen BK44001.out 0; have hfz7_1 := blk_frozen BK44001.out 1; have hfz7_2 := blk_frozen BK44001.out 2; have hfz7_3 := blk_frozen BK44001.out 3) | ((with_reducible refine gate_callee (f := 79) rfl ?_); refine goesL_ (some 9) rfl rfl Try.func79 (by kernel_rfl) rfl #[.int .i64 a0_0, .int .i64 a0_1, .int .i64 a0_2] rfl (by (try simp only [List.map_toArray, List.map_cons, List.map_nil]); first | done | rfl | (simp only [List.length_drop, List.length_take]; rfl)) ?_; (with_reducible refine (impl_isShape.calls a0_0 a0_1 a0_2 true _ A2.out).mono ?_); rintro e w' ⟨rfl, ⟨nd, rfl⟩⟩; refine ⟨_, rfl, ?_⟩) | (go_at_call 63; (with_reducible refine (impl_areBytes.calls _ _ l0_3 t44003 _ ?side1 ?side2 A5.out).mono ?_); (case side1 => repeat (first | exact (Kd.C_below HR0_3.out (by repeat (first | (with_reducible first | exact HB.out | apply below_alloc | apply pw_below_drewN | apply below_drew1 | refine below_set ?_ GE44001.out) | exact HB.out))) | (with_reducible refine Kd.C_alloc ?_ _) | (with_reducible refine Kd.C_drewN ?_ _) | (with_reducible refine Kd.C_drew ?_))); (case side2 => exact HC0_3.out); rintro e w' ⟨rfl, ⟨nd, rfl⟩⟩))
      go_ret
      exact ⟨by first | rfl | (simp [errW_none, errW_some] <;> rfl) | (simp [*, errW_none, errW_some] <;> rfl), by repeat (first | (with_reducible first | exact HB.out | apply below_alloc | apply pw_below_drewN | apply below_drew1 | refine below_set ?_ GE44001.out) | exact HB.out)⟩
    · rw [if_neg c4] at H
      have c4b0 : ((l0_3.length : Int) == (wrap64 ((wrap64 (a0_0 * a0_1)) * a0_2))) = false := beq_eq_false_iff_ne.mpr c4
      have c4b1 : ((l0_3.length : Int) != (wrap64 ((wrap64 (a0_0 * a0_1)) * a0_2))) = true := bne_iff_ne.mpr c4
      obtain rfl := Option.some.inj H
      go_enter Try.func43, Try.ntmps43
      go_wp2_with (first | ((with_reducible refine gate_dst (N := 1) rfl ?_); (try (refine gate_guard (by rfl) ?_; dsimp only)); refine box_event ?hg (N := 1) ?hd (cs := #[.int .i64 a0_0, .int .i64 a0_1, .int .i64 a0_2, .slice A0_3 l0_3.length c0_3]) (t := 28) ?hr ?_; (case hd => rfl); (case hg => rfl); (case hr => first | (go_simp; done) | (go_simp; rfl)); intro gb44001 hg w8 hbox hb; have n0_ := Aside0.mk (below_step (by repeat (first | (with_reducible first | exact HB.out | apply below_alloc | apply pw_below_drewN | apply below_drew1) | exact HB.out)) hb); have n1_ := Aside0.mk (hbox); have n2_ := Aside0.mk ((by rw [hg]; exact (below_size (by repeat (first | (with_reducible first | exact HB.out | apply below_alloc | apply pw_below_drewN | apply below_drew1) | exact HB.out))) : w.heap.size ≤ gb44001)); have n3_ := Aside0.mk ((by rw [hg]; exact (below_size (by repeat (first | (with_reducible first | exact HB.out | apply below_alloc | apply pw_below_drewN | apply below_drew1) | exact HB.out))) : w.heap.size ≤ gb44001)); clear HB; have HB := n0_; have BK44001 := n1_; have GW44001 := n2_; have GE44001 := n3_; clear n0_ n1_ n2_ n3_; clear hb hbox hg; have hcz9_0 : w8.cell? ⟨gb44001, 0, none⟩ = some (.int .i64 a0_0) := (blk_cell BK44001.out 0).trans rfl; have hcz9_1 : w8.cell? ⟨gb44001, 1, none⟩ = some (.int .i64 a0_1) := (blk_cell BK44001.out 1).trans rfl; have hcz9_2 : w8.cell? ⟨gb44001, 2, none⟩ = some (.int .i64 a0_2) := (blk_cell BK44001.out 2).trans rfl; have hcz9_3 : w8.cell? ⟨gb44001, 3, none⟩ = some (.slice A0_3 l0_3.length c0_3) := (blk_cell BK44001.out 3).trans rfl; have hfz9_0 := blk_frozen BK44001.out 0; have hfz9_1 := blk_frozen BK44001.out 1; have hfz9_2 := blk_frozen BK44001.out 2; have hfz9_3 := blk_frozen BK44001.out 3) | ((with_reducible refine gate_callee (f := 79) rfl ?_); refine goesL_ (some 9) rfl rfl Try.func79 (by kernel_rfl) rfl #[.int .i64 a0_0, .int .i64 a0_1, .int .i64 a0_2] rfl (by (try simp only [List.map_toArray, List.map_cons, List.map_nil]); first | done | rfl | (simp only [List.length_drop, List.length_take]; rfl)) ?_; (with_reducible refine (impl_isShape.calls a0_0 a0_1 a0_2 true _ A2.out).mono ?_); rintro e w' ⟨rfl, ⟨nd, rfl⟩⟩; refine ⟨_, rfl, ?_⟩))
      go_ret
      exact ⟨by first | rfl | (simp [errW_none, errW_some] <;> rfl) | (simp [*, errW_none, errW_some] <;> rfl), by repeat (first | (with_reducible first | exact HB.out | apply below_alloc | apply pw_below_drewN | apply below_drew1 | refine below_set ?_ GE44001.out) | exact HB.out)⟩
  · replace c3 := Bool.eq_false_iff.mpr c3
    subst c3
    have H1 : (some false) = some r := by rw [if_neg (show ¬ (false = true) by decide)] at H; exact H
    clear H
    have H := H1
    clear H1
    obtain rfl := Option.some.inj H
    go_enter Try.func43, Try.ntmps43
    go_wp2_with (first | ((with_reducible refine gate_dst (N := 1) rfl ?_); (try (refine gate_guard (by rfl) ?_; dsimp only)); refine box_event ?hg (N := 1) ?hd (cs := #[.int .i64 a0_0, .int .i64 a0_1, .int .i64 a0_2, .slice A0_3 l0_3.length c0_3]) (t := 28) ?hr ?_; (case hd => rfl); (case hg => rfl); (case hr => first | (go_simp; done) | (go_simp; rfl)); intro gb44001 hg w10 hbox hb; have n0_ := Aside0.mk (below_step (by repeat (first | (with_reducible first | exact HB.out | apply below_alloc | apply pw_below_drewN | apply below_drew1) | exact HB.out)) hb); have n1_ := Aside0.mk (hbox); have n2_ := Aside0.mk ((by rw [hg]; exact (below_size (by repeat (first | (with_reducible first | exact HB.out | apply below_alloc | apply pw_below_drewN | apply below_drew1) | exact HB.out))) : w.heap.size ≤ gb44001)); have n3_ := Aside0.mk ((by rw [hg]; exact (below_size (by repeat (first | (with_reducible first | exact HB.out | apply below_alloc | apply pw_below_drewN | apply below_drew1) | exact HB.out))) : w.heap.size ≤ gb44001)); clear HB; have HB := n0_; have BK44001 := n1_; have GW44001 := n2_; have GE44001 := n3_; clear n0_ n1_ n2_ n3_; clear hb hbox hg; have hcz11_0 : w10.cell? ⟨gb44001, 0, none⟩ = some (.int .i64 a0_0) := (blk_cell BK44001.out 0).trans rfl; have hcz11_1 : w10.cell? ⟨gb44001, 1, none⟩ = some (.int .i64 a0_1) := (blk_cell BK44001.out 1).trans rfl; have hcz11_2 : w10.cell? ⟨gb44001, 2, none⟩ = some (.int .i64 a0_2) := (blk_cell BK44001.out 2).trans rfl; have hcz11_3 : w10.cell? ⟨gb44001, 3, none⟩ = some (.slice A0_3 l0_3.length c0_3) := (blk_cell BK44001.out 3).trans rfl; have hfz11_0 := blk_frozen BK44001.out 0; have hfz11_1 := blk_frozen BK44001.out 1; have hfz11_2 := blk_frozen BK44001.out 2; have hfz11_3 := blk_frozen BK44001.out 3) | ((with_reducible refine gate_callee (f := 79) rfl ?_); refine goesL_ (some 9) rfl rfl Try.func79 (by kernel_rfl) rfl #[.int .i64 a0_0, .int .i64 a0_1, .int .i64 a0_2] rfl (by (try simp only [List.map_toArray, List.map_cons, List.map_nil]); first | done | rfl | (simp only [List.length_drop, List.length_take]; rfl)) ?_; (with_reducible refine (impl_isShape.calls a0_0 a0_1 a0_2 false _ A2.out).mono ?_); rintro e w' ⟨rfl, ⟨nd, rfl⟩⟩; refine ⟨_, rfl, ?_⟩))
    go_ret
    exact ⟨by first | rfl | (simp [errW_none, errW_some] <;> rfl) | (simp [*, errW_none, errW_some] <;> rfl), by repeat (first | (with_reducible first | exact HB.out | apply below_alloc | apply pw_below_drewN | apply below_drew1 | refine below_set ?_ GE44001.out) | exact HB.out)⟩


/- A part of a row of one's own is overwritten by a copy; loads of images and numbers in a region that draws its order. -/

theorem fn_runs {P : Program} {oi : Oper} {a : Act} {w : World} {x : Operand} {ws : Array Operand} {ts : Array TypeId} (q : Nat) (lb : Array Value) (eg : ∀ args W, (callFunc q args).run P W = .ok (.enter q args) W)
    (hop : oi.op = .call { callee := .value x, args := ws, argTypes := ts }) (hx : a.eval x = .func (.func q) #[] lb) (args : Array Value) (hargs : ws.map a.eval ++ lb = args) : (execOp a.eval oi).run P w = .ok (.enter q args) w := by
  unfold execOp
  simp [hop, resolve, hx, Deferred.ofValue, invoke, hargs, eg]
/-- a row of numbers, a part of it overwritten -/
def laidOver (d : List Int) (j : Nat) (ys : List Int) : List Int := d.take j ++ (ys ++ d.drop (j + ys.length))
theorem laidOver_length (d : List Int) (j : Nat) (ys : List Int) (h : j + ys.length ≤ d.length) : (laidOver d j ys).length = d.length := by
  unfold laidOver
  rw [List.length_append, List.length_append, List.length_take, List.length_drop]
  omega
def rowD (px : Nat → Nat → List Int) (a y : Nat) : List Int := (List.range a).flatMap (fun x => px x y)
def imgD (px : Nat → Nat → List Int) (a b : Nat) : List Int := (List.range b).flatMap (fun y => rowD px a y)
theorem rowD_succ (px : Nat → Nat → List Int) (a y : Nat) : rowD px (a + 1) y = rowD px a y ++ px a y := by unfold rowD; rw [List.range_succ, List.flatMap_append]; simp
theorem imgD_succ (px : Nat → Nat → List Int) (a b : Nat) : imgD px a (b + 1) = imgD px a b ++ rowD px a b := by unfold imgD; rw [List.range_succ, List.flatMap_append]; simp
end Go.Proofs.Ytgccpcnakkioiaa.Q

/- Plain words: numbers that do not wrap, elements of lists, rounds that are enough. -/
namespace Go.Proofs.Ytgccpcnakkioiaa.Pure
open Go.RowKit Go.Proofs.Ytgccpcnakkioiaa.Q Go.Proofs.YtgccpcnakkioiaaW.PrintWords Go.Proofs.YtgccpcnakkioiaaW.PrintLast Go.Proofs.YtgccpcnakkioiaaW.PrintMore
set_option linter.unusedVariables false
set_option linter.unusedSimpArgs false

theorem w64 {x : Int} (h1 : -9223372036854775808 ≤ x) (h2 : x ≤ 9223372036854775807) : wrap64 x = x := by unfold wrap64; omega
theorem w64n (n : Nat) (h : n < 9223372036854775807) : wrap64 ((n : Int) + 1) = ((n + 1 : Nat) : Int) := by unfold wrap64; omega
theorem rd_nat (l : List Int) (i : Nat) (h : i < l.length) : rd l (i : Int) = l[i] := by simp [rd, h]
theorem ev_const {α : Type} {o : Option α} {r : α} (h : o = some r) : Ev (fun _ => o) r := ⟨0, fun _ _ => h⟩
theorem ev_bind {α β : Type} {g : Nat → Option α} {f : Nat → α → Option β} {a : α} {r : β} (h : Ev g a) (k : Ev (fun n => f n a) r) : Ev (fun n => (g n).bind (f n)) r := Ev.bind h k
theorem ev_now {α β : Type} {o : Option α} {f : Nat → α → Option β} {a : α} {r : β} (h : o = some a) (k : Ev (fun n => f n a) r) : Ev (fun n => o.bind (f n)) r := Ev.bind (ev_const h) k
theorem ev_pos {α : Type} {c : Prop} [Decidable c] {f g : Nat → Option α} {r : α} (h : c) (k : Ev f r) : Ev (fun n => if c then f n else g n) r := by
  simpa [h] using k
theorem ev_neg {α : Type} {c : Prop} [Decidable c] {f g : Nat → Option α} {r : α} (h : ¬ c) (k : Ev g r) : Ev (fun n => if c then f n else g n) r := by
  simpa [h] using k
/-- The same, from some number of rounds on: for loops in loops. -/
theorem ev_up {σ ρ : Type} (n : Nat) (L : Nat → Nat → σ → Option ρ) (Inv : Nat → σ → Prop) (F : Nat → σ → ρ)
    (step : ∀ i s, i < n → Inv i s → Ev (fun k => L k i s) (F i s) ∨ ∃ s', (∀ k, L (k + 1) i s = L k (i + 1) s') ∧ Inv (i + 1) s' ∧ F (i + 1) s' = F i s)
    (last : ∀ s, Inv n s → Ev (fun k => L k n s) (F n s)) :
    ∀ d i s, i + d = n → Inv i s → Ev (fun k => L k i s) (F i s) := by
  intro d
  induction d with
  | zero =>
    intro i s hi hinv
    have : i = n := by omega
    subst this
    exact last s hinv
  | succ d ih =>
    intro i s hi hinv
    rcases step i s (by omega) hinv with h | ⟨s', h, hi', hF⟩
    · exact h
    · rw [← hF]
      exact Ev.step h (ih (i + 1) s' (by omega) hi')
theorem take_set {α : Type} (s : List α) (i : Nat) (c : α) (h : i < s.length) : (s.set i c).take (i + 1) = s.take i ++ [c] := by
  rw [List.take_succ_eq_append_getElem (by simpa using h), List.take_set_of_le (Nat.le_refl i)]
  simp
end Go.Proofs.Ytgccpcnakkioiaa.Pure

/- impl.imageBy: the image whose pixels a function value tells. -/
namespace Go.Proofs.Ytgccpcnakkioiaa.Q
open Go.RowKit Go.Proofs.YtgccpcnakkioiaaW.PrintWords Go.Proofs.YtgccpcnakkioiaaW.PrintLast Go.Proofs.YtgccpcnakkioiaaW.PrintMore
attribute [local go_sem] max2_int min2_int max_two min_two max_three min_three max_four min_four
set_option linter.unusedVariables false
set_option linter.unusedSimpArgs false
open Go.Proofs.Ytgccpcnakkioiaa.Pure

set_option maxHeartbeats 4000000 in
set_option maxRecDepth 100000 in
theorem imageBy_calls (q : Nat) (lb : Array Value) (px : Nat → Nat → List Int) (a b : Nat) (p : Int) (ha : a ≤ 16) (hb_ : b ≤ 16) (w : World)
    (eg : ∀ args W, (callFunc q args).run Try.prog W = .ok (.enter q args) W) (hpl : ∀ x y, x < a → y < b → (px x y).length ≤ 4)
    (hp : ∀ (W : World) (x y : Nat), x < a → y < b → Below w.heap.size w W → Calls Try.prog q (#[.int .i64 (x : Int), .int .i64 (y : Int)] ++ lb) W fun e W' => ∃ (A : Option Addr) (c : Nat), e = .returned (.slice A (px x y).length c) ∧ Kd.C (Kd.int .i64) W' A (px x y).length (px x y) ∧ (px x y).length ≤ c ∧ Below W.heap.size W W') :
    Calls Try.prog 53 #[.int .i64 (a : Int), .int .i64 (b : Int), .int .i64 p, .func (.func q) #[] lb] w fun e w' => ∃ v3_ : Value, e = .returned (.agg #[.int .i64 (a : Int), .int .i64 (b : Int), .int .i64 p, v3_]) ∧ Kd.R (Kd.int .i64) 3 w' w.heap.size (fun _ => True) v3_ (imgD px a b) ∧ Below w.heap.size w w' := by
  have HP := Aside0.mk hp
  have EG := Aside0.mk eg
  have HB0 := Aside0.mk (Below.refl w.heap.size w)
  have hu := Try.underlying28
  have hui := Try.underlying22
  clear hp eg
  go_enter Try.func53, Try.ntmps53
  go_wp2_with (first
    | ((with_reducible refine gate_dst (N := 8) rfl ?_); refine box_event ?hg (N := 8) ?hd (cs := #[.int .i64 0, .int .i64 0, .int .i64 0, .slice none 0 0]) (t := 28) ?hr ?_; (case hd => rfl); (case hg => rfl); (case hr => first | (go_simp; done) | (go_simp; rfl)); intro g8 hg_ w1 hbox hb; have HB1 := Aside0.mk (below_then HB0.out HB0.out.size hb); have K1 := Aside0.mk hbox; have Gg8 := Aside0.mk (show w.heap.size ≤ g8 from by rw [hg_]; exact HB0.out.size); clear hbox hb hg_))
  have HGM := blk_new w1 (.cells #[.int .i64 (a : Int), .int .i64 (b : Int), .int .i64 p, .slice none 0 0] 28 (0, 0))
  obtain ⟨g9, hg9⟩ : ∃ g9, g9 = w1.heap.size := ⟨_, rfl⟩
  have G89 : g8 < g9 := by rw [hg9]; exact blk_lt K1.out
  have GE9 : w.heap.size ≤ g9 := by have := Gg8.out; omega
  rw [← hg9] at HGM ⊢
  go_loopw [17] (fun v17 W => ∃ y : Nat, v17 = .int .i64 y ∧ y ≤ b ∧ (∃ (v : Value) (D : List Int), Aside0 (D = imgD px a y) ∧ Aside0 (D.length ≤ 64 * y) ∧ Aside0 (Kd.R (Kd.int .i64) 3 W w.heap.size (fun _ => True) v D) ∧ Aside0 (W.heap[g9]? = some (.cells #[.int .i64 (a : Int), .int .i64 (b : Int), .int .i64 p, v] 28 (0, 0)))) ∧ Aside0 (W.heap[g8]? = some (.cells #[.int .i64 0, .int .i64 0, .int .i64 0, .slice none 0 0] 28 (0, 0))) ∧ Aside0 (Below w.heap.size w W)) (fun v17 _ => b - (intOf v17).toNat)
  case atStart => exact ⟨0, rfl, by omega, ⟨_, [], ⟨rfl⟩, ⟨by simp⟩, ⟨Kd.R_nil _ _ _ _ _⟩, ⟨HGM⟩⟩, ⟨blk_alloc K1.out _⟩, ⟨below_alloc HB1.out _⟩⟩
  case round =>
    clear HGM hg9
    obtain ⟨y, rfl, hy, ⟨v, D, hD, hdl, hr, h9⟩, h8, hb⟩ := hrel
    by_cases hly : y < b
    · have hdy : decide ((y : Int) < (b : Int)) = true := by simp; omega
      go_wp2
      go_loopw [21] (fun v21 W => ∃ x : Nat, v21 = .int .i64 x ∧ x ≤ a ∧ (∃ (v : Value) (D : List Int), Aside0 (D = imgD px a y ++ rowD px x y) ∧ Aside0 (D.length ≤ 64 * y + 4 * x) ∧ Aside0 (Kd.R (Kd.int .i64) 3 W w.heap.size (fun _ => True) v D) ∧ Aside0 (W.heap[g9]? = some (.cells #[.int .i64 (a : Int), .int .i64 (b : Int), .int .i64 p, v] 28 (0, 0)))) ∧ Aside0 (W.heap[g8]? = some (.cells #[.int .i64 0, .int .i64 0, .int .i64 0, .slice none 0 0] 28 (0, 0))) ∧ Aside0 (Below w.heap.size w W)) (fun v21 _ => a - (intOf v21).toNat)
      case atStart => exact ⟨0, rfl, by omega, ⟨v, D, ⟨by rw [hD.out]; simp [rowD]⟩, hdl, hr, h9⟩, h8, hb⟩
      case round =>
        clear hr h9 h8 hb hdl hD
        obtain ⟨x, rfl, hx, ⟨v, D, hD, hdl, hr, h9⟩, h8, hb⟩ := hrel
        by_cases hlx : x < a
        · have hdx : decide ((x : Int) < (a : Int)) = true := by simp; omega
          go_wp2
          refine start_ (n := 9) (S := fun w' => w'.cell? ⟨g9, 3, none⟩ = some v) (ds := [8]) #[false, false, false, false, false, false, false, false, false] (by kernel_rfl) rfl rfl (((blk_cell (w := wr.drew) h9.out 3).trans rfl)) (fun hHeld => ?_)
          refine pure_ (i := 0) (N := some 24) (v := ?_) (a' := ?_) #[true, false, false, false, false, false, false, false, false] rfl rfl (by kernel_rfl) (fun _ _ _ h => h) (Or.inl ⟨by rfl, ?_⟩) ?_ ?_
          rotate_left
          · intro w'
            go_simp
            with_reducible rfl
          rotate_left
          · simp only [Act.put, List.setIfInBounds_toArray, List.set_cons_zero, List.set_cons_succ, i64_w, i32_w]
            rfl
          refine pure_ (i := 2) (N := some 26) (v := ?_) (a' := ?_) #[true, false, true, false, false, false, false, false, false] rfl rfl (by kernel_rfl) (fun _ _ _ h => h) (Or.inl ⟨by rfl, ?_⟩) ?_ ?_
          rotate_left
          · intro w'
            go_simp
            with_reducible rfl
          rotate_left
          · simp only [Act.put, List.setIfInBounds_toArray, List.set_cons_zero, List.set_cons_succ, i64_w, i32_w]
            rfl
          refine pure_ (i := 3) (N := some 27) (v := ?_) (a' := ?_) #[true, false, true, true, false, false, false, false, false] rfl rfl (by kernel_rfl) (fun _ _ _ h => h) (Or.inl ⟨by rfl, ?_⟩) ?_ ?_
          rotate_left
          · intro w'
            go_simp
            with_reducible rfl
          rotate_left
          · simp only [Act.put, List.setIfInBounds_toArray, List.set_cons_zero, List.set_cons_succ, i64_w, i32_w]
            rfl
          refine pure_ (i := 4) (N := some 28) (v := ?_) (a' := ?_) #[true, false, true, true, true, false, false, false, false] rfl rfl (by kernel_rfl) (fun _ _ _ h => h) (Or.inl ⟨by rfl, ?_⟩) ?_ ?_
          rotate_left
          · intro w'
            go_simp
            with_reducible rfl
          rotate_left
          · simp only [Act.put, List.setIfInBounds_toArray, List.set_cons_zero, List.set_cons_succ, i64_w, i32_w]
            rfl
          refine take_ (i := 1) (N := some 25) (v := ?_) (a' := ?_) #[true, true, true, true, true, false, false, false, false] rfl rfl (by kernel_rfl) (fun _ _ _ h => h) (Or.inl ⟨by rfl, ?_⟩) hHeld ?_ ?_
          rotate_left
          · intro w' s0
            go_simp
            with_reducible rfl
          rotate_left
          · simp only [Act.put, List.setIfInBounds_toArray, List.set_cons_zero, List.set_cons_succ, i64_w, i32_w]
            rfl
          refine one_ (i := 5) (N := some 29) #[true, true, true, true, true, true, false, false, false] rfl rfl (by kernel_rfl) (by decide) (fun K hK => ?_)
          refine call_ q (#[.int .i64 (x : Int), .int .i64 (y : Int)] ++ lb) (by rfl) rfl (fn_runs q lb EG.out rfl rfl _ (by simp only [List.map_toArray, List.map_cons, List.map_nil]; rfl)) ?_
          refine (HP.out _ x y hlx hly (below_drew hb.out)).mono ?_
          rintro e w3 ⟨A, c, rfl, hC, hl3, hb3⟩
          refine ⟨_, rfl, ?_⟩
          have h93 := Aside0.mk (blk_below (w := wr.drew) h9.out hb3)
          have h83 := Aside0.mk (blk_below (w := wr.drew) h8.out hb3)
          have hr3 := Aside0.mk (Kd.R_below (Kd.R_drew hr.out) hb3)
          have hbb3 := Aside0.mk (below_then (below_drew hb.out) (below_drew hb.out).size hb3)
          have hC3 := Aside0.mk hC
          have hl3' := Aside0.mk hl3
          have HPL := Aside0.mk (hpl x y hlx hly)
          clear hb3 hC hl3
          refine hK.out _ _ (((blk_cell h93.out 3).trans rfl)) (fun hHeld => ?_)
          clear hK K
          refine norm_ (a' := ?_) ?_ ?_
          rotate_left
          · show Act.put _ (some 29) _ = _
            simp only [Act.put, List.setIfInBounds_toArray, List.set_cons_zero, List.set_cons_succ, i64_w, i32_w]
            rfl
          refine one_ (i := 6) (N := some 30) #[true, true, true, true, true, true, true, false, false] rfl rfl (by kernel_rfl) (by decide) (fun K hK => ?_)
          refine Kd.R_append_rows_step (Kd.int .i64) (w0 := w) w.heap.size (by rfl) (.tmp 25) (.tmp 29) 22 3 (.int .i64 0) 8 rfl Try.underlying22 info3 rfl (by decide) (by omega) v D (px x y) _ _ _ (fun _ => True) (fun _ => False) rfl rfl hr3.out hC3.out (fun _ _ h => h) (fun _ h => h.elim) (fun _ _ => trivial) hbb3.out hbb3.out.size (by have := HPL.out; have := hdl.out; omega) ?_
          intro v5 w5 ho hb5 hg hat
          have h95 := Aside0.mk (blk_grown h93.out hg (Kd.R_ne hr3.out h93.out (by decide)))
          have h85 := Aside0.mk (blk_grown h83.out hg (Kd.R_ne hr3.out h83.out (by decide)))
          have ho5 := Aside0.mk ho
          have hbb5 := Aside0.mk hb5
          clear ho hb5 hg hat
          obtain ⟨A5, q5, e5⟩ := Kd.R_slice ho5.out
          subst e5
          refine hK.out _ _ (((blk_cell h95.out 3).trans rfl)) (fun hHeld => ?_)
          clear hK K
          refine norm_ (a' := ?_) ?_ ?_
          rotate_left
          · show Act.put _ (some 30) _ = _
            simp only [Act.put, List.setIfInBounds_toArray, List.set_cons_zero, List.set_cons_succ, i64_w, i32_w]
            rfl
          refine pure_ (i := 7) (N := some 31) (v := ?_) (a' := ?_) #[true, true, true, true, true, true, true, true, false] rfl rfl (by kernel_rfl) (fun _ _ _ h => h) (Or.inl ⟨by rfl, ?_⟩) ?_ ?_
          rotate_left
          · intro w'
            go_simp
            with_reducible rfl
          rotate_left
          · simp only [Act.put, List.setIfInBounds_toArray, List.set_cons_zero, List.set_cons_succ, i64_w, i32_w]
            rfl
          refine last_ (i := 8) (N := none) #[true, true, true, true, true, true, true, true, true] rfl rfl (by kernel_rfl) (by decide) (fun K hK => ?_)
          have c95 := (blk_cell h95.out 3).trans rfl
          have f95 := blk_frozen h95.out 3
          refine skip_ (w1 := ?_) (by rfl) rfl ?_ ?_
          rotate_left
          · go_simp
            rfl
          refine hK.out _ _ ?_
          clear hK K
          refine done_ (by kernel_rfl) ?_
          go_wp2
          exact ⟨⟨x + 1, by go_num, by omega, ⟨_, D ++ px x y, ⟨by rw [hD.out, rowD_succ, List.append_assoc]⟩, ⟨by rw [List.length_append]; have := hdl.out; have := HPL.out; omega⟩, ⟨Kd.R_mono (Kd.R_far (p := ⟨g9, 3, none⟩) (Kd.R_types ho5.out h95.out (by decide)) (fun _ hk => hk.2) _) (fun _ _ => trivial)⟩, ⟨blk_put h95.out 3 _ (by rw [List.length_append]; rfl)⟩⟩, ⟨blk_far h85.out (by simp; omega) _⟩, ⟨below_set hbb5.out (by omega)⟩⟩, by simp [intOf]; omega⟩
        · have hdx : decide ((x : Int) < (a : Int)) = false := by simp; omega
          have hxe : x = a := by omega
          subst hxe
          go_wp2
          go_roundw
          case rel => exact ⟨y + 1, by go_num, by omega, ⟨v, D, ⟨by rw [hD.out, imgD_succ]⟩, ⟨by have := hdl.out; omega⟩, hr, h9⟩, h8, hb⟩
          case measure => simp [intOf]; omega
    · have hdy : decide ((y : Int) < (b : Int)) = false := by simp; omega
      have hye : y = b := by omega
      subst hye
      have m0 := blk_cell h9.out 0; have m1 := blk_cell h9.out 1; have m2 := blk_cell h9.out 2; have m3 := blk_cell h9.out 3
      have z0 := blk_cell h8.out 0; have z1 := blk_cell h8.out 1; have z2 := blk_cell h8.out 2; have z3 := blk_cell h8.out 3
      have y0 := blk_frozen h8.out 0; have y1 := blk_frozen h8.out 1; have y2 := blk_frozen h8.out 2; have y3 := blk_frozen h8.out 3
      obtain ⟨A5, q5, e5⟩ := Kd.R_slice hr.out
      subst e5
      go_wp2
      have hD' := hD.out
      subst hD'
      have RR := Kd.R_types hr.out h8.out (by decide)
      have G8 := Gg8.out
      have H8 := h8.out
      refine bodyPost_ret (results_cell_row rfl _ _ g8 28 #[.int .i64 (a : Int), .int .i64 (y : Int), .int .i64 p, .slice A5 (imgD px a y).length q5] (0, 0) _ rfl (by
        refine blk_put (cs := #[.int .i64 (a : Int), .int .i64 (y : Int), .int .i64 p, .slice none 0 0]) ?_ 3 _ rfl
        refine blk_put (cs := #[.int .i64 (a : Int), .int .i64 (y : Int), .int .i64 0, .slice none 0 0]) ?_ 2 _ rfl
        refine blk_put (cs := #[.int .i64 (a : Int), .int .i64 0, .int .i64 0, .slice none 0 0]) ?_ 1 _ rfl
        refine blk_put (cs := #[.int .i64 0, .int .i64 0, .int .i64 0, .slice none 0 0]) ?_ 0 _ rfl
        exact H8
        ) hu rfl (by kernel_rfl)) rfl ?_
      exact ⟨_, rfl, Kd.R_mono (Kd.R_far (Kd.R_far (Kd.R_far (Kd.R_far RR (fun k hk => hk.2) _) (fun k hk => hk.2) _) (fun k hk => hk.2) _) (fun k hk => hk.2) _) (fun _ _ => trivial), below_set (below_set (below_set (below_set hb.out (by omega)) (by omega)) (by omega)) (by omega)⟩

/- (impl.Image).at: the numbers of a pixel, in the memory of the image. -/

/-- the numbers from j on, p of them -/
def pixT (d : List Int) (j p : Int) : List Int := (d.take (wrap64 (j + p) : Int).toNat).drop (j : Int).toNat
set_option maxHeartbeats 1600000 in
set_option maxRecDepth 100000 in
theorem at_callsX (a b p : Int) (A : Option Addr) (c n : Nat) (x y j : Int) (hc : n ≤ c) (hj : wrap64 ((wrap64 ((wrap64 (y * a)) + x)) * p) = j) (h0 : 0 ≤ j) (h1 : j ≤ wrap64 (j + p)) (h2 : wrap64 (j + p) ≤ (n : Int)) (A' : Option Addr) (hA : A' = if c = j.toNat then A else A.map (·.add (j.toNat * 1))) (w : World) :
    Calls Try.prog 55 #[.agg #[.int .i64 a, .int .i64 b, .int .i64 p, .slice A n c], .int .i64 x, .int .i64 y] w fun e w' => e = .returned (.slice A' ((wrap64 (j + p)).toNat - j.toNat) (c - j.toNat)) ∧ Below w.heap.size w w' := by
  obtain ⟨i0, hi0, _, hsz, _⟩ := info_parts info3
  have hcut := cut_mid (P := Try.prog) 22 3 .i64 .i64 Try.underlying22 hi0 1 hsz A n c j (wrap64 (j + p)) h0 h1 h2 hc
  rw [← hA] at hcut
  clear hA
  have hu := Try.underlying28
  have hjw : (IntKind.i64.wrap ((wrap64 ((wrap64 (y * a)) + x)) * p)) = j := (i64_w _).trans hj
  have d0 : decide (0 ≤ j) = true := decide_eq_true h0
  have d1 : decide (j ≤ wrap64 (j + p)) = true := decide_eq_true h1
  have d2 : decide (wrap64 (j + p) ≤ (n : Int)) = true := decide_eq_true h2
  have e0 := eq_true h0
  have e1 := eq_true h1
  have e2 := eq_true h2
  clear hi0 hsz hj
  go_enter Try.func55, Try.ntmps55
  go_wp2_with (first | ((with_reducible refine gate_dst (N := 3) rfl ?_); refine box_event ?hg (N := 3) ?hd (cs := #[.int .i64 a, .int .i64 b, .int .i64 p, .slice A n c]) (t := 28) ?hr ?_; (case hd => rfl); (case hg => rfl); (case hr => first | (go_simp; done) | (go_simp; rfl)); intro gb hg w9 hbox hb; have HB := Aside0.mk (below_step (Below.refl w.heap.size w) hb); have BK := Aside0.mk hbox; have hcz0 : w9.cell? ⟨gb, 0, none⟩ = some (.int .i64 a) := (blk_cell BK.out 0).trans rfl; have hcz1 : w9.cell? ⟨gb, 1, none⟩ = some (.int .i64 b) := (blk_cell BK.out 1).trans rfl; have hcz2 : w9.cell? ⟨gb, 2, none⟩ = some (.int .i64 p) := (blk_cell BK.out 2).trans rfl; have hcz3 : w9.cell? ⟨gb, 3, none⟩ = some (.slice A n c) := (blk_cell BK.out 3).trans rfl; clear hbox hb hg))
  go_ret
  exact ⟨rfl, HB.out⟩
theorem pixT_length (d : List Int) (j p : Int) (h2 : wrap64 (j + p) ≤ (d.length : Int)) : (pixT d j p).length = (wrap64 (j + p)).toNat - j.toNat := by
  unfold pixT
  rw [List.length_drop, List.length_take, Nat.min_eq_left (by omega)]
theorem pixT_C {w : World} {A : Option Addr} {c : Nat} {d : List Int} {j p : Int} (h : Kd.C (Kd.int .i64) w A d.length d) (hc : d.length ≤ c) (h1 : j ≤ wrap64 (j + p)) (h2 : wrap64 (j + p) ≤ (d.length : Int)) :
    Kd.C (Kd.int .i64) w (if c = j.toNat then A else A.map (·.add (j.toNat * 1))) (pixT d j p).length (pixT d j p) := Kd.C_mid h (by omega) (by omega) hc
theorem at_calls (a b p : Int) (A : Option Addr) (c : Nat) (d : List Int) (x y j : Int) (hc : d.length ≤ c) (hj : wrap64 ((wrap64 ((wrap64 (y * a)) + x)) * p) = j) (h0 : 0 ≤ j) (h1 : j ≤ wrap64 (j + p)) (h2 : wrap64 (j + p) ≤ (d.length : Int)) :
    ∃ (A' : Option Addr) (c' : Nat), (pixT d j p).length ≤ c' ∧ ∀ w : World, Kd.C (Kd.int .i64) w A d.length d → (Kd.C (Kd.int .i64) w A' (pixT d j p).length (pixT d j p) ∧
      Calls Try.prog 55 #[.agg #[.int .i64 a, .int .i64 b, .int .i64 p, .slice A d.length c], .int .i64 x, .int .i64 y] w fun e w' => e = .returned (.slice A' (pixT d j p).length c') ∧ Below w.heap.size w w') := by
  refine ⟨_, c - j.toNat, by rw [pixT_length d j p h2]; omega, fun w hr => ⟨pixT_C hr hc h1 h2, ?_⟩⟩
  rw [pixT_length d j p h2]
  exact at_callsX a b p A c d.length x y j hc hj h0 h1 h2 _ rfl w
end Go.Proofs.Ytgccpcnakkioiaa.Q

namespace Go.Proofs.Ytgccpcnakkioiaa.Q
open Go.RowKit Go.Proofs.YtgccpcnakkioiaaW.PrintWords Go.Proofs.YtgccpcnakkioiaaW.PrintLast Go.Proofs.YtgccpcnakkioiaaW.PrintMore
attribute [local go_sem] max2_int min2_int max_two min_two max_three min_three max_four min_four
set_option linter.unusedVariables false
set_option linter.unusedSimpArgs false
def laws_szIntS.f (l0 : List Int) (a1 : Int) : Option (Int) := if (wrap64 (a1 - (l0.length : Int))) < 0 then (some (-1)) else (some (wrap64 (a1 - (l0.length : Int))))
set_option maxHeartbeats 8000000 in
set_option maxRecDepth 100000 in
theorem laws_szIntS.calls (A0 : Option Addr) (c0 : Nat) (l0 : List Int) (a1 : Int) (r : Int) (w : World) (hr0 : Kd.C (Kd.int .i64) w A0 l0.length l0) (hc0 : l0.length ≤ c0) (h : laws_szIntS.f l0 a1 = some r) :
    Calls Try.prog 38 #[.slice A0 l0.length c0, .int .i64 a1] w fun e w' => e = .returned (.int .i64 r) ∧ Drawn0 w w' := by
  have HR0 := Aside0.mk hr0
  have HC0 := Aside0.mk hc0
  clear hr0 hc0
  have H : (if (wrap64 (a1 - (l0.length : Int))) < 0 then (some (-1)) else (some (wrap64 (a1 - (l0.length : Int))))) = some r := h
  clear h
  by_cases c3 : (wrap64 (a1 - (l0.length : Int))) < 0
  · rw [if_pos c3] at H
    have c3b0 : decide ((wrap64 (a1 - (l0.length : Int))) < 0) = true := decide_eq_true c3
    clear c3
    obtain rfl := Option.some.inj H
    go_enter Try.func38, Try.ntmps38
    go_wp2
    go_ret
    exact ⟨by first | rfl | (simp; done) | (simp [*]; done), by repeat (first | exact Drawn0.refl _ | apply Drawn0.step)⟩
  · rw [if_neg c3] at H
    have c3b0 : decide ((wrap64 (a1 - (l0.length : Int))) < 0) = false := decide_eq_false c3
    clear c3
    obtain rfl := Option.some.inj H
    go_enter Try.func38, Try.ntmps38
    go_wp2
    go_ret
    exact ⟨by first | rfl | (simp; done) | (simp [*]; done), by repeat (first | exact Drawn0.refl _ | apply Drawn0.step)⟩


def laws_szImage.f (a0_0 : Int) (a0_1 : Int) (a0_2 : Int) (l0_3 : List Int) (a1 : Int) : Option (Int) := (laws_szIntS.f l0_3 a1).bind fun t11002 => (if t11002 < 0 then (some (-1)) else (some t11002))
set_option maxHeartbeats 8000000 in
set_option maxRecDepth 100000 in
theorem laws_szImage.calls (a0_0 : Int) (a0_1 : Int) (a0_2 : Int) (A0_3 : Option Addr) (c0_3 : Nat) (l0_3 : List Int) (a1 : Int) (r : Int) (w : World) (hr0_3 : Kd.C (Kd.int .i64) w A0_3 l0_3.length l0_3) (hc0_3 : l0_3.length ≤ c0_3) (h : laws_szImage.f a0_0 a0_1 a0_2 l0_3 a1 = some r) :
    Calls Try.prog 10 #[.agg #[.int .i64 a0_0, .int .i64 a0_1, .int .i64 a0_2, .slice A0_3 l0_3.length c0_3], .int .i64 a1] w fun e w' => e = .returned (.int .i64 r) ∧ Below w.heap.size w w' := by
  have hu24 := Try.underlying24
  have HR0_3 := Aside0.mk hr0_3
  have HC0_3 := Aside0.mk hc0_3
  clear hr0_3 hc0_3
  have HB := Aside0.mk (Below.refl w.heap.size w)
  have H : ((laws_szIntS.f l0_3 a1).bind fun t11002 => (if t11002 < 0 then (some (-1)) else (some t11002))) = some r := h
  clear h
  replace H := Option.bind_eq_some_iff.mp H
  obtain ⟨t11002, A30, H⟩ := H
  replace H : (if t11002 < 0 then (some (-1)) else (some t11002)) = some r := H
  have A3 := Aside0.mk A30
  clear A30
  by_cases c4 : t11002 < 0
  · rw [if_pos c4] at H
    have c4b0 : decide (t11002 < 0) = true := decide_eq_true c4
    clear c4
    obtain rfl := Option.some.inj H
    go_enter Try.func10, Try.ntmps10
    go_wp2_with (first | ((with_reducible refine gate_dst (N := 2) rfl ?_); refine box_event ?hg (N := 2) ?hd (cs := #[.int .i64 a0_0, .int .i64 a0_1, .int .i64 a0_2, .slice A0_3 l0_3.length c0_3]) (t := 24) ?hr ?_; (case hd => rfl); (case hg => rfl); (case hr => first | (go_simp; done) | (go_simp; rfl)); intro gb11001 hg w5 hbox hb; have n0_ := Aside0.mk (below_step (by repeat (first | (with_reducible first | exact HB.out | apply below_alloc | apply pw_below_drewN | apply below_drew1) | exact HB.out)) hb); have n1_ := Aside0.mk (hbox); have n2_ := Aside0.mk ((by rw [hg]; exact (below_size (by repeat (first | (with_reducible first | exact HB.out | apply below_alloc | apply pw_below_drewN | apply below_drew1) | exact HB.out))) : w.heap.size ≤ gb11001)); have n3_ := Aside0.mk ((by rw [hg]; exact (below_size (by repeat (first | (with_reducible first | exact HB.out | apply below_alloc | apply pw_below_drewN | apply below_drew1) | exact HB.out))) : w.heap.size ≤ gb11001)); clear HB; have HB := n0_; have BK11001 := n1_; have GW11001 := n2_; have GE11001 := n3_; clear n0_ n1_ n2_ n3_; clear hb hbox hg; have hcz6_0 : w5.cell? ⟨gb11001, 0, none⟩ = some (.int .i64 a0_0) := (blk_cell BK11001.out 0).trans rfl; have hcz6_1 : w5.cell? ⟨gb11001, 1, none⟩ = some (.int .i64 a0_1) := (blk_cell BK11001.out 1).trans rfl; have hcz6_2 : w5.cell? ⟨gb11001, 2, none⟩ = some (.int .i64 a0_2) := (blk_cell BK11001.out 2).trans rfl; have hcz6_3 : w5.cell? ⟨gb11001, 3, none⟩ = some (.slice A0_3 l0_3.length c0_3) := (blk_cell BK11001.out 3).trans rfl; have hfz6_0 := blk_frozen BK11001.out 0; have hfz6_1 := blk_frozen BK11001.out 1; have hfz6_2 := blk_frozen BK11001.out 2; have hfz6_3 := blk_frozen BK11001.out 3) | ((with_reducible refine gate_callee (f := 38) rfl ?_); refine goesL_ (some 8) rfl rfl Try.func38 (by kernel_rfl) rfl #[.slice A0_3 l0_3.length c0_3, .int .i64 a1] rfl (by (try simp only [List.map_toArray, List.map_cons, List.map_nil]); first | done | rfl | (simp only [List.length_drop, List.length_take]; rfl)) ?_; (with_reducible refine (laws_szIntS.calls _ _ l0_3 a1 t11002 _ ?side1 ?side2 A3.out).mono ?_); (case side1 => repeat (first | exact (Kd.C_below HR0_3.out HB.out) | (with_reducible refine Kd.C_alloc ?_ _) | (with_reducible refine Kd.C_drewN ?_ _) | (with_reducible refine Kd.C_drew ?_))); (case side2 => exact HC0_3.out); rintro e w' ⟨rfl, ⟨nd, rfl⟩⟩; refine ⟨_, rfl, ?_⟩))
    go_ret
    exact ⟨by first | rfl | (simp [errW_none, errW_some] <;> rfl) | (simp [*, errW_none, errW_some] <;> rfl), by repeat (first | (with_reducible first | exact HB.out | apply below_alloc | apply pw_below_drewN | apply below_drew1 | refine below_set ?_ GE11001.out) | exact HB.out)⟩
  · rw [if_neg c4] at H
    have c4b0 : decide (t11002 < 0) = false := decide_eq_false c4
    clear c4
    obtain rfl := Option.some.inj H
    go_enter Try.func10, Try.ntmps10
    go_wp2_with (first | ((with_reducible refine gate_dst (N := 2) rfl ?_); refine box_event ?hg (N := 2) ?hd (cs := #[.int .i64 a0_0, .int .i64 a0_1, .int .i64 a0_2, .slice A0_3 l0_3.length c0_3]) (t := 24) ?hr ?_; (case hd => rfl); (case hg => rfl); (case hr => first | (go_simp; done) | (go_simp; rfl)); intro gb11001 hg w7 hbox hb; have n0_ := Aside0.mk (below_step (by repeat (first | (with_reducible first | exact HB.out | apply below_alloc | apply pw_below_drewN | apply below_drew1) | exact HB.out)) hb); have n1_ := Aside0.mk (hbox); have n2_ := Aside0.mk ((by rw [hg]; exact (below_size (by repeat (first | (with_reducible first | exact HB.out | apply below_alloc | apply pw_below_drewN | apply below_drew1) | exact HB.out))) : w.heap.size ≤ gb11001)); have n3_ := Aside0.mk ((by rw [hg]; exact (below_size (by repeat (first | (with_reducible first | exact HB.out | apply below_alloc | apply pw_below_drewN | apply below_drew1) | exact HB.out))) : w.heap.size ≤ gb11001)); clear HB; have HB := n0_; have BK11001 := n1_; have GW11001 := n2_; have GE11001 := n3_; clear n0_ n1_ n2_ n3_; clear hb hbox hg; have hcz8_0 : w7.cell? ⟨gb11001, 0, none⟩ = some (.int .i64 a0_0) := (blk_cell BK11001.out 0).trans rfl; have hcz8_1 : w7.cell? ⟨gb11001, 1, none⟩ = some (.int .i64 a0_1) := (blk_cell BK11001.out 1).trans rfl; have hcz8_2 : w7.cell? ⟨gb11001, 2, none⟩ = some (.int .i64 a0_2) := (blk_cell BK11001.out 2).trans rfl; have hcz8_3 : w7.cell? ⟨gb11001, 3, none⟩ = some (.slice A0_3 l0_3.length c0_3) := (blk_cell BK11001.out 3).trans rfl; have hfz8_0 := blk_frozen BK11001.out 0; have hfz8_1 := blk_frozen BK11001.out 1; have hfz8_2 := blk_frozen BK11001.out 2; have hfz8_3 := blk_frozen BK11001.out 3) | ((with_reducible refine gate_callee (f := 38) rfl ?_); refine goesL_ (some 8) rfl rfl Try.func38 (by kernel_rfl) rfl #[.slice A0_3 l0_3.length c0_3, .int .i64 a1] rfl (by (try simp only [List.map_toArray, List.map_cons, List.map_nil]); first | done | rfl | (simp only [List.length_drop, List.length_take]; rfl)) ?_; (with_reducible refine (laws_szIntS.calls _ _ l0_3 a1 t11002 _ ?side1 ?side2 A3.out).mono ?_); (case side1 => repeat (first | exact (Kd.C_below HR0_3.out HB.out) | (with_reducible refine Kd.C_alloc ?_ _) | (with_reducible refine Kd.C_drewN ?_ _) | (with_reducible refine Kd.C_drew ?_))); (case side2 => exact HC0_3.out); rintro e w' ⟨rfl, ⟨nd, rfl⟩⟩; refine ⟨_, rfl, ?_⟩))
    go_ret
    exact ⟨by first | rfl | (simp [errW_none, errW_some] <;> rfl) | (simp [*, errW_none, errW_some] <;> rfl), by repeat (first | (with_reducible first | exact HB.out | apply below_alloc | apply pw_below_drewN | apply below_drew1 | refine below_set ?_ GE11001.out) | exact HB.out)⟩


def laws_toIntS.l0 : Nat → List Int → List Int → Int → Option (List Int)
  | 0, _, _, _ => none
  | k + 1, x0, x3, x4 => if x4 < (x0.length : Int) then (if 0 ≤ x4 then (if x4 < (x3.length : Int) then (laws_toIntS.l0 k x0 (x3.set (x4 : Int).toNat (rd x0 x4)) (wrap64 (x4 + 1))) else (none)) else (none)) else (some x3)
def laws_toIntS.f (k : Nat) (l0 : List Int) : Option (List Int) := if 0 ≤ (l0.length : Int) then (if ((l0.length : Int) : Int).toNat ≤ 35184372088832 then (laws_toIntS.l0 k l0 (List.replicate ((l0.length : Int) : Int).toNat 0) 0) else (none)) else (none)
theorem laws_toIntS.mono_l : ∀ k, (∀ y0 y1 y2, LeO (laws_toIntS.l0 k y0 y1 y2) (laws_toIntS.l0 (k + 1) y0 y1 y2))
  | 0 => fun _ _ _ r h => by simp [laws_toIntS.l0] at h
  | k + 1 => by
    have ih0 := laws_toIntS.mono_l k
    · intro y0 y1 y2
      unfold laws_toIntS.l0
      repeat' first
      | (with_reducible exact ih0 _ _ _)
      | (with_reducible exact LeO.refl _)
      | (with_reducible exact LeO.none _)
      | (with_reducible refine LeO.ite ?_ ?_)
      | (with_reducible refine LeO.bind ?_ (fun _ => ?_))
      | exact ih0 _ _ _
      | exact LeO.none _
      | refine LeO.ite ?_ ?_
      | refine LeO.bind ?_ (fun _ => ?_)
theorem laws_toIntS.mono : ∀ a0 k, LeO (laws_toIntS.f k a0) (laws_toIntS.f (k + 1) a0) := by
  intro a0 k
  have ih0 := laws_toIntS.mono_l k
  unfold laws_toIntS.f
  repeat' first
      | (with_reducible exact ih0 _ _ _)
      | (with_reducible exact LeO.refl _)
      | (with_reducible exact LeO.none _)
      | (with_reducible refine LeO.ite ?_ ?_)
      | (with_reducible refine LeO.bind ?_ (fun _ => ?_))
      | exact ih0 _ _ _
      | exact LeO.none _
      | refine LeO.ite ?_ ?_
      | refine LeO.bind ?_ (fun _ => ?_)
set_option maxHeartbeats 8000000 in
set_option maxRecDepth 100000 in
theorem laws_toIntS.calls (k : Nat) (A0 : Option Addr) (c0 : Nat) (l0 : List Int) (r : List Int) (w : World) (hr0 : Kd.C (Kd.int .i64) w A0 l0.length l0) (hc0 : l0.length ≤ c0) (h : laws_toIntS.f k l0 = some r) :
    Calls Try.prog 42 #[.slice A0 l0.length c0] w fun e w' => ∃ v0_ : Value, e = .returned (v0_) ∧ Kd.R (Kd.int .i64) 3 w' w.heap.size (fun _ => True) v0_ r ∧ Below w.heap.size w w' := by
  have HR0 := Aside0.mk hr0
  have HC0 := Aside0.mk hc0
  clear hr0 hc0
  have HB := Aside0.mk (Below.refl w.heap.size w)
  have H : (if 0 ≤ (l0.length : Int) then (if ((l0.length : Int) : Int).toNat ≤ 35184372088832 then (laws_toIntS.l0 k l0 (List.replicate ((l0.length : Int) : Int).toNat 0) 0) else (none)) else (none)) = some r := h
  clear h
  by_cases c2 : 0 ≤ (l0.length : Int)
  · rw [if_pos c2] at H
    have c2b0 := eq_true c2
    have c2b1 : decide (0 ≤ (l0.length : Int)) = true := decide_eq_true c2
    clear c2
    by_cases c3 : ((l0.length : Int) : Int).toNat ≤ 35184372088832
    · rw [if_pos c3] at H
      have c3b0 := eq_true c3
      have c3b1 : decide (((l0.length : Int) : Int).toNat ≤ 35184372088832) = true := decide_eq_true c3
      clear c3
      obtain ⟨y43001, hy43001⟩ : ∃ y_ : List Int, y_ = (List.replicate ((l0.length : Int) : Int).toNat 0) := ⟨_, rfl⟩
      replace H : (laws_toIntS.l0 k l0 y43001 0) = some r := by first | (rw [hy43001]; with_reducible exact H) | (have H2_ := (Option.bind_some _ _).symm.trans H; rw [hy43001]; with_reducible exact H2_) | (have H2_ := (Option.bind_some _ _).symm.trans H; with_reducible exact H2_) | with_reducible exact H | (rw [hy43001]; exact H) | exact H
      have Ny43001 := Aside0.mk hy43001
      clear hy43001
      have H' := Aside0.mk H
      clear H
      go_enter Try.func42, Try.ntmps42
      go_wp2_with (first | ((with_reducible refine gate_dst (N := 7) rfl ?_); refine Kd.R_make (Kd.int .i64) _ 3 rfl (N := 7) rfl 22 _ _ rfl (l0.length : Int) rfl rfl Try.underlying22 (.int .i64 0) 8 info3 rfl (by decide) (by omega) 0 (ok := fun _ => True) (okp := fun _ => True) rfl (fun _ hk => hk) trivial (of_decide_eq_true (by first | (with_reducible assumption) | assumption)) (Nat.le_trans (Nat.mul_le_mul_right _ (of_decide_eq_true (by first | (with_reducible assumption) | assumption) : (l0.length : Int).toNat ≤ 35184372088832)) (by omega)) (Below.refl _ _) (Nat.le_refl _) ?_; intro v43002 w4 ho5 hb hg_ hnew_; clear hg_ hnew_; (first | rw [← Ny43001.out] at ho5 | (simp only [Int.reduceToNat] at ho5; rw [← Ny43001.out] at ho5)); have n0_ := Aside0.mk (Kd.R_lower ho5 (below_size (by repeat (first | (with_reducible first | exact HB.out | apply below_alloc | apply pw_below_drewN | apply below_drew1) | exact HB.out)))); have n1_ := Aside0.mk (below_step (by repeat (first | (with_reducible first | exact HB.out | apply below_alloc | apply pw_below_drewN | apply below_drew1) | exact HB.out)) hb); clear HB; have HO43003 := n0_; have HB := n1_; clear n0_ n1_; clear hb ho5))
      go_loopg [4] k (fun kq v4 w' => ∃ (x3_1 : List Int) (x4_1 : Int), v4 = .int .i64 x4_1 ∧ Aside0 (laws_toIntS.l0 kq l0 x3_1 x4_1 = some r) ∧ Aside0 (kq ≤ k) ∧ Aside0 (Kd.R (Kd.int .i64) 3 w' w.heap.size (fun _ => True) v43002 x3_1) ∧ Aside0 (Below w.heap.size w w'))
      case atStart => exact ⟨(y43001), (0), (by first | rfl | (simp; done) | (simp [*]; done)), H', ⟨Nat.le_refl _⟩, ⟨by (with_reducible repeat (first | apply Kd.R_alloc | apply Kd.R_drewN | apply Kd.R_drew)); exact HO43003.out⟩, ⟨by repeat (first | (with_reducible first | exact HB.out | apply below_alloc | apply pw_below_drewN | apply below_drew1) | exact HB.out)⟩⟩
      case round =>
        clear H'
        try clear c2
        try clear c2b0
        try clear c2b1
        try clear p2
        try clear c3
        try clear c3b0
        try clear c3b1
        try clear c4
        obtain ⟨x3_1, x4_1, rfl, HA, HK1, HO_3, HB⟩ := hrel
        cases gk with
        | zero => exact absurd HA.out (by simp [laws_toIntS.l0])
        | succ k1 =>
          have H := HA.out
          clear HA
          simp only [laws_toIntS.l0] at H
          by_cases c6 : x4_1 < (l0.length : Int)
          · rw [if_pos c6] at H
            have c6b0 : decide (x4_1 < (l0.length : Int)) = true := decide_eq_true c6
            clear c6
            by_cases c7 : 0 ≤ x4_1
            · rw [if_pos c7] at H
              have c7b0 : decide (0 ≤ x4_1) = true := decide_eq_true c7
              clear c7
              by_cases c8 : x4_1 < (x3_1.length : Int)
              · rw [if_pos c8] at H
                have c8b0 : decide (x4_1 < (x3_1.length : Int)) = true := decide_eq_true c8
                clear c8
                obtain ⟨y43005, hy43005⟩ : ∃ y_ : List Int, y_ = (x3_1.set (x4_1 : Int).toNat (rd l0 x4_1)) := ⟨_, rfl⟩
                replace H : (laws_toIntS.l0 k1 l0 y43005 (wrap64 (x4_1 + 1))) = some r := by first | (rw [hy43005]; with_reducible exact H) | (have H2_ := (Option.bind_some _ _).symm.trans H; rw [hy43005]; with_reducible exact H2_) | (have H2_ := (Option.bind_some _ _).symm.trans H; with_reducible exact H2_) | with_reducible exact H | (rw [hy43005]; exact H) | exact H
                have Ny43005 := Aside0.mk hy43005
                clear hy43005
                have H' := Aside0.mk H
                clear H
                have p43004 : 0 ≤ (x4_1 : Int) := of_decide_eq_true (by first | (with_reducible assumption) | assumption)
                have q43004 : x4_1 < (l0.length : Int) := of_decide_eq_true (by first | (with_reducible assumption) | assumption)
                obtain ⟨ad43004, e43004, hx43004_0⟩ := Kd.at_int HR0.out x4_1 p43004 q43004
                cases e43004
                replace hx43004_0 := (HB.out.cell (World.block_lt_of_cell? w _ hx43004_0)).trans hx43004_0
                replace p43004 := eq_true p43004
                replace q43004 := eq_true q43004
                have p9 : 0 ≤ (x4_1 : Int) := of_decide_eq_true (by first | (with_reducible assumption) | assumption)
                have q9 : (x4_1 : Int) < ((x3_1.length : Int) : Int) := of_decide_eq_true (by first | (with_reducible assumption) | assumption)
                obtain ⟨go9, co9, eo9, gb9, gl9, cl9, HG9⟩ := Kd.R_form HO_3.out (by omega)
                (first | cases eo9 | (injection eo9 with ea_ en_ ec_; (first | subst ea_ | (injection ea_ with ea_; subst ea_)); subst ec_; clear en_))
                have GB9 := Aside0.mk gb9
                have GG9 := Aside0.mk HG9
                clear gb9 gl9 HG9
                obtain ⟨hx9_0, hf9_0⟩ := Kd.R_celln 0 HO_3.out (x4_1 : Int) p9 q9
                replace p9 := eq_true p9
                replace q9 := eq_true q9
                have HP10 := Kd.R_putg HO_3.out (x4_1 : Int) (rd l0 x4_1)
                go_wp2_with (first | ((with_reducible refine gate_store (t := 3) (p := 20) rfl ?_); refine store_event (t := 3) (p := 20) (v := ?vo_w11) (w1 := (wr.setCell ⟨go9, (x4_1 : Int).toNat, none⟩ (.int .i64 (rd l0 x4_1)))) ?hg ?ho ?hn ?hr ?_; (case ho => rfl); (case hg => rfl); (case hn => rfl); (case hr => first | (go_simp; done) | (go_simp; rfl)); intro w11 hw; have hg : wr.grownBy w11 (some go9) := (by rw [hw]; exact HP10.2); have hp_ : Kd.R (Kd.int .i64) 3 w11 w.heap.size (fun _ => True) (.slice (some ⟨go9, 0, none⟩) x3_1.length co9) y43005 := (by rw [hw, Ny43005.out]; exact HP10.1); clear HP10; have n0_ := Aside0.mk (hp_); have n1_ := Aside0.mk ((by rw [hw]; exact below_set (HB.out) GB9.out : Below w.heap.size w w11)); clear HO_3; clear HB; have HO_3 := n0_; have HB := n1_; clear n0_ n1_; clear hg hw hp_))
                go_roundg k1
                case measure => have := HK1.out; omega
                case rel => exact ⟨(y43005), (wrap64 (x4_1 + 1)), (by first | rfl | (simp; done) | (simp [*]; done)), H', ⟨by have := HK1.out; omega⟩, ⟨by (with_reducible repeat (first | apply Kd.R_alloc | apply Kd.R_drewN | apply Kd.R_drew)); exact HO_3.out⟩, ⟨by repeat (first | (with_reducible first | exact HB.out | apply below_alloc | apply pw_below_drewN | apply below_drew1) | exact HB.out)⟩⟩
              · rw [if_neg c8] at H
                exact absurd H (by simp)
            · rw [if_neg c7] at H
              exact absurd H (by simp)
          · rw [if_neg c6] at H
            have c6b0 : decide (x4_1 < (l0.length : Int)) = false := decide_eq_false c6
            clear c6
            obtain rfl := Option.some.inj H
            go_wp2
            go_ret
            exact ⟨_, by first | rfl | (simp [errW_none, errW_some] <;> rfl) | (simp [*, errW_none, errW_some] <;> rfl), by (with_reducible repeat (first | apply Kd.R_alloc | apply Kd.R_drewN | apply Kd.R_drew)); exact HO_3.out, by repeat (first | (with_reducible first | exact HB.out | apply below_alloc | apply pw_below_drewN | apply below_drew1) | exact HB.out)⟩
    · rw [if_neg c3] at H
      exact absurd H (by simp)
  · rw [if_neg c2] at H
    exact absurd H (by simp)


def laws_toImage.f (k : Nat) (a0_0 : Int) (a0_1 : Int) (a0_2 : Int) (l0_3 : List Int) : Option (Int × Int × Int × List Int) := (laws_toIntS.f k l0_3).bind fun t14004 => (some (a0_0, a0_1, a0_2, t14004))
theorem laws_toImage.mono : ∀ a0 a1 a2 a3 k, LeO (laws_toImage.f k a0 a1 a2 a3) (laws_toImage.f (k + 1) a0 a1 a2 a3) := by
  intro a0 a1 a2 a3 k
  unfold laws_toImage.f
  repeat' first | (with_reducible exact laws_toIntS.mono _ _) | (with_reducible exact LeO.refl _) | (with_reducible refine LeO.bind ?_ (fun _ => ?_))
set_option maxHeartbeats 8000000 in
set_option maxRecDepth 100000 in
theorem laws_toImage.calls (k : Nat) (a0_0 : Int) (a0_1 : Int) (a0_2 : Int) (A0_3 : Option Addr) (c0_3 : Nat) (l0_3 : List Int) (r1 : Int) (r2 : Int) (r3 : Int) (r4 : List Int) (w : World) (hr0_3 : Kd.C (Kd.int .i64) w A0_3 l0_3.length l0_3) (hc0_3 : l0_3.length ≤ c0_3) (h : laws_toImage.f k a0_0 a0_1 a0_2 l0_3 = some (r1, r2, r3, r4)) :
    Calls Try.prog 13 #[.agg #[.int .i64 a0_0, .int .i64 a0_1, .int .i64 a0_2, .slice A0_3 l0_3.length c0_3]] w fun e w' => ∃ v3_ : Value, e = .returned (.agg #[.int .i64 r1, .int .i64 r2, .int .i64 r3, v3_]) ∧ Kd.R (Kd.int .i64) 3 w' w.heap.size (fun _ => True) v3_ r4 ∧ Below w.heap.size w w' := by
  have hu24 := Try.underlying24
  have hu28 := Try.underlying28
  have HR0_3 := Aside0.mk hr0_3
  have HC0_3 := Aside0.mk hc0_3
  clear hr0_3 hc0_3
  have HB := Aside0.mk (Below.refl w.heap.size w)
  have H : ((laws_toIntS.f k l0_3).bind fun t14004 => (some (a0_0, a0_1, a0_2, t14004))) = some (r1, r2, r3, r4) := h
  clear h
  replace H := Option.bind_eq_some_iff.mp H
  obtain ⟨t14004, A20, H⟩ := H
  replace H : (some (a0_0, a0_1, a0_2, t14004)) = some (r1, r2, r3, r4) := H
  have A2 := Aside0.mk A20
  clear A20
  simp only [Option.some.injEq, Prod.mk.injEq] at H
  obtain ⟨rfl, rfl, rfl, rfl⟩ := H
  go_enter Try.func13, Try.ntmps13
  go_wp2_with (first | ((with_reducible refine gate_dst (N := 1) rfl ?_); refine box_event ?hg (N := 1) ?hd (cs := #[.int .i64 a0_0, .int .i64 a0_1, .int .i64 a0_2, .slice A0_3 l0_3.length c0_3]) (t := 24) ?hr ?_; (case hd => rfl); (case hg => rfl); (case hr => (go_simp; done)); intro gb14001 hg w3 hbox hb; have n0_ := Aside0.mk (below_step HB.out hb); have n1_ := Aside0.mk (hbox); have n2_ := Aside0.mk ((by rw [hg]; exact (below_size HB.out) : w.heap.size ≤ gb14001)); have n3_ := Aside0.mk ((by rw [hg]; exact (below_size HB.out) : w.heap.size ≤ gb14001)); clear HB; have HB := n0_; have BK14001 := n1_; have GW14001 := n2_; have GE14001 := n3_; clear n0_ n1_ n2_ n3_; clear hb hbox hg) | ((with_reducible refine gate_dst (N := 2) rfl ?_); refine box_event ?hg (N := 2) ?hd (cs := #[.int .i64 0, .int .i64 0, .int .i64 0, .slice none 0 0]) (t := 28) ?hr ?_; (case hd => rfl); (case hg => rfl); (case hr => (go_simp; done)); intro gb14002 hg w4 hbox hb; have n0_ := Aside0.mk (blk_below BK14001.out hb); have n1_ := Aside0.mk (below_step HB.out hb); have n2_ := Aside0.mk (hbox); have n3_ := Aside0.mk ((by rw [hg]; exact (below_size HB.out) : w.heap.size ≤ gb14002)); have n4_ := Aside0.mk ((by rw [hg]; exact (below_size HB.out) : w.heap.size ≤ gb14002)); have n5_ := Aside0.mk ((by rw [hg]; exact Nat.ne_of_lt (blk_lt BK14001.out) : gb14001 ≠ gb14002)); have n6_ := Aside0.mk ((by rw [hg]; exact Nat.ne_of_gt (blk_lt BK14001.out) : gb14002 ≠ gb14001)); clear BK14001; clear HB; have BK14001 := n0_; have HB := n1_; have BK14002 := n2_; have GW14002 := n3_; have GE14002 := n4_; have NB14001_14002 := n5_; have NB14002_14001 := n6_; clear n0_ n1_ n2_ n3_ n4_ n5_ n6_; clear hb hbox hg) | ((with_reducible refine gate_dst (N := 3) rfl ?_); refine box_event ?hg (N := 3) ?hd (cs := #[.int .i64 0, .int .i64 0, .int .i64 0, .slice none 0 0]) (t := 28) ?hr ?_; (case hd => rfl); (case hg => rfl); (case hr => (go_simp; done)); intro gb14003 hg w5 hbox hb; have n0_ := Aside0.mk (blk_below BK14001.out hb); have n1_ := Aside0.mk (blk_below BK14002.out hb); have n2_ := Aside0.mk (below_step HB.out hb); have n3_ := Aside0.mk (hbox); have n4_ := Aside0.mk ((by rw [hg]; exact (below_size HB.out) : w.heap.size ≤ gb14003)); have n5_ := Aside0.mk ((by rw [hg]; exact (below_size HB.out) : w.heap.size ≤ gb14003)); have n6_ := Aside0.mk ((by rw [hg]; exact Nat.ne_of_lt (blk_lt BK14001.out) : gb14001 ≠ gb14003)); have n7_ := Aside0.mk ((by rw [hg]; exact Nat.ne_of_gt (blk_lt BK14001.out) : gb14003 ≠ gb14001)); have n8_ := Aside0.mk ((by rw [hg]; exact Nat.ne_of_lt (blk_lt BK14002.out) : gb14002 ≠ gb14003)); have n9_ := Aside0.mk ((by rw [hg]; exact Nat.ne_of_gt (blk_lt BK14002.out) : gb14003 ≠ gb14002)); clear BK14001; clear BK14002; clear HB; have BK14001 := n0_; have BK14002 := n1_; have HB := n2_; have BK14003 := n3_; have GW14003 := n4_; have GE14003 := n5_; have NB14001_14003 := n6_; have NB14003_14001 := n7_; have NB14002_14003 := n8_; have NB14003_14002 := n9_; clear n0_ n1_ n2_ n3_ n4_ n5_ n6_ n7_ n8_ n9_; clear hb hbox hg; have hnb6 := NB14001_14002.out; have hnc6 := NB14002_14001.out; have hnb7 := NB14001_14003.out; have hnc7 := NB14003_14001.out; have hcz8_0 : w5.cell? ⟨gb14001, 0, none⟩ = some (.int .i64 a0_0) := (blk_cell BK14001.out 0).trans rfl; have hcz8_1 : w5.cell? ⟨gb14001, 1, none⟩ = some (.int .i64 a0_1) := (blk_cell BK14001.out 1).trans rfl; have hcz8_2 : w5.cell? ⟨gb14001, 2, none⟩ = some (.int .i64 a0_2) := (blk_cell BK14001.out 2).trans rfl; have hcz8_3 : w5.cell? ⟨gb14001, 3, none⟩ = some (.slice A0_3 l0_3.length c0_3) := (blk_cell BK14001.out 3).trans rfl; have hfz8_0 := blk_frozen BK14001.out 0; have hfz8_1 := blk_frozen BK14001.out 1; have hfz8_2 := blk_frozen BK14001.out 2; have hfz8_3 := blk_frozen BK14001.out 3; have hnb9 := NB14003_14002.out; have hnc9 := NB14002_14003.out; have hcz10_0 : w5.cell? ⟨gb14003, 0, none⟩ = some (.int .i64 0) := (blk_cell BK14003.out 0).trans rfl; have hcz10_1 : w5.cell? ⟨gb14003, 1, none⟩ = some (.int .i64 0) := (blk_cell BK14003.out 1).trans rfl; have hcz10_2 : w5.cell? ⟨gb14003, 2, none⟩ = some (.int .i64 0) := (blk_cell BK14003.out 2).trans rfl; have hcz10_3 : w5.cell? ⟨gb14003, 3, none⟩ = some (.slice none 0 0) := (blk_cell BK14003.out 3).trans rfl; have hfz10_0 := blk_frozen BK14003.out 0; have hfz10_1 := blk_frozen BK14003.out 1; have hfz10_2 := blk_frozen BK14003.out 2; have hfz10_3 := blk_frozen BK14003.out 3) | ((with_reducible refine gate_callee (f := 42) rfl ?_); refine goesL_ (some 15) rfl rfl Try.func42 (by kernel_rfl) rfl #[.slice A0_3 l0_3.length c0_3] rfl (by (try simp only [List.map_toArray, List.map_cons, List.map_nil]); rfl) ?_; (with_reducible refine (laws_toIntS.calls k _ _ l0_3 t14004 _ ?side1 ?side2 A2.out).mono ?_); (case side1 => exact Kd.C_below HR0_3.out (by repeat (with_reducible first | exact HB.out | refine below_set ?_ GE14003.out))); (case side2 => exact HC0_3.out); rintro e w11 ⟨v14005, rfl, ho0, hb⟩; refine ⟨_, rfl, ?_⟩; have n0_ := Aside0.mk (Kd.R_lower ho0 (below_size (by repeat (with_reducible first | exact HB.out | refine below_set ?_ GE14003.out)))); have n1_ := Aside0.mk (blk_below (g := gb14001) (o := .cells #[.int .i64 a0_0, .int .i64 a0_1, .int .i64 a0_2, .slice A0_3 l0_3.length c0_3] 24 (0, 0)) (by refine blk_far ?_ NB14001_14003.out _; (with_reducible repeat (first | refine blk_drewN ?_ _ | refine blk_drew ?_ | refine blk_alloc ?_ _)); refine blk_far ?_ NB14001_14003.out _; (with_reducible repeat (first | refine blk_drewN ?_ _ | refine blk_drew ?_ | refine blk_alloc ?_ _)); refine blk_far ?_ NB14001_14003.out _; (with_reducible repeat (first | refine blk_drewN ?_ _ | refine blk_drew ?_ | refine blk_alloc ?_ _)); exact BK14001.out) hb); have n2_ := Aside0.mk (blk_below (g := gb14002) (o := .cells #[.int .i64 0, .int .i64 0, .int .i64 0, .slice none 0 0] 28 (0, 0)) (by refine blk_far ?_ NB14002_14003.out _; (with_reducible repeat (first | refine blk_drewN ?_ _ | refine blk_drew ?_ | refine blk_alloc ?_ _)); refine blk_far ?_ NB14002_14003.out _; (with_reducible repeat (first | refine blk_drewN ?_ _ | refine blk_drew ?_ | refine blk_alloc ?_ _)); refine blk_far ?_ NB14002_14003.out _; (with_reducible repeat (first | refine blk_drewN ?_ _ | refine blk_drew ?_ | refine blk_alloc ?_ _)); exact BK14002.out) hb); have n3_ := Aside0.mk (blk_below (g := gb14003) (o := .cells #[.int .i64 a0_0, .int .i64 a0_1, .int .i64 a0_2, .slice none 0 0] 28 (0, 0)) (by refine blk_put (cs := #[.int .i64 a0_0, .int .i64 a0_1, .int .i64 0, .slice none 0 0]) ?_ 2 _ rfl; (with_reducible repeat (first | refine blk_drewN ?_ _ | refine blk_drew ?_ | refine blk_alloc ?_ _)); refine blk_put (cs := #[.int .i64 a0_0, .int .i64 0, .int .i64 0, .slice none 0 0]) ?_ 1 _ rfl; (with_reducible repeat (first | refine blk_drewN ?_ _ | refine blk_drew ?_ | refine blk_alloc ?_ _)); refine blk_put (cs := #[.int .i64 0, .int .i64 0, .int .i64 0, .slice none 0 0]) ?_ 0 _ rfl; (with_reducible repeat (first | refine blk_drewN ?_ _ | refine blk_drew ?_ | refine blk_alloc ?_ _)); exact BK14003.out) hb); have n4_ := Aside0.mk (below_step (by repeat (with_reducible first | exact HB.out | refine below_set ?_ GE14003.out)) hb); clear BK14001; clear BK14002; clear BK14003; clear HB; have HO14006 := n0_; have BK14001 := n1_; have BK14002 := n2_; have BK14003 := n3_; have HB := n4_; clear n0_ n1_ n2_ n3_ n4_; (try clear hb); (try clear ho0); obtain ⟨Ao12, co12, eo12⟩ := Kd.R_slice HO14006.out; subst eo12; have hcz13_0 : w11.cell? ⟨gb14003, 0, none⟩ = some (.int .i64 a0_0) := (blk_cell BK14003.out 0).trans rfl; have hcz13_1 : w11.cell? ⟨gb14003, 1, none⟩ = some (.int .i64 a0_1) := (blk_cell BK14003.out 1).trans rfl; have hcz13_2 : w11.cell? ⟨gb14003, 2, none⟩ = some (.int .i64 a0_2) := (blk_cell BK14003.out 2).trans rfl; have hcz13_3 : w11.cell? ⟨gb14003, 3, none⟩ = some (.slice none 0 0) := (blk_cell BK14003.out 3).trans rfl; have hfz13_0 := blk_frozen BK14003.out 0; have hfz13_1 := blk_frozen BK14003.out 1; have hfz13_2 := blk_frozen BK14003.out 2; have hfz13_3 := blk_frozen BK14003.out 3; have hcz14_0 : w11.cell? ⟨gb14002, 0, none⟩ = some (.int .i64 0) := (blk_cell BK14002.out 0).trans rfl; have hcz14_1 : w11.cell? ⟨gb14002, 1, none⟩ = some (.int .i64 0) := (blk_cell BK14002.out 1).trans rfl; have hcz14_2 : w11.cell? ⟨gb14002, 2, none⟩ = some (.int .i64 0) := (blk_cell BK14002.out 2).trans rfl; have hcz14_3 : w11.cell? ⟨gb14002, 3, none⟩ = some (.slice none 0 0) := (blk_cell BK14002.out 3).trans rfl; have hfz14_0 := blk_frozen BK14002.out 0; have hfz14_1 := blk_frozen BK14002.out 1; have hfz14_2 := blk_frozen BK14002.out 2; have hfz14_3 := blk_frozen BK14002.out 3))
  refine bodyPost_ret (results_cell_row rfl _ _ gb14002 28 #[.int .i64 a0_0, .int .i64 a0_1, .int .i64 a0_2, .slice Ao12 t14004.length co12] (0, 0) _ rfl (by refine blk_put (cs := #[.int .i64 a0_0, .int .i64 a0_1, .int .i64 a0_2, .slice none 0 0]) ?_ 3 _ rfl; (with_reducible repeat (first | refine blk_drewN ?_ _ | refine blk_drew ?_ | refine blk_alloc ?_ _)); refine blk_put (cs := #[.int .i64 a0_0, .int .i64 a0_1, .int .i64 0, .slice none 0 0]) ?_ 2 _ rfl; (with_reducible repeat (first | refine blk_drewN ?_ _ | refine blk_drew ?_ | refine blk_alloc ?_ _)); refine blk_put (cs := #[.int .i64 a0_0, .int .i64 0, .int .i64 0, .slice none 0 0]) ?_ 1 _ rfl; (with_reducible repeat (first | refine blk_drewN ?_ _ | refine blk_drew ?_ | refine blk_alloc ?_ _)); refine blk_put (cs := #[.int .i64 0, .int .i64 0, .int .i64 0, .slice none 0 0]) ?_ 0 _ rfl; (with_reducible repeat (first | refine blk_drewN ?_ _ | refine blk_drew ?_ | refine blk_alloc ?_ _)); refine blk_far ?_ NB14002_14003.out _; (with_reducible repeat (first | refine blk_drewN ?_ _ | refine blk_drew ?_ | refine blk_alloc ?_ _)); exact BK14002.out) Try.underlying28 rfl (by kernel_rfl)) rfl ?_
  exact ⟨_, by rfl, by (with_reducible repeat (first | apply Kd.R_alloc | apply Kd.R_drewN | apply Kd.R_drew)); exact Kd.R_mono (Kd.R_far (p := ⟨gb14002, 3, none⟩) (Kd.R_far (p := ⟨gb14002, 2, none⟩) (Kd.R_far (p := ⟨gb14002, 1, none⟩) (Kd.R_far (p := ⟨gb14002, 0, none⟩) (Kd.R_far (p := ⟨gb14003, 3, none⟩) (Kd.R_types (Kd.R_types HO14006.out BK14003.out (by decide)) BK14002.out (by decide)) (fun _ hk => hk.1.2) (.slice Ao12 t14004.length co12)) (fun _ hk => hk.2) (.int .i64 a0_0)) (fun _ hk => hk.2) (.int .i64 a0_1)) (fun _ hk => hk.2) (.int .i64 a0_2)) (fun _ hk => hk.2) (.slice Ao12 t14004.length co12)) (fun _ hk => trivial), by repeat (with_reducible first | exact HB.out | refine below_set ?_ GE14002.out | refine below_set ?_ GE14003.out)⟩


def laws_eqIntS.l0 : Nat → List Int → List Int → Int → Option (Bool)
  | 0, _, _, _ => none
  | k + 1, x0, x1, x5 => if x5 < (x0.length : Int) then (if 0 ≤ x5 then (if x5 < (x1.length : Int) then (if (rd x0 x5) = (rd x1 x5) then (laws_eqIntS.l0 k x0 x1 (wrap64 (x5 + 1))) else (some false)) else (none)) else (none)) else (some true)
def laws_eqIntS.f (k : Nat) (l0 : List Int) (l1 : List Int) : Option (Bool) := if (l0.length : Int) = (l1.length : Int) then (laws_eqIntS.l0 k l0 l1 0) else (some false)
theorem laws_eqIntS.mono_l : ∀ k, (∀ y0 y1 y2, LeO (laws_eqIntS.l0 k y0 y1 y2) (laws_eqIntS.l0 (k + 1) y0 y1 y2))
  | 0 => fun _ _ _ r h => by simp [laws_eqIntS.l0] at h
  | k + 1 => by
    have ih0 := laws_eqIntS.mono_l k
    · intro y0 y1 y2
      unfold laws_eqIntS.l0
      repeat' first
      | (with_reducible exact ih0 _ _ _)
      | (with_reducible exact LeO.refl _)
      | (with_reducible exact LeO.none _)
      | (with_reducible refine LeO.ite ?_ ?_)
      | (with_reducible refine LeO.bind ?_ (fun _ => ?_))
      | exact ih0 _ _ _
      | exact LeO.none _
      | refine LeO.ite ?_ ?_
      | refine LeO.bind ?_ (fun _ => ?_)
theorem laws_eqIntS.mono : ∀ a0 a1 k, LeO (laws_eqIntS.f k a0 a1) (laws_eqIntS.f (k + 1) a0 a1) := by
  intro a0 a1 k
  have ih0 := laws_eqIntS.mono_l k
  unfold laws_eqIntS.f
  repeat' first
      | (with_reducible exact ih0 _ _ _)
      | (with_reducible exact LeO.refl _)
      | (with_reducible exact LeO.none _)
      | (with_reducible refine LeO.ite ?_ ?_)
      | (with_reducible refine LeO.bind ?_ (fun _ => ?_))
      | exact ih0 _ _ _
      | exact LeO.none _
      | refine LeO.ite ?_ ?_
      | refine LeO.bind ?_ (fun _ => ?_)
set_option maxHeartbeats 8000000 in
set_option maxRecDepth 100000 in
theorem laws_eqIntS.calls (k : Nat) (A0 : Option Addr) (c0 : Nat) (l0 : List Int) (A1 : Option Addr) (c1 : Nat) (l1 : List Int) (r : Bool) (w : World) (hr0 : Kd.C (Kd.int .i64) w A0 l0.length l0) (hc0 : l0.length ≤ c0) (hr1 : Kd.C (Kd.int .i64) w A1 l1.length l1) (hc1 : l1.length ≤ c1) (h : laws_eqIntS.f k l0 l1 = some r) :
    Calls Try.prog 46 #[.slice A0 l0.length c0, .slice A1 l1.length c1] w fun e w' => e = .returned (.bool r) ∧ Drawn0 w w' := by
  have HR0 := Aside0.mk hr0
  have HC0 := Aside0.mk hc0
  clear hr0 hc0
  have HR1 := Aside0.mk hr1
  have HC1 := Aside0.mk hc1
  clear hr1 hc1
  have H : (if (l0.length : Int) = (l1.length : Int) then (laws_eqIntS.l0 k l0 l1 0) else (some false)) = some r := h
  clear h
  by_cases c3 : (l0.length : Int) = (l1.length : Int)
  · rw [if_pos c3] at H
    have c3b0 : ((l0.length : Int) == (l1.length : Int)) = true := beq_iff_eq.mpr c3
    have c3b1 : ((l0.length : Int) != (l1.length : Int)) = false := bne_eq_false_iff_eq.mpr c3
    have c3b2 : (l0.length == l1.length) = true := by first | simpa using c3 | (simp at c3 ⊢; omega)
    clear c3
    have H' := Aside0.mk H
    clear H
    go_enter Try.func46, Try.ntmps46
    go_wp2
    repeat (go_quiet (fail); try go_wp2)
    go_loopg [5] k (fun kq v5 w' => ∃ (x5_1 : Int), v5 = .int .i64 x5_1 ∧ Aside0 (laws_eqIntS.l0 kq l0 l1 x5_1 = some r) ∧ Aside0 (kq ≤ k) ∧ Drawn0 w w')
    case atStart => exact ⟨(0), (by first | rfl | (simp; done) | (simp [*]; done)), H', ⟨Nat.le_refl _⟩, by repeat (first | exact Drawn0.refl _ | apply Drawn0.step)⟩
    case round =>
      clear H'
      try clear c1
      try clear p2
      try clear c3
      try clear c3b0
      try clear c3b1
      try clear c3b2
      obtain ⟨x5_1, rfl, HA, HK1, ⟨m1, rfl⟩⟩ := hrel
      cases gk with
      | zero => exact absurd HA.out (by simp [laws_eqIntS.l0])
      | succ k1 =>
        have H := HA.out
        clear HA
        simp only [laws_eqIntS.l0] at H
        by_cases c4 : x5_1 < (l0.length : Int)
        · rw [if_pos c4] at H
          have c4b0 : decide (x5_1 < (l0.length : Int)) = true := decide_eq_true c4
          clear c4
          by_cases c5 : 0 ≤ x5_1
          · rw [if_pos c5] at H
            have c5b0 : decide (0 ≤ x5_1) = true := decide_eq_true c5
            clear c5
            by_cases c6 : x5_1 < (l1.length : Int)
            · rw [if_pos c6] at H
              have c6b0 : decide (x5_1 < (l1.length : Int)) = true := decide_eq_true c6
              clear c6
              by_cases c7 : (rd l0 x5_1) = (rd l1 x5_1)
              · rw [if_pos c7] at H
                have c7b0 : ((rd l0 x5_1) == (rd l1 x5_1)) = true := beq_iff_eq.mpr c7
                have c7b1 : ((rd l0 x5_1) != (rd l1 x5_1)) = false := bne_eq_false_iff_eq.mpr c7
                clear c7
                have H' := Aside0.mk H
                clear H
                have p47001 : 0 ≤ (x5_1 : Int) := of_decide_eq_true (by first | (with_reducible assumption) | assumption)
                have q47001 : x5_1 < (l0.length : Int) := of_decide_eq_true (by first | (with_reducible assumption) | assumption)
                obtain ⟨ad47001, e47001, hx47001_0⟩ := Kd.at_int HR0.out x5_1 p47001 q47001
                cases e47001
                replace p47001 := eq_true p47001
                replace q47001 := eq_true q47001
                have p47002 : 0 ≤ (x5_1 : Int) := of_decide_eq_true (by first | (with_reducible assumption) | assumption)
                have q47002 : x5_1 < (l1.length : Int) := of_decide_eq_true (by first | (with_reducible assumption) | assumption)
                obtain ⟨ad47002, e47002, hx47002_0⟩ := Kd.at_int HR1.out x5_1 p47002 q47002
                cases e47002
                replace p47002 := eq_true p47002
                replace q47002 := eq_true q47002
                go_wp2
                repeat (go_quiet (fail); try go_wp2)
                go_roundg k1
                case measure => have := HK1.out; omega
                case rel => exact ⟨(wrap64 (x5_1 + 1)), (by first | rfl | (simp; done) | (simp [*]; done)), H', ⟨by have := HK1.out; omega⟩, by repeat (first | exact Drawn0.refl _ | apply Drawn0.step)⟩
              · rw [if_neg c7] at H
                have c7b0 : ((rd l0 x5_1) == (rd l1 x5_1)) = false := beq_eq_false_iff_ne.mpr c7
                have c7b1 : ((rd l0 x5_1) != (rd l1 x5_1)) = true := bne_iff_ne.mpr c7
                obtain rfl := Option.some.inj H
                have p47001 : 0 ≤ (x5_1 : Int) := of_decide_eq_true (by first | (with_reducible assumption) | assumption)
                have q47001 : x5_1 < (l0.length : Int) := of_decide_eq_true (by first | (with_reducible assumption) | assumption)
                obtain ⟨ad47001, e47001, hx47001_0⟩ := Kd.at_int HR0.out x5_1 p47001 q47001
                cases e47001
                replace p47001 := eq_true p47001
                replace q47001 := eq_true q47001
                have p47002 : 0 ≤ (x5_1 : Int) := of_decide_eq_true (by first | (with_reducible assumption) | assumption)
                have q47002 : x5_1 < (l1.length : Int) := of_decide_eq_true (by first | (with_reducible assumption) | assumption)
                obtain ⟨ad47002, e47002, hx47002_0⟩ := Kd.at_int HR1.out x5_1 p47002 q47002
                cases e47002
                replace p47002 := eq_true p47002
                replace q47002 := eq_true q47002
                go_wp2
                repeat (go_quiet (fail); try go_wp2)
                go_ret
                exact ⟨by first | rfl | (simp; done) | (simp [*]; done), by repeat (first | exact Drawn0.refl _ | apply Drawn0.step)⟩
            · rw [if_neg c6] at H
              exact absurd H (by simp)
          · rw [if_neg c5] at H
            exact absurd H (by simp)
        · rw [if_neg c4] at H
          have c4b0 : decide (x5_1 < (l0.length : Int)) = false := decide_eq_false c4
          clear c4
          obtain rfl := Option.some.inj H
          go_wp2
          repeat (go_quiet (fail); try go_wp2)
          go_ret
          exact ⟨by first | rfl | (simp; done) | (simp [*]; done), by repeat (first | exact Drawn0.refl _ | apply Drawn0.step)⟩
  · rw [if_neg c3] at H
    have c3b0 : ((l0.length : Int) == (l1.length : Int)) = false := beq_eq_false_iff_ne.mpr c3
    have c3b1 : ((l0.length : Int) != (l1.length : Int)) = true := bne_iff_ne.mpr c3
    have c3b2 : (l0.length == l1.length) = false := by first | simpa using c3 | (simp at c3 ⊢; omega)
    obtain rfl := Option.some.inj H
    go_enter Try.func46, Try.ntmps46
    go_wp2
    repeat (go_quiet (fail); try go_wp2)
    go_ret
    exact ⟨by first | rfl | (simp; done) | (simp [*]; done), by repeat (first | exact Drawn0.refl _ | apply Drawn0.step)⟩


def laws_eqImage.f (k : Nat) (a0_0 : Int) (a0_1 : Int) (a0_2 : Int) (l0_3 : List Int) (a1_0 : Int) (a1_1 : Int) (a1_2 : Int) (l1_3 : List Int) : Option (Bool) := if a0_0 = a1_0 then (if a0_1 = a1_1 then (if a0_2 = a1_2 then ((laws_eqIntS.f k l0_3 l1_3).bind fun t17003 => (if t17003 = true then (some true) else (some false))) else (some false)) else (some false)) else (some false)
theorem laws_eqImage.mono : ∀ a0 a1 a2 a3 a4 a5 a6 a7 k, LeO (laws_eqImage.f k a0 a1 a2 a3 a4 a5 a6 a7) (laws_eqImage.f (k + 1) a0 a1 a2 a3 a4 a5 a6 a7) := by
  intro a0 a1 a2 a3 a4 a5 a6 a7 k
  unfold laws_eqImage.f
  repeat' first
      | (with_reducible exact laws_eqIntS.mono _ _ _)
      | (with_reducible exact LeO.refl _)
      | (with_reducible exact LeO.none _)
      | (with_reducible refine LeO.ite ?_ ?_)
      | (with_reducible refine LeO.bind ?_ (fun _ => ?_))
      | exact laws_eqIntS.mono _ _ _
      | exact LeO.none _
      | refine LeO.ite ?_ ?_
      | refine LeO.bind ?_ (fun _ => ?_)
set_option maxHeartbeats 8000000 in
set_option maxRecDepth 100000 in
theorem laws_eqImage.calls (k : Nat) (a0_0 : Int) (a0_1 : Int) (a0_2 : Int) (A0_3 : Option Addr) (c0_3 : Nat) (l0_3 : List Int) (a1_0 : Int) (a1_1 : Int) (a1_2 : Int) (A1_3 : Option Addr) (c1_3 : Nat) (l1_3 : List Int) (r : Bool) (w : World) (hr0_3 : Kd.C (Kd.int .i64) w A0_3 l0_3.length l0_3) (hc0_3 : l0_3.length ≤ c0_3) (hr1_3 : Kd.C (Kd.int .i64) w A1_3 l1_3.length l1_3) (hc1_3 : l1_3.length ≤ c1_3) (h : laws_eqImage.f k a0_0 a0_1 a0_2 l0_3 a1_0 a1_1 a1_2 l1_3 = some r) (hrt : r = true) :
    Calls Try.prog 16 #[.agg #[.int .i64 a0_0, .int .i64 a0_1, .int .i64 a0_2, .slice A0_3 l0_3.length c0_3], .agg #[.int .i64 a1_0, .int .i64 a1_1, .int .i64 a1_2, .slice A1_3 l1_3.length c1_3]] w fun e w' => e = .returned (.bool r) ∧ Below w.heap.size w w' := by
  have HRT := Aside0.mk hrt
  clear hrt
  have hu28 := Try.underlying28
  have HR0_3 := Aside0.mk hr0_3
  have HC0_3 := Aside0.mk hc0_3
  clear hr0_3 hc0_3
  have HR1_3 := Aside0.mk hr1_3
  have HC1_3 := Aside0.mk hc1_3
  clear hr1_3 hc1_3
  have HB := Aside0.mk (Below.refl w.heap.size w)
  have H : (if a0_0 = a1_0 then (if a0_1 = a1_1 then (if a0_2 = a1_2 then ((laws_eqIntS.f k l0_3 l1_3).bind fun t17003 => (if t17003 = true then (some true) else (some false))) else (some false)) else (some false)) else (some false)) = some r := h
  clear h
  by_cases c3 : a0_0 = a1_0
  · rw [if_pos c3] at H
    have c3b0 : (a0_0 == a1_0) = true := beq_iff_eq.mpr c3
    have c3b1 : (a0_0 != a1_0) = false := bne_eq_false_iff_eq.mpr c3
    clear c3
    by_cases c4 : a0_1 = a1_1
    · rw [if_pos c4] at H
      have c4b0 : (a0_1 == a1_1) = true := beq_iff_eq.mpr c4
      have c4b1 : (a0_1 != a1_1) = false := bne_eq_false_iff_eq.mpr c4
      clear c4
      by_cases c5 : a0_2 = a1_2
      · rw [if_pos c5] at H
        have c5b0 : (a0_2 == a1_2) = true := beq_iff_eq.mpr c5
        have c5b1 : (a0_2 != a1_2) = false := bne_eq_false_iff_eq.mpr c5
        clear c5
        replace H := Option.bind_eq_some_iff.mp H
        obtain ⟨t17003, A60, H⟩ := H
        replace H : (if t17003 = true then (some true) else (some false)) = some r := H
        have A6 := Aside0.mk A60
        clear A60
        by_cases c7 : t17003 = true
        · subst c7
          have H1 : (some true) = some r := by rw [if_pos rfl] at H; exact H
          clear H
          have H := H1
          clear H1
          obtain rfl := Option.some.inj H
          go_enter Try.func16, Try.ntmps16
          go_wp2_with (first | ((with_reducible refine gate_dst (N := 2) rfl ?_); refine box_event ?hg (N := 2) ?hd (cs := #[.int .i64 a0_0, .int .i64 a0_1, .int .i64 a0_2, .slice A0_3 l0_3.length c0_3]) (t := 28) ?hr ?_; (case hd => rfl); (case hg => rfl); (case hr => first | (go_simp; done) | (go_simp; rfl)); intro gb17001 hg w8 hbox hb; have n0_ := Aside0.mk (below_step (by repeat (first | (with_reducible first | exact HB.out | apply below_alloc | apply pw_below_drewN | apply below_drew1) | exact HB.out)) hb); have n1_ := Aside0.mk (hbox); have n2_ := Aside0.mk ((by rw [hg]; exact (below_size (by repeat (first | (with_reducible first | exact HB.out | apply below_alloc | apply pw_below_drewN | apply below_drew1) | exact HB.out))) : w.heap.size ≤ gb17001)); have n3_ := Aside0.mk ((by rw [hg]; exact (below_size (by repeat (first | (with_reducible first | exact HB.out | apply below_alloc | apply pw_below_drewN | apply below_drew1) | exact HB.out))) : w.heap.size ≤ gb17001)); clear HB; have HB := n0_; have BK17001 := n1_; have GW17001 := n2_; have GE17001 := n3_; clear n0_ n1_ n2_ n3_; clear hb hbox hg) | ((with_reducible refine gate_dst (N := 3) rfl ?_); refine box_event ?hg (N := 3) ?hd (cs := #[.int .i64 a1_0, .int .i64 a1_1, .int .i64 a1_2, .slice A1_3 l1_3.length c1_3]) (t := 28) ?hr ?_; (case hd => rfl); (case hg => rfl); (case hr => first | (go_simp; done) | (go_simp; rfl)); intro gb17002 hg w9 hbox hb; have n0_ := Aside0.mk (blk_below (g := gb17001) (o := .cells #[.int .i64 a0_0, .int .i64 a0_1, .int .i64 a0_2, .slice A0_3 l0_3.length c0_3] 28 (0, 0)) (by (with_reducible repeat (first | refine blk_drewN ?_ _ | refine blk_drew ?_ | refine blk_alloc ?_ _)); exact BK17001.out) hb); have n1_ := Aside0.mk (below_step (by repeat (first | (with_reducible first | exact HB.out | apply below_alloc | apply pw_below_drewN | apply below_drew1 | refine below_set ?_ GE17001.out) | exact HB.out)) hb); have n2_ := Aside0.mk (hbox); have n3_ := Aside0.mk ((by rw [hg]; exact (below_size (by repeat (first | (with_reducible first | exact HB.out | apply below_alloc | apply pw_below_drewN | apply below_drew1 | refine below_set ?_ GE17001.out) | exact HB.out))) : w.heap.size ≤ gb17002)); have n4_ := Aside0.mk ((by rw [hg]; exact (below_size (by repeat (first | (with_reducible first | exact HB.out | apply below_alloc | apply pw_below_drewN | apply below_drew1 | refine below_set ?_ GE17001.out) | exact HB.out))) : w.heap.size ≤ gb17002)); have n5_ := Aside0.mk ((by rw [hg]; exact Nat.ne_of_lt (blk_lt (g := gb17001) (o := .cells #[.int .i64 a0_0, .int .i64 a0_1, .int .i64 a0_2, .slice A0_3 l0_3.length c0_3] 28 (0, 0)) (by (with_reducible repeat (first | refine blk_drewN ?_ _ | refine blk_drew ?_ | refine blk_alloc ?_ _)); exact BK17001.out)) : gb17001 ≠ gb17002)); have n6_ := Aside0.mk ((by rw [hg]; exact Nat.ne_of_gt (blk_lt (g := gb17001) (o := .cells #[.int .i64 a0_0, .int .i64 a0_1, .int .i64 a0_2, .slice A0_3 l0_3.length c0_3] 28 (0, 0)) (by (with_reducible repeat (first | refine blk_drewN ?_ _ | refine blk_drew ?_ | refine blk_alloc ?_ _)); exact BK17001.out)) : gb17002 ≠ gb17001)); clear BK17001; clear HB; have BK17001 := n0_; have HB := n1_; have BK17002 := n2_; have GW17002 := n3_; have GE17002 := n4_; have NB17001_17002 := n5_; have NB17002_17001 := n6_; clear n0_ n1_ n2_ n3_ n4_ n5_ n6_; clear hb hbox hg; have hnb10 := NB17001_17002.out; have hnc10 := NB17002_17001.out; have hcz11_0 : w9.cell? ⟨gb17001, 0, none⟩ = some (.int .i64 a0_0) := (blk_cell BK17001.out 0).trans rfl; have hcz11_1 : w9.cell? ⟨gb17001, 1, none⟩ = some (.int .i64 a0_1) := (blk_cell BK17001.out 1).trans rfl; have hcz11_2 : w9.cell? ⟨gb17001, 2, none⟩ = some (.int .i64 a0_2) := (blk_cell BK17001.out 2).trans rfl; have hcz11_3 : w9.cell? ⟨gb17001, 3, none⟩ = some (.slice A0_3 l0_3.length c0_3) := (blk_cell BK17001.out 3).trans rfl; have hfz11_0 := blk_frozen BK17001.out 0; have hfz11_1 := blk_frozen BK17001.out 1; have hfz11_2 := blk_frozen BK17001.out 2; have hfz11_3 := blk_frozen BK17001.out 3; have hcz12_0 : w9.cell? ⟨gb17002, 0, none⟩ = some (.int .i64 a1_0) := (blk_cell BK17002.out 0).trans rfl; have hcz12_1 : w9.cell? ⟨gb17002, 1, none⟩ = some (.int .i64 a1_1) := (blk_cell BK17002.out 1).trans rfl; have hcz12_2 : w9.cell? ⟨gb17002, 2, none⟩ = some (.int .i64 a1_2) := (blk_cell BK17002.out 2).trans rfl; have hcz12_3 : w9.cell? ⟨gb17002, 3, none⟩ = some (.slice A1_3 l1_3.length c1_3) := (blk_cell BK17002.out 3).trans rfl; have hfz12_0 := blk_frozen BK17002.out 0; have hfz12_1 := blk_frozen BK17002.out 1; have hfz12_2 := blk_frozen BK17002.out 2; have hfz12_3 := blk_frozen BK17002.out 3) | ((with_reducible refine gate_callee (f := 46) rfl ?_); refine goesL_ (some 24) rfl rfl Try.func46 (by kernel_rfl) rfl #[.slice A0_3 l0_3.length c0_3, .slice A1_3 l1_3.length c1_3] rfl (by (try simp only [List.map_toArray, List.map_cons, List.map_nil]); first | done | rfl | (simp only [List.length_drop, List.length_take]; rfl)) ?_; (with_reducible refine (laws_eqIntS.calls k _ _ l0_3 _ _ l1_3 true _ ?side1 ?side2 ?side3 ?side4 A6.out).mono ?_); (case side1 => repeat (first | exact (Kd.C_below HR0_3.out HB.out) | (with_reducible refine Kd.C_alloc ?_ _) | (with_reducible refine Kd.C_drewN ?_ _) | (with_reducible refine Kd.C_drew ?_))); (case side2 => exact HC0_3.out); (case side3 => repeat (first | exact (Kd.C_below HR1_3.out HB.out) | (with_reducible refine Kd.C_alloc ?_ _) | (with_reducible refine Kd.C_drewN ?_ _) | (with_reducible refine Kd.C_drew ?_))); (case side4 => exact HC1_3.out); rintro e w' ⟨rfl, ⟨nd, rfl⟩⟩; refine ⟨_, rfl, ?_⟩))
          go_ret
          exact ⟨by first | rfl | (simp [errW_none, errW_some] <;> rfl) | (simp [*, errW_none, errW_some] <;> rfl), by repeat (first | (with_reducible first | exact HB.out | apply below_alloc | apply pw_below_drewN | apply below_drew1 | refine below_set ?_ GE17001.out | refine below_set ?_ GE17002.out) | exact HB.out)⟩
        · replace c7 := Bool.eq_false_iff.mpr c7
          subst c7
          have H1 : (some false) = some r := by rw [if_neg (show ¬ (false = true) by decide)] at H; exact H
          clear H
          have H := H1
          clear H1
          exact absurd ((Option.some.inj H).trans HRT.out) (by decide)
      · rw [if_neg c5] at H
        have c5b0 : (a0_2 == a1_2) = false := beq_eq_false_iff_ne.mpr c5
        have c5b1 : (a0_2 != a1_2) = true := bne_iff_ne.mpr c5
        exact absurd ((Option.some.inj H).trans HRT.out) (by decide)
    · rw [if_neg c4] at H
      have c4b0 : (a0_1 == a1_1) = false := beq_eq_false_iff_ne.mpr c4
      have c4b1 : (a0_1 != a1_1) = true := bne_iff_ne.mpr c4
      exact absurd ((Option.some.inj H).trans HRT.out) (by decide)
  · rw [if_neg c3] at H
    have c3b0 : (a0_0 == a1_0) = false := beq_eq_false_iff_ne.mpr c3
    have c3b1 : (a0_0 != a1_0) = true := bne_iff_ne.mpr c3
    exact absurd ((Option.some.inj H).trans HRT.out) (by decide)


def laws_markIntS.l0 : Nat → List Int → Int → Int → Option (Int × List Int)
  | 0, _, _, _ => none
  | k + 1, x0, x1, x5 => if x5 < (x0.length : Int) then (if 0 ≤ x5 then (laws_markIntS.l0 k (x0.set (x5 : Int).toNat x1) (wrap64 (x1 + 1)) (wrap64 (x5 + 1))) else (none)) else (some (x1, x0))
def laws_markIntS.f (k : Nat) (l0 : List Int) (a1 : Int) : Option (Int × List Int) := laws_markIntS.l0 k l0 a1 0
theorem laws_markIntS.mono_l : ∀ k, (∀ y0 y1 y2, LeO (laws_markIntS.l0 k y0 y1 y2) (laws_markIntS.l0 (k + 1) y0 y1 y2))
  | 0 => fun _ _ _ r h => by simp [laws_markIntS.l0] at h
  | k + 1 => by
    have ih0 := laws_markIntS.mono_l k
    · intro y0 y1 y2
      unfold laws_markIntS.l0
      repeat' first
      | (with_reducible exact ih0 _ _ _)
      | (with_reducible exact LeO.refl _)
      | (with_reducible exact LeO.none _)
      | (with_reducible refine LeO.ite ?_ ?_)
      | (with_reducible refine LeO.bind ?_ (fun _ => ?_))
      | exact ih0 _ _ _
      | exact LeO.none _
      | refine LeO.ite ?_ ?_
      | refine LeO.bind ?_ (fun _ => ?_)
theorem laws_markIntS.mono : ∀ a0 a1 k, LeO (laws_markIntS.f k a0 a1) (laws_markIntS.f (k + 1) a0 a1) := by
  intro a0 a1 k
  have ih0 := laws_markIntS.mono_l k
  unfold laws_markIntS.f
  repeat' first
      | (with_reducible exact ih0 _ _ _)
      | (with_reducible exact LeO.refl _)
      | (with_reducible exact LeO.none _)
      | (with_reducible refine LeO.ite ?_ ?_)
      | (with_reducible refine LeO.bind ?_ (fun _ => ?_))
      | exact ih0 _ _ _
      | exact LeO.none _
      | refine LeO.ite ?_ ?_
      | refine LeO.bind ?_ (fun _ => ?_)
set_option maxHeartbeats 8000000 in
set_option maxRecDepth 100000 in
theorem laws_markIntS.calls (k : Nat) (P0_ : Nat → Prop) (u9000_ : Value) (l0 : List Int) (a1 : Int) (r1 : Int) (r2 : List Int) (w0 w : World) (hB : Below w0.heap.size w0 w) (ho0 : Kd.R (Kd.int .i64) 3 w w0.heap.size P0_ u9000_ l0) (h : laws_markIntS.f k l0 a1 = some (r1, r2)) :
    Calls Try.prog 47 #[u9000_, .int .i64 a1] w fun e w' => e = .returned (.int .i64 r1) ∧ Kd.R (Kd.int .i64) 3 w' w0.heap.size (fun k_ => (P0_ k_ ∨ w.heap.size ≤ k_)) u9000_ r2 ∧ Below w0.heap.size w0 w' ∧ Kept w w' (fun k_ => P0_ k_) := by
  have HO0 := Aside0.mk (show Kd.R (Kd.int .i64) 3 w w0.heap.size (fun k_ => (P0_ k_ ∨ w.heap.size ≤ k_)) u9000_ l0 from Kd.R_mono ho0 (fun k_ hk => (.inl hk)))
  have HK := Aside0.mk (Kept.refl w (fun k_ => P0_ k_))
  have HW0 := Aside0.mk hB.size
  have HB := Aside0.mk hB
  clear hB
  have H : (laws_markIntS.l0 k l0 a1 0) = some (r1, r2) := h
  clear h
  have H' := Aside0.mk H
  clear H
  go_enter Try.func47, Try.ntmps47
  go_wp2
  go_loopg [1, 5] k (fun kq v1 v5 w' => ∃ (x0_1 : List Int) (x1_1 : Int) (x5_1 : Int), v1 = .int .i64 x1_1 ∧ v5 = .int .i64 x5_1 ∧ Aside0 (laws_markIntS.l0 kq x0_1 x1_1 x5_1 = some (r1, r2)) ∧ Aside0 (kq ≤ k) ∧ Aside0 (Kd.R (Kd.int .i64) 3 w' w0.heap.size (fun k_ => (P0_ k_ ∨ w.heap.size ≤ k_)) u9000_ x0_1) ∧ Aside0 (Kept w w' (fun k_ => P0_ k_)) ∧ Aside0 (Below w0.heap.size w0 w'))
  case atStart => exact ⟨(l0), (a1), (0), (by first | rfl | (simp; done) | (simp [*]; done)), (by first | rfl | (simp; done) | (simp [*]; done)), H', ⟨Nat.le_refl _⟩, ⟨by (with_reducible repeat (first | apply Kd.R_alloc | apply Kd.R_drewN | apply Kd.R_drew)); exact HO0.out⟩, ⟨by repeat (first | (with_reducible first | exact HK.out | apply Kept.alloc | apply Kept.drewN | apply Kept.drew) | exact HK.out)⟩, ⟨by repeat (first | (with_reducible first | exact HB.out | apply below_alloc | apply pw_below_drewN | apply below_drew1) | exact HB.out)⟩⟩
  case round =>
    clear H'
    try clear p2
    obtain ⟨x0_1, x1_1, x5_1, rfl, rfl, HA, HK1, HO_0, HK, HB⟩ := hrel
    cases gk with
    | zero => exact absurd HA.out (by simp [laws_markIntS.l0])
    | succ k1 =>
      have H := HA.out
      clear HA
      simp only [laws_markIntS.l0] at H
      by_cases c3 : x5_1 < (x0_1.length : Int)
      · rw [if_pos c3] at H
        have c3b0 : decide (x5_1 < (x0_1.length : Int)) = true := decide_eq_true c3
        clear c3
        by_cases c4 : 0 ≤ x5_1
        · rw [if_pos c4] at H
          have c4b0 : decide (0 ≤ x5_1) = true := decide_eq_true c4
          clear c4
          obtain ⟨y48001, hy48001⟩ : ∃ y_ : List Int, y_ = (x0_1.set (x5_1 : Int).toNat x1_1) := ⟨_, rfl⟩
          replace H : (laws_markIntS.l0 k1 y48001 (wrap64 (x1_1 + 1)) (wrap64 (x5_1 + 1))) = some (r1, r2) := by first | (rw [hy48001]; with_reducible exact H) | (have H2_ := (Option.bind_some _ _).symm.trans H; rw [hy48001]; with_reducible exact H2_) | (have H2_ := (Option.bind_some _ _).symm.trans H; with_reducible exact H2_) | with_reducible exact H | (rw [hy48001]; exact H) | exact H
          have Ny48001 := Aside0.mk hy48001
          clear hy48001
          have H' := Aside0.mk H
          clear H
          obtain ⟨Ao6, co6, eo6⟩ := Kd.R_slice HO_0.out
          subst eo6
          have p5 : 0 ≤ (x5_1 : Int) := of_decide_eq_true (by first | (with_reducible assumption) | assumption)
          have q5 : (x5_1 : Int) < ((x0_1.length : Int) : Int) := of_decide_eq_true (by first | (with_reducible assumption) | assumption)
          obtain ⟨go5, co5, eo5, gb5, gl5, cl5, HG5⟩ := Kd.R_form HO_0.out (by omega)
          (first | cases eo5 | (injection eo5 with ea_ en_ ec_; (first | subst ea_ | (injection ea_ with ea_; subst ea_)); subst ec_; clear en_))
          have GB5 := Aside0.mk gb5
          have GG5 := Aside0.mk HG5
          clear gb5 gl5 HG5
          have HMgo5 := Aside0.mk (show (P0_ go5 ∨ w.heap.size ≤ go5) from (HO_0.out.1 _ rfl))
          obtain ⟨hx5_0, hf5_0⟩ := Kd.R_celln 0 HO_0.out (x5_1 : Int) p5 q5
          replace p5 := eq_true p5
          replace q5 := eq_true q5
          have HP7 := Kd.R_putg HO_0.out (x5_1 : Int) x1_1
          go_wp2_with (first | ((with_reducible refine gate_store (t := 3) (p := 15) rfl ?_); refine store_event (t := 3) (p := 15) (v := ?vo_w8) (w1 := (wr.setCell ⟨go5, (x5_1 : Int).toNat, none⟩ (.int .i64 x1_1))) ?hg ?ho ?hn ?hr ?_; (case ho => rfl); (case hg => rfl); (case hn => rfl); (case hr => first | (go_simp; done) | (go_simp; rfl)); intro w8 hw; have hg : wr.grownBy w8 (some go5) := (by rw [hw]; exact HP7.2); have hp_ : Kd.R (Kd.int .i64) 3 w8 w0.heap.size (fun k_ => (P0_ k_ ∨ w.heap.size ≤ k_)) (.slice (some ⟨go5, 0, none⟩) x0_1.length co6) y48001 := (by rw [hw, Ny48001.out]; exact HP7.1); clear HP7; have n0_ := Aside0.mk (hp_); have n1_ := Aside0.mk ((by rw [hw]; exact below_set (HB.out) GB5.out : Below w0.heap.size w0 w8)); have n2_ := Aside0.mk (Kept.of_grown (S := (fun k_ => P0_ k_)) hg (by repeat (first | (with_reducible first | exact HK.out | apply Kept.alloc | apply Kept.drewN | apply Kept.drew) | exact HK.out)) (fun k_ e_ => (HO_0.out.1 k_ e_))); clear HO_0; clear HB; clear HK; have HO_0 := n0_; have HB := n1_; have HK := n2_; clear n0_ n1_ n2_; clear hg hw hp_))
          go_roundg k1
          case measure => have := HK1.out; omega
          case rel => exact ⟨(y48001), (wrap64 (x1_1 + 1)), (wrap64 (x5_1 + 1)), (by first | rfl | (simp; done) | (simp [*]; done)), (by first | rfl | (simp; done) | (simp [*]; done)), H', ⟨by have := HK1.out; omega⟩, ⟨by (with_reducible repeat (first | apply Kd.R_alloc | apply Kd.R_drewN | apply Kd.R_drew)); exact HO_0.out⟩, ⟨by repeat (first | (with_reducible first | exact HK.out | apply Kept.alloc | apply Kept.drewN | apply Kept.drew) | exact HK.out)⟩, ⟨by repeat (first | (with_reducible first | exact HB.out | apply below_alloc | apply pw_below_drewN | apply below_drew1) | exact HB.out)⟩⟩
        · rw [if_neg c4] at H
          exact absurd H (by simp)
      · rw [if_neg c3] at H
        have c3b0 : decide (x5_1 < (x0_1.length : Int)) = false := decide_eq_false c3
        clear c3
        simp only [Option.some.injEq, Prod.mk.injEq] at H
        obtain ⟨rfl, rfl⟩ := H
        obtain ⟨Ao9, co9, eo9⟩ := Kd.R_slice HO_0.out
        subst eo9
        go_wp2
        go_ret
        exact ⟨by first | rfl | (simp [errW_none, errW_some] <;> rfl) | (simp [*, errW_none, errW_some] <;> rfl), by (with_reducible repeat (first | apply Kd.R_alloc | apply Kd.R_drewN | apply Kd.R_drew)); exact HO_0.out, by repeat (first | (with_reducible first | exact HB.out | apply below_alloc | apply pw_below_drewN | apply below_drew1) | exact HB.out), by repeat (first | (with_reducible first | exact HK.out | apply Kept.alloc | apply Kept.drewN | apply Kept.drew) | exact HK.out)⟩


def laws_markImage.f (k : Nat) (a0_0 : Int) (a0_1 : Int) (a0_2 : Int) (l0_3 : List Int) (a1 : Int) : Option (Int × List Int) := (laws_markIntS.f k l0_3 a1).bind fun bt19002 => (some (bt19002.1, bt19002.2))
theorem laws_markImage.mono : ∀ a0 a1 a2 a3 a4 k, LeO (laws_markImage.f k a0 a1 a2 a3 a4) (laws_markImage.f (k + 1) a0 a1 a2 a3 a4) := by
  intro a0 a1 a2 a3 a4 k
  unfold laws_markImage.f
  repeat' first
      | (with_reducible exact laws_markIntS.mono _ _ _)
      | (with_reducible exact LeO.refl _)
      | (with_reducible exact LeO.none _)
      | (with_reducible refine LeO.ite ?_ ?_)
      | (with_reducible refine LeO.bind ?_ (fun _ => ?_))
      | exact laws_markIntS.mono _ _ _
      | exact LeO.none _
      | refine LeO.ite ?_ ?_
      | refine LeO.bind ?_ (fun _ => ?_)
set_option maxHeartbeats 8000000 in
set_option maxRecDepth 100000 in
theorem laws_markImage.calls (k : Nat) (a0_0 : Int) (a0_1 : Int) (a0_2 : Int) (P0_3_ : Nat → Prop) (u9000_ : Value) (l0_3 : List Int) (a1 : Int) (r1 : Int) (r2 : List Int) (w0 w : World) (hB : Below w0.heap.size w0 w) (ho0_3 : Kd.R (Kd.int .i64) 3 w w0.heap.size P0_3_ u9000_ l0_3) (h : laws_markImage.f k a0_0 a0_1 a0_2 l0_3 a1 = some (r1, r2)) :
    Calls Try.prog 18 #[.agg #[.int .i64 a0_0, .int .i64 a0_1, .int .i64 a0_2, u9000_], .int .i64 a1] w fun e w' => e = .returned (.int .i64 r1) ∧ Kd.R (Kd.int .i64) 3 w' w0.heap.size (fun k_ => (P0_3_ k_ ∨ w.heap.size ≤ k_)) u9000_ r2 ∧ Below w0.heap.size w0 w' ∧ Kept w w' (fun k_ => P0_3_ k_) := by
  have hu28 := Try.underlying28
  have HO0_3 := Aside0.mk (show Kd.R (Kd.int .i64) 3 w w0.heap.size (fun k_ => (P0_3_ k_ ∨ w.heap.size ≤ k_)) u9000_ l0_3 from Kd.R_mono ho0_3 (fun k_ hk => (.inl hk)))
  have HK := Aside0.mk (Kept.refl w (fun k_ => P0_3_ k_))
  have HW0 := Aside0.mk hB.size
  have HB := Aside0.mk hB
  clear hB
  have H : ((laws_markIntS.f k l0_3 a1).bind fun bt19002 => (some (bt19002.1, bt19002.2))) = some (r1, r2) := h
  clear h
  replace H := Option.bind_eq_some_iff.mp H
  obtain ⟨⟨t19002, t19003⟩, A30, H⟩ := H
  replace H : (some (t19002, t19003)) = some (r1, r2) := H
  have A3 := Aside0.mk A30
  clear A30
  simp only [Option.some.injEq, Prod.mk.injEq] at H
  obtain ⟨rfl, rfl⟩ := H
  obtain ⟨Ao4, co4, eo4⟩ := Kd.R_slice HO0_3.out
  subst eo4
  go_enter Try.func18, Try.ntmps18
  go_wp2_with (first | ((with_reducible refine gate_dst (N := 2) rfl ?_); refine box_event ?hg (N := 2) ?hd (cs := #[.int .i64 a0_0, .int .i64 a0_1, .int .i64 a0_2, .slice Ao4 l0_3.length co4]) (t := 28) ?hr ?_; (case hd => rfl); (case hg => rfl); (case hr => first | (go_simp; done) | (go_simp; rfl)); intro gb19001 hg w5 hbox hb; have n0_ := Aside0.mk (Kd.R_below (by (with_reducible repeat (first | apply Kd.R_alloc | apply Kd.R_drewN | apply Kd.R_drew)); exact HO0_3.out) hb); have n1_ := Aside0.mk (Kept.below (S := (fun k_ => P0_3_ k_)) (by repeat (first | (with_reducible first | exact HK.out | apply Kept.alloc | apply Kept.drewN | apply Kept.drew) | exact HK.out)) hb); have n2_ := Aside0.mk (below_step (by repeat (first | (with_reducible first | exact HB.out | apply below_alloc | apply pw_below_drewN | apply below_drew1) | exact HB.out)) hb); have n3_ := Aside0.mk (hbox); have n4_ := Aside0.mk ((by rw [hg]; exact (by first | exact HK.out.1 | exact (show Kept w _ (fun k_ => P0_3_ k_) from by repeat (first | (with_reducible first | exact HK.out | apply Kept.alloc | apply Kept.drewN | apply Kept.drew) | exact HK.out)).1) : w.heap.size ≤ gb19001)); have n5_ := Aside0.mk ((by rw [hg]; exact (below_size (by repeat (first | (with_reducible first | exact HB.out | apply below_alloc | apply pw_below_drewN | apply below_drew1) | exact HB.out))) : w0.heap.size ≤ gb19001)); clear HO0_3; clear HK; clear HB; have HO0_3 := n0_; have HK := n1_; have HB := n2_; have BK19001 := n3_; have GW19001 := n4_; have GE19001 := n5_; clear n0_ n1_ n2_ n3_ n4_ n5_; clear hb hbox hg; have hcz6_0 : w5.cell? ⟨gb19001, 0, none⟩ = some (.int .i64 a0_0) := (blk_cell BK19001.out 0).trans rfl; have hcz6_1 : w5.cell? ⟨gb19001, 1, none⟩ = some (.int .i64 a0_1) := (blk_cell BK19001.out 1).trans rfl; have hcz6_2 : w5.cell? ⟨gb19001, 2, none⟩ = some (.int .i64 a0_2) := (blk_cell BK19001.out 2).trans rfl; have hcz6_3 : w5.cell? ⟨gb19001, 3, none⟩ = some (.slice Ao4 l0_3.length co4) := (blk_cell BK19001.out 3).trans rfl; have hfz6_0 := blk_frozen BK19001.out 0; have hfz6_1 := blk_frozen BK19001.out 1; have hfz6_2 := blk_frozen BK19001.out 2; have hfz6_3 := blk_frozen BK19001.out 3) | ((with_reducible refine gate_callee (f := 47) rfl ?_); refine goesL_ (some 8) rfl rfl Try.func47 (by kernel_rfl) rfl #[.slice Ao4 l0_3.length co4, .int .i64 a1] rfl (by (try simp only [List.map_toArray, List.map_cons, List.map_nil]); first | done | rfl | (simp only [List.length_drop, List.length_take]; rfl)) ?_; (with_reducible refine (laws_markIntS.calls k (fun k_ => some k_ = (.slice Ao4 l0_3.length co4 : Value).ownBlock) (.slice Ao4 l0_3.length co4) l0_3 a1 t19002 t19003 w0 _ ?side1 ?side2 A3.out).mono ?_); (case side1 => repeat (first | (with_reducible first | exact HB.out | apply below_alloc | apply pw_below_drewN | apply below_drew1 | refine below_set ?_ GE19001.out) | exact HB.out)); (case side2 => exact Kd.R_tight rfl HO0_3.out); rintro e w7 ⟨rfl, hy0, hb, hkp⟩; refine ⟨_, rfl, ?_⟩; have n0_ := Aside0.mk (Kd.R_reok rfl hy0 (fun k_ e_ => HO0_3.out.1 k_ e_)); have n1_ := Aside0.mk (blk_kept (by (with_reducible repeat (first | refine blk_drewN ?_ _ | refine blk_drew ?_ | refine blk_alloc ?_ _)); exact BK19001.out) hkp (fun hs_ => (fun e_ => (Kd.R_ne HO0_3.out BK19001.out (by decide)) e_) hs_)); have n2_ := Aside0.mk (Kept.then_ (S := (fun k_ => P0_3_ k_)) (by repeat (first | (with_reducible first | exact HK.out | apply Kept.alloc | apply Kept.drewN | apply Kept.drew | refine Kept.setCell ?_ (.inr GW19001.out) _) | exact HK.out)) hkp (fun k_ hs_ => (fun e_ => (HO0_3.out.1 k_ e_.symm)) hs_)); have n3_ := Aside0.mk (hb); clear HO0_3; clear BK19001; clear HK; clear HB; have HO0_3 := n0_; have BK19001 := n1_; have HK := n2_; have HB := n3_; clear n0_ n1_ n2_ n3_; (try clear hb); (try clear hkp); (try clear hy0)))
  go_ret
  exact ⟨by first | rfl | (simp [errW_none, errW_some] <;> rfl) | (simp [*, errW_none, errW_some] <;> rfl), by (with_reducible repeat (first | apply Kd.R_alloc | apply Kd.R_drewN | apply Kd.R_drew)); exact HO0_3.out, by repeat (first | (with_reducible first | exact HB.out | apply below_alloc | apply pw_below_drewN | apply below_drew1 | refine below_set ?_ GE19001.out) | exact HB.out), by repeat (first | (with_reducible first | exact HK.out | apply Kept.alloc | apply Kept.drewN | apply Kept.drew | refine Kept.setCell ?_ (.inr GW19001.out) _) | exact HK.out)⟩

end Go.Proofs.Ytgccpcnakkioiaa.Q

/- Images: valid ones, as the program and the reference have it; copies of lists of numbers. -/
namespace Go.Proofs.Ytgccpcnakkioiaa.Pure
open Go.RowKit Go.Proofs.Ytgccpcnakkioiaa.Q Go.Proofs.YtgccpcnakkioiaaW.PrintWords Go.Proofs.YtgccpcnakkioiaaW.PrintLast Go.Proofs.YtgccpcnakkioiaaW.PrintMore
set_option linter.unusedVariables false
set_option linter.unusedSimpArgs false

def byteI (n : Int) : Bool := decide (0 ≤ n) && decide (n ≤ 255)
def shapeI (w h p : Int) : Bool := decide (1 ≤ w ∧ w ≤ 16 ∧ 1 ≤ h ∧ h ≤ 16 ∧ 1 ≤ p ∧ p ≤ 4)
theorem shapeI_iff (w h p : Int) : shapeI w h p = true ↔ 1 ≤ w ∧ w ≤ 16 ∧ 1 ≤ h ∧ h ≤ 16 ∧ 1 ≤ p ∧ p ≤ 4 := by simp [shapeI]
def validI (w h p : Int) (d : List Int) : Bool := shapeI w h p && (decide ((d.length : Int) = w * h * p) && d.all byteI)
theorem validI_iff (w h p : Int) (d : List Int) : validI w h p d = true ↔ (1 ≤ w ∧ w ≤ 16 ∧ 1 ≤ h ∧ h ≤ 16 ∧ 1 ≤ p ∧ p ≤ 4) ∧ (d.length : Int) = w * h * p ∧ ∀ n ∈ d, 0 ≤ n ∧ n ≤ 255 := by
  simp [validI, shapeI_iff, byteI, and_assoc]
theorem shape_prod {w h p : Int} (hs : 1 ≤ w ∧ w ≤ 16 ∧ 1 ≤ h ∧ h ≤ 16 ∧ 1 ≤ p ∧ p ≤ 4) : 0 ≤ w * h ∧ w * h ≤ 256 ∧ 0 ≤ w * h * p ∧ w * h * p ≤ 1024 := by
  have h1 : 0 ≤ w * h := Int.mul_nonneg (by omega) (by omega)
  have h2 : w * h ≤ 16 * 16 := Int.mul_le_mul (by omega) (by omega) (by omega) (by omega)
  have h3 : 0 ≤ w * h * p := Int.mul_nonneg h1 (by omega)
  have h4 : w * h * p ≤ 256 * 4 := Int.mul_le_mul (by omega) (by omega) (by omega) (by omega)
  omega
theorem shape_wrap {w h p : Int} (hs : 1 ≤ w ∧ w ≤ 16 ∧ 1 ≤ h ∧ h ≤ 16 ∧ 1 ≤ p ∧ p ≤ 4) : wrap64 (wrap64 (w * h) * p) = w * h * p := by
  have := shape_prod hs
  rw [w64 (x := w * h) (by omega) (by omega), w64 (by omega) (by omega)]
theorem impl_isSide_eq (a : Int) : impl_isSide.f a = some (decide (1 ≤ a ∧ a ≤ 16)) := by
  unfold impl_isSide.f
  by_cases c : a ≥ 1
  · rw [if_pos c]; congr 1; rw [decide_eq_decide]; omega
  · rw [if_neg c, decide_eq_false (by omega)]
theorem impl_isShape_eq (w h p : Int) : impl_isShape.f w h p = some (shapeI w h p) := by
  unfold impl_isShape.f shapeI
  rw [impl_isSide_eq, impl_isSide_eq]
  simp only [Option.bind_some]
  by_cases c1 : 1 ≤ w ∧ w ≤ 16
  · rw [if_pos (by simpa using c1)]
    by_cases c2 : 1 ≤ h ∧ h ≤ 16
    · rw [if_pos (by simpa using c2)]
      by_cases c3 : p ≥ 1
      · rw [if_pos c3]; congr 1; rw [decide_eq_decide]; omega
      · rw [if_neg c3, decide_eq_false (by omega)]
    · rw [if_neg (by simpa using c2), decide_eq_false (by omega)]
  · rw [if_neg (by simpa using c1), decide_eq_false (by omega)]
theorem areBytesI_eq (l : List Int) : impl_areBytes.f l = some (l.all byteI) := by
  unfold impl_areBytes.f
  congr 1
  rw [List.not_any_eq_all_not]
  congr 1
  funext n
  unfold notByte byteI
  rw [Bool.eq_iff_iff]
  simp
theorem impl_isImage_eq (w h p : Int) (d : List Int) : impl_isImage.f w h p d = some (validI w h p d) := by
  unfold impl_isImage.f validI
  rw [impl_isShape_eq, areBytesI_eq]
  simp only [Option.bind_some]
  by_cases c : shapeI w h p = true
  · rw [if_pos c, shape_wrap ((shapeI_iff w h p).1 c), c]
    by_cases e : (d.length : Int) = w * h * p
    · rw [if_pos e, decide_eq_true e]; rfl
    · rw [if_neg e, decide_eq_false e]; rfl
  · rw [if_neg c, Bool.eq_false_iff.2 c]; rfl
theorem spec_inRangeI_eq (n a b : Int) : spec_inRange.f n a b = some (decide (a ≤ n) && decide (n ≤ b)) := by
  unfold spec_inRange.f
  by_cases c : a ≤ n
  · rw [if_pos c, decide_eq_true c, Bool.true_and]
  · rw [if_neg c, decide_eq_false c, Bool.false_and]
theorem spec_validShape_eq (w h p : Int) : spec_validShape.f w h p = some (shapeI w h p) := by
  unfold spec_validShape.f shapeI
  rw [spec_inRangeI_eq, spec_inRangeI_eq, spec_inRangeI_eq]
  simp only [Option.bind_some]
  by_cases c1 : 1 ≤ w ∧ w ≤ 16
  · rw [if_pos (by simpa using c1)]
    by_cases c2 : 1 ≤ h ∧ h ≤ 16
    · rw [if_pos (by simpa using c2)]; congr 1; rw [Bool.eq_iff_iff]; simp; omega
    · rw [if_neg (by simpa using c2), decide_eq_false (by omega)]
  · rw [if_neg (by simpa using c1), decide_eq_false (by omega)]
theorem spec_allInI_ev (l : List Int) (hl : l.length ≤ 1000000000000) : Ev (fun k => spec_allIn.f k l 0 255) (l.all byteI) := by
  have key := ev_up l.length (fun k i (_ : Unit) => spec_allIn.l0 k l 0 255 (i : Int)) (fun _ _ => True) (fun i _ => (l.drop i).all byteI)
    (by
      intro i s hi _
      have hd : (l.drop i).all byteI = (byteI l[i] && (l.drop (i + 1)).all byteI) := by rw [List.drop_eq_getElem_cons hi, List.all_cons]
      cases hb : byteI l[i] with
      | true =>
        right
        refine ⟨(), fun k => ?_, trivial, by rw [hd, hb, Bool.true_and]⟩
        simp only [spec_allIn.l0]
        rw [if_pos (by omega), if_pos (by omega), rd_nat l i hi, spec_inRangeI_eq]
        simp only [Option.bind_some]
        rw [if_pos (show (decide (0 ≤ l[i]) && decide (l[i] ≤ 255)) = true from hb), w64n i (by omega)]
      | false =>
        left
        rw [hd, hb, Bool.false_and]
        refine Ev.step (f := fun _ => some false) (fun k => ?_) (Ev.now false)
        simp only [spec_allIn.l0]
        rw [if_pos (by omega), if_pos (by omega), rd_nat l i hi, spec_inRangeI_eq]
        simp only [Option.bind_some]
        rw [if_neg (Bool.eq_false_iff.1 (show (decide (0 ≤ l[i]) && decide (l[i] ≤ 255)) = false from hb))])
    (by
      intro s _
      rw [List.drop_length]
      refine Ev.step (f := fun _ => some true) (fun k => ?_) (Ev.now true)
      simp only [spec_allIn.l0]
      rw [if_neg (by omega)])
    l.length 0 () (by omega) trivial
  unfold spec_allIn.f
  simpa using key
theorem spec_validImage_ev (w h p : Int) (d : List Int) (hl : d.length ≤ 1000000000000) : Ev (fun k => spec_validImage.f k w h p d) (validI w h p d) := by
  unfold spec_validImage.f validI
  refine ev_now (spec_validShape_eq w h p) ?_
  by_cases c : shapeI w h p = true
  · refine ev_pos c ?_
    rw [shape_wrap ((shapeI_iff w h p).1 c), c, Bool.true_and]
    by_cases e : (d.length : Int) = w * h * p
    · refine ev_pos e ?_
      rw [decide_eq_true e, Bool.true_and]
      exact ev_bind (spec_allInI_ev d hl) (Ev.now _)
    · refine ev_neg e ?_
      rw [decide_eq_false e]
      exact Ev.now _
  · refine ev_neg c ?_
    rw [Bool.eq_false_iff.2 c]
    exact Ev.now _

/- A pixel's numbers, and where they lie. -/

/-- where a pixel's numbers begin -/
def pixJ (a p : Int) (x y : Nat) : Int := wrap64 ((wrap64 ((wrap64 ((y : Int) * a)) + (x : Int))) * p)
theorem pixJ_is {a b p : Int} {d : List Int} (hv : validI a b p d = true) {x y : Nat} (hx : (x : Int) < a) (hy : (y : Int) < b) : 0 ≤ pixJ a p x y ∧ pixJ a p x y ≤ 1024 ∧ pixJ a p x y = ((y : Int) * a + x) * p ∧ pixJ a p x y + p ≤ (d.length : Int) := by
  have h := (validI_iff a b p d).1 hv
  have hp := shape_prod h.1
  have h1 : 0 ≤ (y : Int) * a := Int.mul_nonneg (by omega) (by omega)
  have h2 : (y : Int) * a ≤ (b - 1) * a := Int.mul_le_mul_of_nonneg_right (by omega) (by omega)
  have h3 : (b - 1) * a = a * b - a := by rw [Int.sub_mul, Int.mul_comm b a]; omega
  have h4 : 0 ≤ ((y : Int) * a + x) * p := Int.mul_nonneg (by omega) (by omega)
  have h5 : ((y : Int) * a + x) * p ≤ (a * b - 1) * p := Int.mul_le_mul_of_nonneg_right (by omega) (by omega)
  have h6 : (a * b - 1) * p = a * b * p - p := by rw [Int.sub_mul]; omega
  have e : pixJ a p x y = ((y : Int) * a + x) * p := by
    unfold pixJ
    rw [w64 (x := (y : Int) * a) (by omega) (by omega), w64 (x := (y : Int) * a + (x : Int)) (by omega) (by omega), w64 (by omega) (by omega)]
  omega
end Go.Proofs.Ytgccpcnakkioiaa.Pure

/- A pixel's numbers read out of an image that is valid. -/
namespace Go.Proofs.Ytgccpcnakkioiaa.Q
open Go.RowKit Go.Proofs.YtgccpcnakkioiaaW.PrintWords Go.Proofs.YtgccpcnakkioiaaW.PrintLast Go.Proofs.YtgccpcnakkioiaaW.PrintMore
attribute [local go_sem] max2_int min2_int max_two min_two max_three min_three max_four min_four
set_option linter.unusedVariables false
set_option linter.unusedSimpArgs false
open Go.Proofs.Ytgccpcnakkioiaa.Pure

def pxAt (a p : Int) (d : List Int) (x y : Nat) : List Int := pixT d (pixJ a p x y) p
theorem pxAt_len {a b p : Int} {d : List Int} (hv : validI a b p d = true) {x y : Nat} (hx : (x : Int) < a) (hy : (y : Int) < b) : ((pxAt a p d x y).length : Int) = p := by
  have hb := pixJ_is hv hx hy
  have hs := ((validI_iff a b p d).1 hv).1
  unfold pxAt
  rw [pixT_length _ _ _ (by rw [w64 (by omega) (by omega)]; omega), w64 (by omega) (by omega)]
  omega
theorem pxAt_le {a b p : Int} {d : List Int} (hv : validI a b p d = true) {x y : Nat} (hx : (x : Int) < a) (hy : (y : Int) < b) : (pxAt a p d x y).length ≤ 4 := by
  have h1 := pxAt_len hv hx hy
  have hs := ((validI_iff a b p d).1 hv).1
  omega
theorem at_px {a b p : Int} (A : Option Addr) (c : Nat) {d : List Int} (hv : validI a b p d = true) (hc : d.length ≤ c) {x y : Nat} (hx : (x : Int) < a) (hy : (y : Int) < b) :
    ∃ (A' : Option Addr) (c' : Nat), (pxAt a p d x y).length ≤ c' ∧ ∀ w : World, Kd.C (Kd.int .i64) w A d.length d → (Kd.C (Kd.int .i64) w A' (pxAt a p d x y).length (pxAt a p d x y) ∧
      Calls Try.prog 55 #[.agg #[.int .i64 a, .int .i64 b, .int .i64 p, .slice A d.length c], .int .i64 (x : Int), .int .i64 (y : Int)] w fun e w' => e = .returned (.slice A' (pxAt a p d x y).length c') ∧ Below w.heap.size w w') := by
  have hb := pixJ_is hv hx hy
  have hs := ((validI_iff a b p d).1 hv).1
  have hw : wrap64 (pixJ a p x y + p) = pixJ a p x y + p := w64 (by omega) (by omega)
  exact at_calls a b p A c d (x : Int) (y : Int) (pixJ a p x y) hc rfl (by omega) (by omega) (by omega)

/- impl.MirrorImage's function value: a pixel in the mirror. -/

set_option maxHeartbeats 1600000 in
set_option maxRecDepth 100000 in
theorem mirror1_calls (a b p : Int) (A : Option Addr) (c : Nat) (d : List Int) (hv : validI a b p d = true) (hc : d.length ≤ c) (x y : Nat) (hx : (x : Int) < a) (hy : (y : Int) < b) (B : Nat) (w : World) (h1 : w.heap[B]? = some (.cells #[.int .i64 a, .int .i64 b, .int .i64 p, .slice A d.length c] 28 (0, 0))) (hr : Kd.C (Kd.int .i64) w A d.length d) :
    Calls Try.prog 54 (#[.int .i64 (x : Int), .int .i64 (y : Int)] ++ #[.pointer (some ⟨B, 0, none⟩)]) w fun e w' => ∃ (A' : Option Addr) (c' : Nat), e = .returned (.slice A' (pxAt a p d ((a - 1 - (x : Int)).toNat) (y)).length c') ∧ Kd.C (Kd.int .i64) w' A' (pxAt a p d ((a - 1 - (x : Int)).toNat) (y)).length (pxAt a p d ((a - 1 - (x : Int)).toNat) (y)) ∧ (pxAt a p d ((a - 1 - (x : Int)).toNat) (y)).length ≤ c' ∧ Below w.heap.size w w' := by
  have hs := ((validI_iff a b p d).1 hv).1
  have k0 := (blk_cell h1 0).trans rfl; have k1 := (blk_cell h1 1).trans rfl; have k2 := (blk_cell h1 2).trans rfl; have k3 := (blk_cell h1 3).trans rfl
  have hX : (((a - 1 - (x : Int)).toNat : Nat) : Int) = a - 1 - (x : Int) := Int.toNat_of_nonneg (by omega)
  obtain ⟨A', c', hc', HA⟩ := at_px (x := (a - 1 - (x : Int)).toNat) (y := y) A c hv hc (by omega) hy
  have HA' := HA w hr
  rw [hX] at HA'
  generalize pxAt a p d ((a - 1 - (x : Int)).toNat) (y) = px at *
  replace HA' := Aside0.mk HA'
  clear HA hr h1 hv hc
  simp only [List.append_toArray, List.cons_append, List.nil_append]
  go_enter Try.func54, Try.ntmps54
  go_wp2_with (first | (go_at_call 55; (with_reducible refine (HA'.out.2).mono ?_); rintro e w2 ⟨rfl, hb⟩))
  go_ret
  exact ⟨A', c', rfl, Kd.C_below HA'.out.1 hb, hc', hb⟩
end Go.Proofs.Ytgccpcnakkioiaa.Q
