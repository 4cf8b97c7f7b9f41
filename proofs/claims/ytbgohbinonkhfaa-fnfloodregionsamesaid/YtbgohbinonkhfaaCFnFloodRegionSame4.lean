/- A part of the proof that the statement FnFloodRegionSameSaid holds, under no condition of its own: Floods of one color are mutual: the law FnFloodRegionSame over lists of numbers alone. -/
import Derived.Test.YtbgohbinonkhfaaCFnFloodRegionSame1
import Derived.Test.YtbgohbinonkhfaaCFnFloodRegionSame3
import Derived.BigQuiet
import Derived.Deep.QuietTactic
namespace Go.Proofs.Ytbgohbinonkhfaa.Q
open Go.RowKit Go.Proofs.YtbgohbinonkhfaaW.PrintWords Go.Proofs.YtbgohbinonkhfaaW.PrintLast Go.Proofs.YtbgohbinonkhfaaW.PrintMore
attribute [local go_sem] max2_int min2_int max_two min_two max_three min_three max_four min_four
set_option linter.unusedVariables false
set_option linter.unusedSimpArgs false
/-! ### spec_randomImage: function 100 -/
def spec_randomImage.l0 : Nat → Int → Int → Int → List Int → Int → Int → Int → Int → List Int → Option (Int × Int × Int × List Int × Int)
  | 0, _, _, _, _, _, _, _, _, _ => none
  | k + 1, x6, x7, x8, x1000, x1001, x101019000, x101019001, x101019002, x101019003 => if x8 < (x101019003.length : Int) then (if x6 = 0 then ((spec_reader_pick.f k x1000 x1001 256).bind fun bt101023 => (if 0 ≤ x8 then (spec_randomImage.l0 k x6 bt101023.1 (wrap64 (x8 + 1)) x1000 bt101023.2 x101019000 x101019001 x101019002 (x101019003.set (x8 : Int).toNat bt101023.1)) else (none))) else (if x6 = 1 then ((spec_reader_pick.f k x1000 x1001 5).bind fun bt101026 => (if 0 ≤ x8 then (spec_randomImage.l0 k x6 (Int.tmod (wrap64 ((wrap64 (x7 + bt101026.1)) + 254)) 256) (wrap64 (x8 + 1)) x1000 bt101026.2 x101019000 x101019001 x101019002 (x101019003.set (x8 : Int).toNat (Int.tmod (wrap64 ((wrap64 (x7 + bt101026.1)) + 254)) 256))) else (none))) else (if x6 = 2 then ((spec_reader_pick.f k x1000 x1001 4).bind fun bt101029 => (if 0 ≤ x8 then (spec_randomImage.l0 k x6 (wrap64 (60 * bt101029.1)) (wrap64 (x8 + 1)) x1000 bt101029.2 x101019000 x101019001 x101019002 (x101019003.set (x8 : Int).toNat (wrap64 (60 * bt101029.1)))) else (none))) else (if 0 ≤ x8 then (spec_randomImage.l0 k x6 x7 (wrap64 (x8 + 1)) x1000 x1001 x101019000 x101019001 x101019002 (x101019003.set (x8 : Int).toNat x7)) else (none))))) else (some (x101019000, x101019001, x101019002, x101019003, x1001))
def spec_randomImage.f (k : Nat) (s0_0 : List Int) (s0_1 : Int) (a1 : Int) : Option (Int × Int × Int × List Int × Int) := (spec_reader_one.f k s0_0 s0_1 (([3, 4, 2, 5, 1, 8, 6] : List Int))).bind fun bt101005 => ((spec_reader_one.f k s0_0 bt101005.2 (([3, 2, 4, 1, 5, 8] : List Int))).bind fun bt101010 => ((spec_newImage.f bt101005.1 bt101010.1 a1).bind fun bt101012 => ((spec_reader_pick.f k s0_0 bt101010.2 4).bind fun bt101019 => ((spec_reader_pick.f k s0_0 bt101019.2 256).bind fun bt101021 => (spec_randomImage.l0 k bt101019.1 bt101021.1 0 s0_0 bt101021.2 bt101012.1 bt101012.2.1 bt101012.2.2.1 bt101012.2.2.2)))))
theorem spec_randomImage.mono_l : ∀ k, (∀ y0 y1 y2 y3 y4 y5 y6 y7 y8, LeO (spec_randomImage.l0 k y0 y1 y2 y3 y4 y5 y6 y7 y8) (spec_randomImage.l0 (k + 1) y0 y1 y2 y3 y4 y5 y6 y7 y8))
  | 0 => fun _ _ _ _ _ _ _ _ _ r h => by simp [spec_randomImage.l0] at h
  | k + 1 => by
    have ih0 := spec_randomImage.mono_l k
    · intro y0 y1 y2 y3 y4 y5 y6 y7 y8
      unfold spec_randomImage.l0
      repeat' first
      | (with_reducible exact ih0 _ _ _ _ _ _ _ _ _)
      | (with_reducible exact spec_reader_one.mono _ _ _ _)
      | (with_reducible exact spec_reader_pick.mono _ _ _ _)
      | (with_reducible exact LeO.refl _)
      | (with_reducible exact LeO.none _)
      | (with_reducible refine LeO.ite ?_ ?_)
      | (with_reducible refine LeO.bind ?_ (fun _ => ?_))
      | exact ih0 _ _ _ _ _ _ _ _ _
      | exact spec_reader_one.mono _ _ _ _
      | exact spec_reader_pick.mono _ _ _ _
      | exact LeO.none _
      | refine LeO.ite ?_ ?_
      | refine LeO.bind ?_ (fun _ => ?_)
theorem spec_randomImage.mono : ∀ a0 a1 a2 k, LeO (spec_randomImage.f k a0 a1 a2) (spec_randomImage.f (k + 1) a0 a1 a2) := by
  intro a0 a1 a2 k
  have ih0 := spec_randomImage.mono_l k
  unfold spec_randomImage.f
  repeat' first
      | (with_reducible exact ih0 _ _ _ _ _ _ _ _ _)
      | (with_reducible exact spec_reader_one.mono _ _ _ _)
      | (with_reducible exact spec_reader_pick.mono _ _ _ _)
      | (with_reducible exact LeO.refl _)
      | (with_reducible exact LeO.none _)
      | (with_reducible refine LeO.ite ?_ ?_)
      | (with_reducible refine LeO.bind ?_ (fun _ => ?_))
      | exact ih0 _ _ _ _ _ _ _ _ _
      | exact spec_reader_one.mono _ _ _ _
      | exact spec_reader_pick.mono _ _ _ _
      | exact LeO.none _
      | refine LeO.ite ?_ ?_
      | refine LeO.bind ?_ (fun _ => ?_)
set_option maxHeartbeats 8000000 in
set_option maxRecDepth 100000 in
theorem spec_randomImage.calls (k : Nat) (g : Nat) (s0_0 : List Int) (s0_1 : Int) (a1 : Int) (r1 : Int) (r2 : Int) (r3 : Int) (r4 : List Int) (r5 : Int) (w0 w : World) (hI : IsS100 w0 w g s0_0 s0_1) (hB : Below w0.heap.size w0 w) (h : spec_randomImage.f k s0_0 s0_1 a1 = some (r1, r2, r3, r4, r5)) :
    Calls Try.prog 100 #[.pointer (some ⟨g, 0, none⟩), .int .i64 a1] w fun e w' => ∃ v3_ : Value, e = .returned (.agg #[.int .i64 r1, .int .i64 r2, .int .i64 r3, v3_]) ∧ Kd.R (Kd.int .i64) 3 w' w.heap.size (fun _ => True) v3_ r4 ∧ IsS100 w0 w' g s0_0 r5 ∧ Below w0.heap.size w0 w' ∧ KeepBut w w' g none := by
  have hu28 := Try.underlying28
  have HI0 := Aside0.mk hI
  have HK := Aside0.mk (KeepBut.refl w g none)
  have HL := Aside0.mk hB.size
  clear hI
  have HW0 := Aside0.mk hB.size
  have HB := Aside0.mk hB
  clear hB
  have H : ((spec_reader_one.f k s0_0 s0_1 (([3, 4, 2, 5, 1, 8, 6] : List Int))).bind fun bt101005 => ((spec_reader_one.f k s0_0 bt101005.2 (([3, 2, 4, 1, 5, 8] : List Int))).bind fun bt101010 => ((spec_newImage.f bt101005.1 bt101010.1 a1).bind fun bt101012 => ((spec_reader_pick.f k s0_0 bt101010.2 4).bind fun bt101019 => ((spec_reader_pick.f k s0_0 bt101019.2 256).bind fun bt101021 => (spec_randomImage.l0 k bt101019.1 bt101021.1 0 s0_0 bt101021.2 bt101012.1 bt101012.2.1 bt101012.2.2.1 bt101012.2.2.2)))))) = some (r1, r2, r3, r4, r5) := h
  clear h
  obtain ⟨y101002, hy101002⟩ : ∃ y_ : List Int, y_ = (([3, 4, 2, 5, 1, 8, 6] : List Int)) := ⟨_, rfl⟩
  replace H : ((spec_reader_one.f k s0_0 s0_1 y101002).bind fun bt101005 => ((spec_reader_one.f k s0_0 bt101005.2 (([3, 2, 4, 1, 5, 8] : List Int))).bind fun bt101010 => ((spec_newImage.f bt101005.1 bt101010.1 a1).bind fun bt101012 => ((spec_reader_pick.f k s0_0 bt101010.2 4).bind fun bt101019 => ((spec_reader_pick.f k s0_0 bt101019.2 256).bind fun bt101021 => (spec_randomImage.l0 k bt101019.1 bt101021.1 0 s0_0 bt101021.2 bt101012.1 bt101012.2.1 bt101012.2.2.1 bt101012.2.2.2)))))) = some (r1, r2, r3, r4, r5) := by first | (rw [hy101002]; with_reducible exact H) | (have H2_ := (Option.bind_some _ _).symm.trans H; rw [hy101002]; with_reducible exact H2_) | (have H2_ := (Option.bind_some _ _).symm.trans H; with_reducible exact H2_) | with_reducible exact H | (rw [hy101002]; exact H) | exact H
  have Ny101002 := Aside0.mk hy101002
  clear hy101002
  replace H := Option.bind_eq_some_iff.mp H
  obtain ⟨⟨t101005, t101006⟩, A30, H⟩ := H
  replace H : ((spec_reader_one.f k s0_0 t101006 (([3, 2, 4, 1, 5, 8] : List Int))).bind fun bt101010 => ((spec_newImage.f t101005 bt101010.1 a1).bind fun bt101012 => ((spec_reader_pick.f k s0_0 bt101010.2 4).bind fun bt101019 => ((spec_reader_pick.f k s0_0 bt101019.2 256).bind fun bt101021 => (spec_randomImage.l0 k bt101019.1 bt101021.1 0 s0_0 bt101021.2 bt101012.1 bt101012.2.1 bt101012.2.2.1 bt101012.2.2.2))))) = some (r1, r2, r3, r4, r5) := H
  have A3 := Aside0.mk A30
  clear A30
  obtain ⟨y101007, hy101007⟩ : ∃ y_ : List Int, y_ = (([3, 2, 4, 1, 5, 8] : List Int)) := ⟨_, rfl⟩
  replace H : ((spec_reader_one.f k s0_0 t101006 y101007).bind fun bt101010 => ((spec_newImage.f t101005 bt101010.1 a1).bind fun bt101012 => ((spec_reader_pick.f k s0_0 bt101010.2 4).bind fun bt101019 => ((spec_reader_pick.f k s0_0 bt101019.2 256).bind fun bt101021 => (spec_randomImage.l0 k bt101019.1 bt101021.1 0 s0_0 bt101021.2 bt101012.1 bt101012.2.1 bt101012.2.2.1 bt101012.2.2.2))))) = some (r1, r2, r3, r4, r5) := by first | (rw [hy101007]; with_reducible exact H) | (have H2_ := (Option.bind_some _ _).symm.trans H; rw [hy101007]; with_reducible exact H2_) | (have H2_ := (Option.bind_some _ _).symm.trans H; with_reducible exact H2_) | with_reducible exact H | (rw [hy101007]; exact H) | exact H
  have Ny101007 := Aside0.mk hy101007
  clear hy101007
  replace H := Option.bind_eq_some_iff.mp H
  obtain ⟨⟨t101010, t101011⟩, A40, H⟩ := H
  replace H : ((spec_newImage.f t101005 t101010 a1).bind fun bt101012 => ((spec_reader_pick.f k s0_0 t101011 4).bind fun bt101019 => ((spec_reader_pick.f k s0_0 bt101019.2 256).bind fun bt101021 => (spec_randomImage.l0 k bt101019.1 bt101021.1 0 s0_0 bt101021.2 bt101012.1 bt101012.2.1 bt101012.2.2.1 bt101012.2.2.2)))) = some (r1, r2, r3, r4, r5) := H
  have A4 := Aside0.mk A40
  clear A40
  replace H := Option.bind_eq_some_iff.mp H
  obtain ⟨⟨t101012, t101013, t101014, t101015⟩, A50, H⟩ := H
  replace H : ((spec_reader_pick.f k s0_0 t101011 4).bind fun bt101019 => ((spec_reader_pick.f k s0_0 bt101019.2 256).bind fun bt101021 => (spec_randomImage.l0 k bt101019.1 bt101021.1 0 s0_0 bt101021.2 t101012 t101013 t101014 t101015))) = some (r1, r2, r3, r4, r5) := H
  have A5 := Aside0.mk A50
  clear A50
  replace H := Option.bind_eq_some_iff.mp H
  obtain ⟨⟨t101019, t101020⟩, A60, H⟩ := H
  replace H : ((spec_reader_pick.f k s0_0 t101020 256).bind fun bt101021 => (spec_randomImage.l0 k t101019 bt101021.1 0 s0_0 bt101021.2 t101012 t101013 t101014 t101015)) = some (r1, r2, r3, r4, r5) := H
  have A6 := Aside0.mk A60
  clear A60
  replace H := Option.bind_eq_some_iff.mp H
  obtain ⟨⟨t101021, t101022⟩, A70, H⟩ := H
  replace H : (spec_randomImage.l0 k t101019 t101021 0 s0_0 t101022 t101012 t101013 t101014 t101015) = some (r1, r2, r3, r4, r5) := H
  have A7 := Aside0.mk A70
  clear A70
  have H' := Aside0.mk H
  clear H
  go_enter Try.func100, Try.ntmps100
  go_wp2_with (first | ((with_reducible refine gate_dst (N := 4) rfl ?_); refine box_event ?hg (N := 4) ?hd (cs := #[.int .i64 0, .int .i64 0, .int .i64 0, .slice none 0 0]) (t := 28) ?hr ?_; (case hd => rfl); (case hg => rfl); (case hr => first | (go_simp; done) | (go_simp; rfl)); intro gb101001 hg w8 hbox hb; have n0_ := Aside0.mk (IsS100.below (by repeat (first | (with_reducible first | exact HI0.out | apply IsS100.alloc | apply IsS100.drewN | apply IsS100.drew | apply IsS100.set_1) | exact HI0.out)) hb); have n1_ := Aside0.mk (KeepBut.trans (by repeat (first | (with_reducible first | exact HK.out | apply KeepBut.set_ | apply keep_drewN | apply keep_drew | apply keep_alloc) | exact HK.out)) (KeepBut.of_below hb g none) (.inl rfl)); have n2_ := Aside0.mk (below_step (by repeat (first | (with_reducible first | exact HB.out | apply below_alloc | apply pw_below_drewN | apply below_drew1 | refine below_set ?_ (IsS100.ge HI0.out)) | exact HB.out)) hb); have n3_ := Aside0.mk (hbox); have n4_ := Aside0.mk ((by rw [hg]; exact (keep_size (w := w) (g := g) (row := none) (by repeat (first | (with_reducible first | exact HK.out | apply KeepBut.set_ | apply keep_drewN | apply keep_drew | apply keep_alloc) | exact HK.out))) : w.heap.size ≤ gb101001)); have n5_ := Aside0.mk ((Nat.le_trans HW0.out (by rw [hg]; exact (keep_size (w := w) (g := g) (row := none) (by repeat (first | (with_reducible first | exact HK.out | apply KeepBut.set_ | apply keep_drewN | apply keep_drew | apply keep_alloc) | exact HK.out))) : w.heap.size ≤ gb101001) : w0.heap.size ≤ gb101001)); have n6_ := Aside0.mk ((by rw [hg]; exact Nat.ne_of_lt (IsS100.lt (show IsS100 w0 _ g s0_0 s0_1 from by repeat (first | (with_reducible first | exact HI0.out | apply IsS100.alloc | apply IsS100.drewN | apply IsS100.drew | apply IsS100.set_1) | exact HI0.out))) : g ≠ gb101001)); have n7_ := Aside0.mk ((by rw [hg]; exact Nat.ne_of_gt (IsS100.lt (show IsS100 w0 _ g s0_0 s0_1 from by repeat (first | (with_reducible first | exact HI0.out | apply IsS100.alloc | apply IsS100.drewN | apply IsS100.drew | apply IsS100.set_1) | exact HI0.out))) : gb101001 ≠ g)); clear HI0; clear HK; clear HB; have HI0 := n0_; have HK := n1_; have HB := n2_; have BK101001 := n3_; have GW101001 := n4_; have GE101001 := n5_; have NB0_101001 := n6_; have NB101001_0 := n7_; clear n0_ n1_ n2_ n3_ n4_ n5_ n6_ n7_; clear hb hbox hg) | ((with_reducible refine gate_dst (N := 10) rfl ?_); refine Kd.R_lit (Kd.int .i64) _ 3 ?hg (N := 10) ?hd (xs := ([3, 4, 2, 5, 1, 8, 6] : List Int)) (inner := [.int .i64 3, .int .i64 4, .int .i64 2, .int .i64 5, .int .i64 1, .int .i64 8, .int .i64 6]) (ok := fun _ => True) (okp := fun _ => True) ?hr ?hp (fun _ hk => hk) trivial (Below.refl _ _) (Nat.le_refl _) (by simp) ?_; (case hd => rfl); (case hg => rfl); (case hr => first | (go_simp; done) | (go_simp; rfl)); (case hp => exact (Reps.one (show Kd.M (Kd.int .i64) _ _ _ 3 [.int .i64 3] from rfl) (Reps.one (show Kd.M (Kd.int .i64) _ _ _ 4 [.int .i64 4] from rfl) (Reps.one (show Kd.M (Kd.int .i64) _ _ _ 2 [.int .i64 2] from rfl) (Reps.one (show Kd.M (Kd.int .i64) _ _ _ 5 [.int .i64 5] from rfl) (Reps.one (show Kd.M (Kd.int .i64) _ _ _ 1 [.int .i64 1] from rfl) (Reps.one (show Kd.M (Kd.int .i64) _ _ _ 8 [.int .i64 8] from rfl) (Reps.one (show Kd.M (Kd.int .i64) _ _ _ 6 [.int .i64 6] from rfl) (Reps.none _ _))))))))); intro v101003 w9 ho10 hb hg_ hnew_; clear hg_ hnew_; (first | rw [← Ny101002.out] at ho10 | (simp only [Int.reduceToNat] at ho10; rw [← Ny101002.out] at ho10)); have n0_ := Aside0.mk (Kd.R_lower ho10 (keep_size (w := w) (g := g) (row := none) (by repeat (first | (with_reducible first | exact HK.out | apply KeepBut.set_ | apply keep_drewN | apply keep_drew | apply keep_alloc | refine keep_far ?_ GW101001.out _) | exact HK.out)))); have n1_ := Aside0.mk (IsS100.below (by repeat (first | (with_reducible first | exact HI0.out | apply IsS100.alloc | apply IsS100.drewN | apply IsS100.drew | apply IsS100.set_1 | refine IsS100.far ?_ NB0_101001.out _) | exact HI0.out)) hb); have n2_ := Aside0.mk (blk_below (g := gb101001) (o := .cells #[.int .i64 0, .int .i64 0, .int .i64 0, .slice none 0 0] 28 (0, 0)) (by (with_reducible repeat (first | refine blk_drewN ?_ _ | refine blk_drew ?_ | refine blk_alloc ?_ _)); exact BK101001.out) hb); have n3_ := Aside0.mk (KeepBut.trans (by repeat (first | (with_reducible first | exact HK.out | apply KeepBut.set_ | apply keep_drewN | apply keep_drew | apply keep_alloc | refine keep_far ?_ GW101001.out _) | exact HK.out)) (KeepBut.of_below hb g none) (.inl rfl)); have n4_ := Aside0.mk (below_step (by repeat (first | (with_reducible first | exact HB.out | apply below_alloc | apply pw_below_drewN | apply below_drew1 | refine below_set ?_ (IsS100.ge HI0.out) | refine below_set ?_ GE101001.out) | exact HB.out)) hb); clear HI0; clear BK101001; clear HK; clear HB; have HO101004 := n0_; have HI0 := n1_; have BK101001 := n2_; have HK := n3_; have HB := n4_; clear n0_ n1_ n2_ n3_ n4_; clear hb ho10; obtain ⟨Ao11, co11, eo11⟩ := Kd.R_slice HO101004.out; subst eo11) | ((with_reducible refine gate_callee (f := 73) rfl ?_); refine goesL_ (some 11) rfl rfl Try.func73 (by kernel_rfl) rfl #[.pointer (some ⟨g, 0, none⟩), .slice Ao11 y101002.length co11] rfl (by (try simp only [List.map_toArray, List.map_cons, List.map_nil]); first | done | rfl | (simp only [List.length_drop, List.length_take]; rfl)) ?_; (with_reducible refine (spec_reader_one.calls k g s0_0 s0_1 _ _ y101002 t101005 t101006 w0 _ ?side1 ?side2 ?side3 ?side4 ?side5 A3.out).mono ?_); (case side1 => repeat (first | (with_reducible first | exact HI0.out | apply IsS100.alloc | apply IsS100.drewN | apply IsS100.drew | apply IsS100.set_1 | refine IsS100.far ?_ NB0_101001.out _) | exact HI0.out)); (case side2 => repeat (first | (with_reducible first | exact HB.out | apply below_alloc | apply pw_below_drewN | apply below_drew1 | refine below_set ?_ (IsS100.ge HI0.out) | refine below_set ?_ GE101001.out) | exact HB.out)); (case side3 => repeat (first | exact (Kd.R_reads' HO101004.out).2.2 | (with_reducible refine Kd.C_alloc ?_ _) | (with_reducible refine Kd.C_drewN ?_ _) | (with_reducible refine Kd.C_drew ?_))); (case side4 => exact (Kd.R_reads' HO101004.out).2.1); (case side5 => exact far_slice (IsS100.own_ne HI0.out HO101004.out (by decide))); rintro e w12 ⟨rfl, hi, hb, hk⟩; refine ⟨_, rfl, ?_⟩; have n0_ := Aside0.mk (KeepBut.blk hk (g' := gb101001) (o := .cells #[.int .i64 0, .int .i64 0, .int .i64 0, .slice none 0 0] 28 (0, 0)) (by (with_reducible repeat (first | refine blk_drewN ?_ _ | refine blk_drew ?_ | refine blk_alloc ?_ _)); exact BK101001.out) NB101001_0.out (by simp)); have n1_ := Aside0.mk (Kd.R_mono (Kd.R_keep (IsS100.apart (show IsS100 w0 _ g s0_0 s0_1 from by repeat (first | (with_reducible first | exact HI0.out | apply IsS100.alloc | apply IsS100.drewN | apply IsS100.drew | apply IsS100.set_1 | refine IsS100.far ?_ NB0_101001.out _) | exact HI0.out)) (by (with_reducible repeat (first | apply Kd.R_alloc | apply Kd.R_drewN | apply Kd.R_drew)); exact HO101004.out) (by decide)) hk (fun _ h => h.2)) (fun _ h => h.1)); have n2_ := Aside0.mk (KeepBut.trans (by repeat (first | (with_reducible first | exact HK.out | apply KeepBut.set_ | apply keep_drewN | apply keep_drew | apply keep_alloc | refine keep_far ?_ GW101001.out _) | exact HK.out)) hk (.inl rfl)); have n3_ := Aside0.mk (hb); have n4_ := Aside0.mk (hi); clear BK101001; clear HO101004; clear HK; clear HB; clear HI0; have BK101001 := n0_; have HO101004 := n1_; have HK := n2_; have HB := n3_; have HI0 := n4_; clear n0_ n1_ n2_ n3_ n4_; (try clear hb); (try clear hb2); (try clear hk); (try clear hi)) | ((with_reducible refine gate_dst (N := 13) rfl ?_); refine Kd.R_lit (Kd.int .i64) _ 3 ?hg (N := 13) ?hd (xs := ([3, 2, 4, 1, 5, 8] : List Int)) (inner := [.int .i64 3, .int .i64 2, .int .i64 4, .int .i64 1, .int .i64 5, .int .i64 8]) (ok := fun _ => True) (okp := fun _ => True) ?hr ?hp (fun _ hk => hk) trivial (Below.refl _ _) (Nat.le_refl _) (by simp) ?_; (case hd => rfl); (case hg => rfl); (case hr => first | (go_simp; done) | (go_simp; rfl)); (case hp => exact (Reps.one (show Kd.M (Kd.int .i64) _ _ _ 3 [.int .i64 3] from rfl) (Reps.one (show Kd.M (Kd.int .i64) _ _ _ 2 [.int .i64 2] from rfl) (Reps.one (show Kd.M (Kd.int .i64) _ _ _ 4 [.int .i64 4] from rfl) (Reps.one (show Kd.M (Kd.int .i64) _ _ _ 1 [.int .i64 1] from rfl) (Reps.one (show Kd.M (Kd.int .i64) _ _ _ 5 [.int .i64 5] from rfl) (Reps.one (show Kd.M (Kd.int .i64) _ _ _ 8 [.int .i64 8] from rfl) (Reps.none _ _)))))))); intro v101008 w13 ho14 hb hg_ hnew_; clear hg_ hnew_; (first | rw [← Ny101007.out] at ho14 | (simp only [Int.reduceToNat] at ho14; rw [← Ny101007.out] at ho14)); have n0_ := Aside0.mk (Kd.R_elder' (by (with_reducible repeat (first | apply Kd.R_alloc | apply Kd.R_drewN | apply Kd.R_drew)); exact HO101004.out) (Kd.R_base ho14) hb); have n1_ := Aside0.mk (Kd.R_lower (Kd.R_new' ho14 (Kd.R_lt (by (with_reducible repeat (first | apply Kd.R_alloc | apply Kd.R_drewN | apply Kd.R_drew)); exact HO101004.out))) (keep_size (w := w) (g := g) (row := none) (by repeat (first | (with_reducible first | exact HK.out | apply KeepBut.set_ | apply keep_drewN | apply keep_drew | apply keep_alloc | refine keep_far ?_ GW101001.out _) | exact HK.out)))); have n2_ := Aside0.mk (IsS100.below (by repeat (first | (with_reducible first | exact HI0.out | apply IsS100.alloc | apply IsS100.drewN | apply IsS100.drew | apply IsS100.set_1 | refine IsS100.far ?_ NB0_101001.out _) | exact HI0.out)) hb); have n3_ := Aside0.mk (blk_below (g := gb101001) (o := .cells #[.int .i64 0, .int .i64 0, .int .i64 0, .slice none 0 0] 28 (0, 0)) (by (with_reducible repeat (first | refine blk_drewN ?_ _ | refine blk_drew ?_ | refine blk_alloc ?_ _)); exact BK101001.out) hb); have n4_ := Aside0.mk (KeepBut.trans (by repeat (first | (with_reducible first | exact HK.out | apply KeepBut.set_ | apply keep_drewN | apply keep_drew | apply keep_alloc | refine keep_far ?_ GW101001.out _) | exact HK.out)) (KeepBut.of_below hb g none) (.inl rfl)); have n5_ := Aside0.mk (below_step (by repeat (first | (with_reducible first | exact HB.out | apply below_alloc | apply pw_below_drewN | apply below_drew1 | refine below_set ?_ (IsS100.ge HI0.out) | refine below_set ?_ GE101001.out) | exact HB.out)) hb); clear HO101004; clear HI0; clear BK101001; clear HK; clear HB; have HO101004 := n0_; have HO101009 := n1_; have HI0 := n2_; have BK101001 := n3_; have HK := n4_; have HB := n5_; clear n0_ n1_ n2_ n3_ n4_ n5_; clear hb ho14; obtain ⟨Ao15, co15, eo15⟩ := Kd.R_slice HO101009.out; subst eo15) | ((with_reducible refine gate_callee (f := 73) rfl ?_); refine goesL_ (some 14) rfl rfl Try.func73 (by kernel_rfl) rfl #[.pointer (some ⟨g, 0, none⟩), .slice Ao15 y101007.length co15] rfl (by (try simp only [List.map_toArray, List.map_cons, List.map_nil]); first | done | rfl | (simp only [List.length_drop, List.length_take]; rfl)) ?_; (with_reducible refine (spec_reader_one.calls k g s0_0 t101006 _ _ y101007 t101010 t101011 w0 _ ?side1 ?side2 ?side3 ?side4 ?side5 A4.out).mono ?_); (case side1 => repeat (first | (with_reducible first | exact HI0.out | apply IsS100.alloc | apply IsS100.drewN | apply IsS100.drew | apply IsS100.set_1 | refine IsS100.far ?_ NB0_101001.out _) | exact HI0.out)); (case side2 => repeat (first | (with_reducible first | exact HB.out | apply below_alloc | apply pw_below_drewN | apply below_drew1 | refine below_set ?_ (IsS100.ge HI0.out) | refine below_set ?_ GE101001.out) | exact HB.out)); (case side3 => repeat (first | exact (Kd.R_reads' HO101009.out).2.2 | (with_reducible refine Kd.C_alloc ?_ _) | (with_reducible refine Kd.C_drewN ?_ _) | (with_reducible refine Kd.C_drew ?_))); (case side4 => exact (Kd.R_reads' HO101009.out).2.1); (case side5 => exact far_slice (IsS100.own_ne HI0.out HO101009.out (by decide))); rintro e w16 ⟨rfl, hi, hb, hk⟩; refine ⟨_, rfl, ?_⟩; have n0_ := Aside0.mk (KeepBut.blk hk (g' := gb101001) (o := .cells #[.int .i64 0, .int .i64 0, .int .i64 0, .slice none 0 0] 28 (0, 0)) (by (with_reducible repeat (first | refine blk_drewN ?_ _ | refine blk_drew ?_ | refine blk_alloc ?_ _)); exact BK101001.out) NB101001_0.out (by simp)); have n1_ := Aside0.mk (Kd.R_mono (Kd.R_keep (IsS100.apart (show IsS100 w0 _ g s0_0 t101006 from by repeat (first | (with_reducible first | exact HI0.out | apply IsS100.alloc | apply IsS100.drewN | apply IsS100.drew | apply IsS100.set_1 | refine IsS100.far ?_ NB0_101001.out _) | exact HI0.out)) (by (with_reducible repeat (first | apply Kd.R_alloc | apply Kd.R_drewN | apply Kd.R_drew)); exact HO101004.out) (by decide)) hk (fun _ h => h.2)) (fun _ h => h.1)); have n2_ := Aside0.mk (Kd.R_mono (Kd.R_keep (IsS100.apart (show IsS100 w0 _ g s0_0 t101006 from by repeat (first | (with_reducible first | exact HI0.out | apply IsS100.alloc | apply IsS100.drewN | apply IsS100.drew | apply IsS100.set_1 | refine IsS100.far ?_ NB0_101001.out _) | exact HI0.out)) (by (with_reducible repeat (first | apply Kd.R_alloc | apply Kd.R_drewN | apply Kd.R_drew)); exact HO101009.out) (by decide)) hk (fun _ h => h.2)) (fun _ h => h.1)); have n3_ := Aside0.mk (KeepBut.trans (by repeat (first | (with_reducible first | exact HK.out | apply KeepBut.set_ | apply keep_drewN | apply keep_drew | apply keep_alloc | refine keep_far ?_ GW101001.out _) | exact HK.out)) hk (.inl rfl)); have n4_ := Aside0.mk (hb); have n5_ := Aside0.mk (hi); clear BK101001; clear HO101004; clear HO101009; clear HK; clear HB; clear HI0; have BK101001 := n0_; have HO101004 := n1_; have HO101009 := n2_; have HK := n3_; have HB := n4_; have HI0 := n5_; clear n0_ n1_ n2_ n3_ n4_ n5_; (try clear hb); (try clear hb2); (try clear hk); (try clear hi)) | ((with_reducible refine gate_callee (f := 107) rfl ?_); refine goesL_ (some 16) rfl rfl Try.func107 (by kernel_rfl) rfl #[.int .i64 t101005, .int .i64 t101010, .int .i64 a1] rfl (by (try simp only [List.map_toArray, List.map_cons, List.map_nil]); first | done | rfl | (simp only [List.length_drop, List.length_take]; rfl)) ?_; (with_reducible refine (spec_newImage.calls t101005 t101010 a1 t101012 t101013 t101014 t101015 _ A5.out).mono ?_); rintro e w17 ⟨v101016, rfl, ho0, hb⟩; refine ⟨_, rfl, ?_⟩; have n0_ := Aside0.mk (Kd.R_elder' (by (with_reducible repeat (first | apply Kd.R_alloc | apply Kd.R_drewN | apply Kd.R_drew)); exact HO101004.out) (Kd.R_base ho0) hb); have n1_ := Aside0.mk (Kd.R_elder' (by (with_reducible repeat (first | apply Kd.R_alloc | apply Kd.R_drewN | apply Kd.R_drew)); exact HO101009.out) (Kd.R_base ho0) hb); have n2_ := Aside0.mk (Kd.R_lower (Kd.R_new' (Kd.R_new' ho0 (Kd.R_lt (by (with_reducible repeat (first | apply Kd.R_alloc | apply Kd.R_drewN | apply Kd.R_drew)); exact HO101004.out))) (Kd.R_lt (by (with_reducible repeat (first | apply Kd.R_alloc | apply Kd.R_drewN | apply Kd.R_drew)); exact HO101009.out))) (keep_size (w := w) (g := g) (row := none) (by repeat (first | (with_reducible first | exact HK.out | apply KeepBut.set_ | apply keep_drewN | apply keep_drew | apply keep_alloc | refine keep_far ?_ GW101001.out _) | exact HK.out)))); have n3_ := Aside0.mk (IsS100.below (by repeat (first | (with_reducible first | exact HI0.out | apply IsS100.alloc | apply IsS100.drewN | apply IsS100.drew | apply IsS100.set_1 | refine IsS100.far ?_ NB0_101001.out _) | exact HI0.out)) hb); have n4_ := Aside0.mk (blk_below (g := gb101001) (o := .cells #[.int .i64 0, .int .i64 0, .int .i64 0, .slice none 0 0] 28 (0, 0)) (by (with_reducible repeat (first | refine blk_drewN ?_ _ | refine blk_drew ?_ | refine blk_alloc ?_ _)); exact BK101001.out) hb); have n5_ := Aside0.mk (KeepBut.trans (by repeat (first | (with_reducible first | exact HK.out | apply KeepBut.set_ | apply keep_drewN | apply keep_drew | apply keep_alloc | refine keep_far ?_ GW101001.out _) | exact HK.out)) (KeepBut.of_below hb g none) (.inl rfl)); have n6_ := Aside0.mk (below_step (by repeat (first | (with_reducible first | exact HB.out | apply below_alloc | apply pw_below_drewN | apply below_drew1 | refine below_set ?_ (IsS100.ge HI0.out) | refine below_set ?_ GE101001.out) | exact HB.out)) hb); clear HO101004; clear HO101009; clear HI0; clear BK101001; clear HK; clear HB; have HO101004 := n0_; have HO101009 := n1_; have HO101017 := n2_; have HI0 := n3_; have BK101001 := n4_; have HK := n5_; have HB := n6_; clear n0_ n1_ n2_ n3_ n4_ n5_ n6_; (try clear hb); (try clear hb2); (try clear hk); (try clear hi); (try clear ho0)) | ((with_reducible refine gate_dst (N := 5) rfl ?_); refine box_event ?hg (N := 5) ?hd (cs := #[.int .i64 0, .int .i64 0, .int .i64 0, .slice none 0 0]) (t := 28) ?hr ?_; (case hd => rfl); (case hg => rfl); (case hr => first | (go_simp; done) | (go_simp; rfl)); intro gb101018 hg w18 hbox hb; have n0_ := Aside0.mk (Kd.R_below (by (with_reducible repeat (first | apply Kd.R_alloc | apply Kd.R_drewN | apply Kd.R_drew)); exact HO101004.out) hb); have n1_ := Aside0.mk (Kd.R_below (by (with_reducible repeat (first | apply Kd.R_alloc | apply Kd.R_drewN | apply Kd.R_drew)); exact HO101009.out) hb); have n2_ := Aside0.mk (Kd.R_below (by (with_reducible repeat (first | apply Kd.R_alloc | apply Kd.R_drewN | apply Kd.R_drew)); exact HO101017.out) hb); have n3_ := Aside0.mk (IsS100.below (by repeat (first | (with_reducible first | exact HI0.out | apply IsS100.alloc | apply IsS100.drewN | apply IsS100.drew | apply IsS100.set_1 | refine IsS100.far ?_ NB0_101001.out _) | exact HI0.out)) hb); have n4_ := Aside0.mk (blk_below (g := gb101001) (o := .cells #[.int .i64 0, .int .i64 0, .int .i64 0, .slice none 0 0] 28 (0, 0)) (by (with_reducible repeat (first | refine blk_drewN ?_ _ | refine blk_drew ?_ | refine blk_alloc ?_ _)); exact BK101001.out) hb); have n5_ := Aside0.mk (KeepBut.trans (by repeat (first | (with_reducible first | exact HK.out | apply KeepBut.set_ | apply keep_drewN | apply keep_drew | apply keep_alloc | refine keep_far ?_ GW101001.out _) | exact HK.out)) (KeepBut.of_below hb g none) (.inl rfl)); have n6_ := Aside0.mk (below_step (by repeat (first | (with_reducible first | exact HB.out | apply below_alloc | apply pw_below_drewN | apply below_drew1 | refine below_set ?_ (IsS100.ge HI0.out) | refine below_set ?_ GE101001.out) | exact HB.out)) hb); have n7_ := Aside0.mk (hbox); have n8_ := Aside0.mk ((by rw [hg]; exact (keep_size (w := w) (g := g) (row := none) (by repeat (first | (with_reducible first | exact HK.out | apply KeepBut.set_ | apply keep_drewN | apply keep_drew | apply keep_alloc | refine keep_far ?_ GW101001.out _) | exact HK.out))) : w.heap.size ≤ gb101018)); have n9_ := Aside0.mk ((Nat.le_trans HW0.out (by rw [hg]; exact (keep_size (w := w) (g := g) (row := none) (by repeat (first | (with_reducible first | exact HK.out | apply KeepBut.set_ | apply keep_drewN | apply keep_drew | apply keep_alloc | refine keep_far ?_ GW101001.out _) | exact HK.out))) : w.heap.size ≤ gb101018) : w0.heap.size ≤ gb101018)); have n10_ := Aside0.mk ((by rw [hg]; exact Nat.ne_of_lt (blk_lt (g := gb101001) (o := .cells #[.int .i64 0, .int .i64 0, .int .i64 0, .slice none 0 0] 28 (0, 0)) (by (with_reducible repeat (first | refine blk_drewN ?_ _ | refine blk_drew ?_ | refine blk_alloc ?_ _)); exact BK101001.out)) : gb101001 ≠ gb101018)); have n11_ := Aside0.mk ((by rw [hg]; exact Nat.ne_of_gt (blk_lt (g := gb101001) (o := .cells #[.int .i64 0, .int .i64 0, .int .i64 0, .slice none 0 0] 28 (0, 0)) (by (with_reducible repeat (first | refine blk_drewN ?_ _ | refine blk_drew ?_ | refine blk_alloc ?_ _)); exact BK101001.out)) : gb101018 ≠ gb101001)); have n12_ := Aside0.mk ((by rw [hg]; exact Nat.ne_of_lt (IsS100.lt (show IsS100 w0 _ g s0_0 t101011 from by repeat (first | (with_reducible first | exact HI0.out | apply IsS100.alloc | apply IsS100.drewN | apply IsS100.drew | apply IsS100.set_1 | refine IsS100.far ?_ NB0_101001.out _) | exact HI0.out))) : g ≠ gb101018)); have n13_ := Aside0.mk ((by rw [hg]; exact Nat.ne_of_gt (IsS100.lt (show IsS100 w0 _ g s0_0 t101011 from by repeat (first | (with_reducible first | exact HI0.out | apply IsS100.alloc | apply IsS100.drewN | apply IsS100.drew | apply IsS100.set_1 | refine IsS100.far ?_ NB0_101001.out _) | exact HI0.out))) : gb101018 ≠ g)); clear HO101004; clear HO101009; clear HO101017; clear HI0; clear BK101001; clear HK; clear HB; have HO101004 := n0_; have HO101009 := n1_; have HO101017 := n2_; have HI0 := n3_; have BK101001 := n4_; have HK := n5_; have HB := n6_; have BK101018 := n7_; have GW101018 := n8_; have GE101018 := n9_; have NB101001_101018 := n10_; have NB101018_101001 := n11_; have NB0_101018 := n12_; have NB101018_0 := n13_; clear n0_ n1_ n2_ n3_ n4_ n5_ n6_ n7_ n8_ n9_ n10_ n11_ n12_ n13_; clear hb hbox hg; have hnb19 := NB101018_101001.out; have hnc19 := NB101001_101018.out; have hnb20 := NB101018_0.out; have hnc20 := NB0_101018.out; have hcz21_0 : w18.cell? ⟨gb101018, 0, none⟩ = some (.int .i64 0) := (blk_cell BK101018.out 0).trans rfl; have hcz21_1 : w18.cell? ⟨gb101018, 1, none⟩ = some (.int .i64 0) := (blk_cell BK101018.out 1).trans rfl; have hcz21_2 : w18.cell? ⟨gb101018, 2, none⟩ = some (.int .i64 0) := (blk_cell BK101018.out 2).trans rfl; have hcz21_3 : w18.cell? ⟨gb101018, 3, none⟩ = some (.slice none 0 0) := (blk_cell BK101018.out 3).trans rfl; have hfz21_0 := blk_frozen BK101018.out 0; have hfz21_1 := blk_frozen BK101018.out 1; have hfz21_2 := blk_frozen BK101018.out 2; have hfz21_3 := blk_frozen BK101018.out 3; obtain ⟨Ao22, co22, eo22⟩ := Kd.R_slice HO101017.out; subst eo22) | ((with_reducible refine gate_callee (f := 82) rfl ?_); refine goesL_ (some 18) rfl rfl Try.func82 (by kernel_rfl) rfl #[.pointer (some ⟨g, 0, none⟩), .int .i64 4] rfl (by (try simp only [List.map_toArray, List.map_cons, List.map_nil]); first | done | rfl | (simp only [List.length_drop, List.length_take]; rfl)) ?_; (with_reducible refine (spec_reader_pick.calls k g s0_0 t101011 4 t101019 t101020 w0 _ ?side1 ?side2 A6.out).mono ?_); (case side1 => repeat (first | (with_reducible first | exact HI0.out | apply IsS100.alloc | apply IsS100.drewN | apply IsS100.drew | apply IsS100.set_1 | refine IsS100.far ?_ NB0_101001.out _ | refine IsS100.far ?_ NB0_101018.out _) | exact HI0.out)); (case side2 => repeat (first | (with_reducible first | exact HB.out | apply below_alloc | apply pw_below_drewN | apply below_drew1 | refine below_set ?_ (IsS100.ge HI0.out) | refine below_set ?_ GE101001.out | refine below_set ?_ GE101018.out) | exact HB.out)); rintro e w23 ⟨rfl, hi, hb, hk⟩; refine ⟨_, rfl, ?_⟩; have n0_ := Aside0.mk (KeepBut.blk hk (g' := gb101001) (o := .cells #[.int .i64 0, .int .i64 0, .int .i64 0, .slice none 0 0] 28 (0, 0)) (by (with_reducible repeat (first | refine blk_drewN ?_ _ | refine blk_drew ?_ | refine blk_alloc ?_ _)); refine blk_far ?_ NB101001_101018.out _; (with_reducible repeat (first | refine blk_drewN ?_ _ | refine blk_drew ?_ | refine blk_alloc ?_ _)); refine blk_far ?_ NB101001_101018.out _; (with_reducible repeat (first | refine blk_drewN ?_ _ | refine blk_drew ?_ | refine blk_alloc ?_ _)); refine blk_far ?_ NB101001_101018.out _; (with_reducible repeat (first | refine blk_drewN ?_ _ | refine blk_drew ?_ | refine blk_alloc ?_ _)); refine blk_far ?_ NB101001_101018.out _; (with_reducible repeat (first | refine blk_drewN ?_ _ | refine blk_drew ?_ | refine blk_alloc ?_ _)); exact BK101001.out) NB101001_0.out (by simp)); have n1_ := Aside0.mk (Kd.R_mono (Kd.R_keep (IsS100.apart (show IsS100 w0 _ g s0_0 t101011 from by repeat (first | (with_reducible first | exact HI0.out | apply IsS100.alloc | apply IsS100.drewN | apply IsS100.drew | apply IsS100.set_1 | refine IsS100.far ?_ NB0_101001.out _ | refine IsS100.far ?_ NB0_101018.out _) | exact HI0.out)) (by (with_reducible repeat (first | apply Kd.R_alloc | apply Kd.R_drewN | apply Kd.R_drew)); exact (Kd.R_mono (Kd.R_far (p := ⟨gb101018, 3, none⟩) (Kd.R_far (p := ⟨gb101018, 2, none⟩) (Kd.R_far (p := ⟨gb101018, 1, none⟩) (Kd.R_far (p := ⟨gb101018, 0, none⟩) (Kd.R_types HO101004.out BK101018.out (by decide)) (fun _ hk => hk.2) (.int .i64 t101012)) (fun _ hk => hk.2) (.int .i64 t101013)) (fun _ hk => hk.2) (.int .i64 t101014)) (fun _ hk => hk.2) (.slice Ao22 t101015.length co22)) (fun _ h_ => h_.1))) (by decide)) hk (fun _ h => h.2)) (fun _ h => h.1)); have n2_ := Aside0.mk (Kd.R_mono (Kd.R_keep (IsS100.apart (show IsS100 w0 _ g s0_0 t101011 from by repeat (first | (with_reducible first | exact HI0.out | apply IsS100.alloc | apply IsS100.drewN | apply IsS100.drew | apply IsS100.set_1 | refine IsS100.far ?_ NB0_101001.out _ | refine IsS100.far ?_ NB0_101018.out _) | exact HI0.out)) (by (with_reducible repeat (first | apply Kd.R_alloc | apply Kd.R_drewN | apply Kd.R_drew)); exact (Kd.R_mono (Kd.R_far (p := ⟨gb101018, 3, none⟩) (Kd.R_far (p := ⟨gb101018, 2, none⟩) (Kd.R_far (p := ⟨gb101018, 1, none⟩) (Kd.R_far (p := ⟨gb101018, 0, none⟩) (Kd.R_types HO101009.out BK101018.out (by decide)) (fun _ hk => hk.2) (.int .i64 t101012)) (fun _ hk => hk.2) (.int .i64 t101013)) (fun _ hk => hk.2) (.int .i64 t101014)) (fun _ hk => hk.2) (.slice Ao22 t101015.length co22)) (fun _ h_ => h_.1))) (by decide)) hk (fun _ h => h.2)) (fun _ h => h.1)); have n3_ := Aside0.mk (Kd.R_mono (Kd.R_keep (IsS100.apart (show IsS100 w0 _ g s0_0 t101011 from by repeat (first | (with_reducible first | exact HI0.out | apply IsS100.alloc | apply IsS100.drewN | apply IsS100.drew | apply IsS100.set_1 | refine IsS100.far ?_ NB0_101001.out _ | refine IsS100.far ?_ NB0_101018.out _) | exact HI0.out)) (by (with_reducible repeat (first | apply Kd.R_alloc | apply Kd.R_drewN | apply Kd.R_drew)); exact (Kd.R_mono (Kd.R_far (p := ⟨gb101018, 3, none⟩) (Kd.R_far (p := ⟨gb101018, 2, none⟩) (Kd.R_far (p := ⟨gb101018, 1, none⟩) (Kd.R_far (p := ⟨gb101018, 0, none⟩) (Kd.R_types HO101017.out BK101018.out (by decide)) (fun _ hk => hk.2) (.int .i64 t101012)) (fun _ hk => hk.2) (.int .i64 t101013)) (fun _ hk => hk.2) (.int .i64 t101014)) (fun _ hk => hk.2) (.slice Ao22 t101015.length co22)) (fun _ h_ => h_.1))) (by decide)) hk (fun _ h => h.2)) (fun _ h => h.1)); have n4_ := Aside0.mk (KeepBut.blk hk (g' := gb101018) (o := .cells #[.int .i64 t101012, .int .i64 t101013, .int .i64 t101014, .slice Ao22 t101015.length co22] 28 (0, 0)) (by (with_reducible repeat (first | refine blk_drewN ?_ _ | refine blk_drew ?_ | refine blk_alloc ?_ _)); refine blk_put (cs := #[.int .i64 t101012, .int .i64 t101013, .int .i64 t101014, .slice none 0 0]) ?_ 3 _ rfl; (with_reducible repeat (first | refine blk_drewN ?_ _ | refine blk_drew ?_ | refine blk_alloc ?_ _)); refine blk_put (cs := #[.int .i64 t101012, .int .i64 t101013, .int .i64 0, .slice none 0 0]) ?_ 2 _ rfl; (with_reducible repeat (first | refine blk_drewN ?_ _ | refine blk_drew ?_ | refine blk_alloc ?_ _)); refine blk_put (cs := #[.int .i64 t101012, .int .i64 0, .int .i64 0, .slice none 0 0]) ?_ 1 _ rfl; (with_reducible repeat (first | refine blk_drewN ?_ _ | refine blk_drew ?_ | refine blk_alloc ?_ _)); refine blk_put (cs := #[.int .i64 0, .int .i64 0, .int .i64 0, .slice none 0 0]) ?_ 0 _ rfl; (with_reducible repeat (first | refine blk_drewN ?_ _ | refine blk_drew ?_ | refine blk_alloc ?_ _)); exact BK101018.out) NB101018_0.out (by simp)); have n5_ := Aside0.mk (KeepBut.trans (by repeat (first | (with_reducible first | exact HK.out | apply KeepBut.set_ | apply keep_drewN | apply keep_drew | apply keep_alloc | refine keep_far ?_ GW101001.out _ | refine keep_far ?_ GW101018.out _) | exact HK.out)) hk (.inl rfl)); have n6_ := Aside0.mk (hb); have n7_ := Aside0.mk (hi); clear BK101001; clear HO101004; clear HO101009; clear HO101017; clear BK101018; clear HK; clear HB; clear HI0; have BK101001 := n0_; have HO101004 := n1_; have HO101009 := n2_; have HO101017 := n3_; have BK101018 := n4_; have HK := n5_; have HB := n6_; have HI0 := n7_; clear n0_ n1_ n2_ n3_ n4_ n5_ n6_ n7_; (try clear hb); (try clear hb2); (try clear hk); (try clear hi)) | ((with_reducible refine gate_callee (f := 82) rfl ?_); refine goesL_ (some 20) rfl rfl Try.func82 (by kernel_rfl) rfl #[.pointer (some ⟨g, 0, none⟩), .int .i64 256] rfl (by (try simp only [List.map_toArray, List.map_cons, List.map_nil]); first | done | rfl | (simp only [List.length_drop, List.length_take]; rfl)) ?_; (with_reducible refine (spec_reader_pick.calls k g s0_0 t101020 256 t101021 t101022 w0 _ ?side1 ?side2 A7.out).mono ?_); (case side1 => repeat (first | (with_reducible first | exact HI0.out | apply IsS100.alloc | apply IsS100.drewN | apply IsS100.drew | apply IsS100.set_1 | refine IsS100.far ?_ NB0_101001.out _ | refine IsS100.far ?_ NB0_101018.out _) | exact HI0.out)); (case side2 => repeat (first | (with_reducible first | exact HB.out | apply below_alloc | apply pw_below_drewN | apply below_drew1 | refine below_set ?_ (IsS100.ge HI0.out) | refine below_set ?_ GE101001.out | refine below_set ?_ GE101018.out) | exact HB.out)); rintro e w24 ⟨rfl, hi, hb, hk⟩; refine ⟨_, rfl, ?_⟩; have n0_ := Aside0.mk (KeepBut.blk hk (g' := gb101001) (o := .cells #[.int .i64 0, .int .i64 0, .int .i64 0, .slice none 0 0] 28 (0, 0)) (by (with_reducible repeat (first | refine blk_drewN ?_ _ | refine blk_drew ?_ | refine blk_alloc ?_ _)); exact BK101001.out) NB101001_0.out (by simp)); have n1_ := Aside0.mk (Kd.R_mono (Kd.R_keep (IsS100.apart (show IsS100 w0 _ g s0_0 t101020 from by repeat (first | (with_reducible first | exact HI0.out | apply IsS100.alloc | apply IsS100.drewN | apply IsS100.drew | apply IsS100.set_1 | refine IsS100.far ?_ NB0_101001.out _ | refine IsS100.far ?_ NB0_101018.out _) | exact HI0.out)) (by (with_reducible repeat (first | apply Kd.R_alloc | apply Kd.R_drewN | apply Kd.R_drew)); exact HO101004.out) (by decide)) hk (fun _ h => h.2)) (fun _ h => h.1)); have n2_ := Aside0.mk (Kd.R_mono (Kd.R_keep (IsS100.apart (show IsS100 w0 _ g s0_0 t101020 from by repeat (first | (with_reducible first | exact HI0.out | apply IsS100.alloc | apply IsS100.drewN | apply IsS100.drew | apply IsS100.set_1 | refine IsS100.far ?_ NB0_101001.out _ | refine IsS100.far ?_ NB0_101018.out _) | exact HI0.out)) (by (with_reducible repeat (first | apply Kd.R_alloc | apply Kd.R_drewN | apply Kd.R_drew)); exact HO101009.out) (by decide)) hk (fun _ h => h.2)) (fun _ h => h.1)); have n3_ := Aside0.mk (Kd.R_mono (Kd.R_keep (IsS100.apart (show IsS100 w0 _ g s0_0 t101020 from by repeat (first | (with_reducible first | exact HI0.out | apply IsS100.alloc | apply IsS100.drewN | apply IsS100.drew | apply IsS100.set_1 | refine IsS100.far ?_ NB0_101001.out _ | refine IsS100.far ?_ NB0_101018.out _) | exact HI0.out)) (by (with_reducible repeat (first | apply Kd.R_alloc | apply Kd.R_drewN | apply Kd.R_drew)); exact HO101017.out) (by decide)) hk (fun _ h => h.2)) (fun _ h => h.1)); have n4_ := Aside0.mk (KeepBut.blk hk (g' := gb101018) (o := .cells #[.int .i64 t101012, .int .i64 t101013, .int .i64 t101014, .slice Ao22 t101015.length co22] 28 (0, 0)) (by (with_reducible repeat (first | refine blk_drewN ?_ _ | refine blk_drew ?_ | refine blk_alloc ?_ _)); exact BK101018.out) NB101018_0.out (by simp)); have n5_ := Aside0.mk (KeepBut.trans (by repeat (first | (with_reducible first | exact HK.out | apply KeepBut.set_ | apply keep_drewN | apply keep_drew | apply keep_alloc | refine keep_far ?_ GW101001.out _ | refine keep_far ?_ GW101018.out _) | exact HK.out)) hk (.inl rfl)); have n6_ := Aside0.mk (hb); have n7_ := Aside0.mk (hi); clear BK101001; clear HO101004; clear HO101009; clear HO101017; clear BK101018; clear HK; clear HB; clear HI0; have BK101001 := n0_; have HO101004 := n1_; have HO101009 := n2_; have HO101017 := n3_; have BK101018 := n4_; have HK := n5_; have HB := n6_; have HI0 := n7_; clear n0_ n1_ n2_ n3_ n4_ n5_ n6_ n7_; (try clear hb); (try clear hb2); (try clear hk); (try clear hi)))
  go_loopg [7, 8] k (fun kq v7 v8 w' => ∃ (x7_1 : Int) (x8_1 : Int) (x1001_1 : Int) (x101019003_1 : List Int) (u101019003 : Value), v7 = .int .i64 x7_1 ∧ v8 = .int .i64 x8_1 ∧ Aside0 (spec_randomImage.l0 kq t101019 x7_1 x8_1 s0_0 x1001_1 t101012 t101013 t101014 x101019003_1 = some (r1, r2, r3, r4, r5)) ∧ Aside0 (kq ≤ k) ∧ Aside0 (Kd.R (Kd.int .i64) 3 w' w.heap.size (fun _ => True) u101019003 x101019003_1) ∧ Aside0 (w'.heap[gb101001]? = some (.cells #[.int .i64 0, .int .i64 0, .int .i64 0, (.slice none 0 0)] 28 (0, 0))) ∧ Aside0 (w'.heap[gb101018]? = some (.cells #[.int .i64 t101012, .int .i64 t101013, .int .i64 t101014, u101019003] 28 (0, 0))) ∧ Aside0 (IsS100 w0 w' g s0_0 x1001_1) ∧ Aside0 (KeepBut w w' g none) ∧ Aside0 (Below w0.heap.size w0 w'))
  case atStart => exact ⟨(t101021), (0), (t101022), (t101015), (.slice Ao22 t101015.length co22), (by first | rfl | (simp; done) | (simp [*]; done)), (by first | rfl | (simp; done) | (simp [*]; done)), H', ⟨Nat.le_refl _⟩, ⟨by (with_reducible repeat (first | apply Kd.R_alloc | apply Kd.R_drewN | apply Kd.R_drew)); exact Kd.R_mono HO101017.out (fun _ hk => trivial)⟩, ⟨by (with_reducible repeat (first | refine blk_drewN ?_ _ | refine blk_drew ?_ | refine blk_alloc ?_ _)); exact BK101001.out⟩, ⟨by (with_reducible repeat (first | refine blk_drewN ?_ _ | refine blk_drew ?_ | refine blk_alloc ?_ _)); exact BK101018.out⟩, ⟨by repeat (first | (with_reducible first | exact HI0.out | apply IsS100.alloc | apply IsS100.drewN | apply IsS100.drew | apply IsS100.set_1 | refine IsS100.far ?_ NB0_101001.out _ | refine IsS100.far ?_ NB0_101018.out _) | exact HI0.out)⟩, ⟨by repeat (first | (with_reducible first | exact HK.out | apply KeepBut.set_ | apply keep_drewN | apply keep_drew | apply keep_alloc | refine keep_far ?_ GW101001.out _ | refine keep_far ?_ GW101018.out _) | exact HK.out)⟩, ⟨by repeat (first | (with_reducible first | exact HB.out | apply below_alloc | apply pw_below_drewN | apply below_drew1 | refine below_set ?_ (IsS100.ge HI0.out) | refine below_set ?_ GE101001.out | refine below_set ?_ GE101018.out) | exact HB.out)⟩⟩
  case round =>
    clear H'
    try clear c1
    try clear c2
    try clear p2
    try clear c7
    try clear c8
    try clear c10
    try clear c19
    try clear c20
    try clear hcz21_0
    try clear hcz21_1
    try clear hcz21_2
    try clear hcz21_3
    try clear hfz21_0
    try clear hfz21_1
    try clear hfz21_2
    try clear hfz21_3
    obtain ⟨x7_1, x8_1, x1001_1, x101019003_1, u101019003, rfl, rfl, HA, HK1, HO_101019003, BK101001, BK101018, HI0, HK, HB⟩ := hrel
    cases gk with
    | zero => exact absurd HA.out (by simp [spec_randomImage.l0])
    | succ k1 =>
      have H := HA.out
      clear HA
      simp only [spec_randomImage.l0] at H
      by_cases c25 : x8_1 < (x101019003_1.length : Int)
      · rw [if_pos c25] at H
        have c25b0 : decide (x8_1 < (x101019003_1.length : Int)) = true := decide_eq_true c25
        clear c25
        by_cases c26 : t101019 = 0
        · rw [if_pos c26] at H
          have c26b0 : (t101019 == 0) = true := beq_iff_eq.mpr c26
          have c26b1 : (t101019 != 0) = false := bne_eq_false_iff_eq.mpr c26
          clear c26
          replace H := Option.bind_eq_some_iff.mp H
          obtain ⟨⟨t101023, t101024⟩, A270, H⟩ := H
          replace H : (if 0 ≤ x8_1 then (spec_randomImage.l0 k1 t101019 t101023 (wrap64 (x8_1 + 1)) s0_0 t101024 t101012 t101013 t101014 (x101019003_1.set (x8_1 : Int).toNat t101023)) else (none)) = some (r1, r2, r3, r4, r5) := H
          have A27 := Aside0.mk A270
          clear A270
          by_cases c28 : 0 ≤ x8_1
          · rw [if_pos c28] at H
            have c28b0 : decide (0 ≤ x8_1) = true := decide_eq_true c28
            clear c28
            obtain ⟨y101025, hy101025⟩ : ∃ y_ : List Int, y_ = (x101019003_1.set (x8_1 : Int).toNat t101023) := ⟨_, rfl⟩
            replace H : (spec_randomImage.l0 k1 t101019 t101023 (wrap64 (x8_1 + 1)) s0_0 t101024 t101012 t101013 t101014 y101025) = some (r1, r2, r3, r4, r5) := by first | (rw [hy101025]; with_reducible exact H) | (have H2_ := (Option.bind_some _ _).symm.trans H; rw [hy101025]; with_reducible exact H2_) | (have H2_ := (Option.bind_some _ _).symm.trans H; with_reducible exact H2_) | with_reducible exact H | (rw [hy101025]; exact H) | exact H
            have Ny101025 := Aside0.mk hy101025
            clear hy101025
            have H' := Aside0.mk H
            clear H
            have hnb30 := NB101018_101001.out
            have hnc30 := NB101001_101018.out
            have hnb31 := NB101018_0.out
            have hnc31 := NB0_101018.out
            have hcz32_0 : wr.cell? ⟨gb101018, 0, none⟩ = some (.int .i64 t101012) := (blk_cell BK101018.out 0).trans rfl
            have hcz32_1 : wr.cell? ⟨gb101018, 1, none⟩ = some (.int .i64 t101013) := (blk_cell BK101018.out 1).trans rfl
            have hcz32_2 : wr.cell? ⟨gb101018, 2, none⟩ = some (.int .i64 t101014) := (blk_cell BK101018.out 2).trans rfl
            have hcz32_3 : wr.cell? ⟨gb101018, 3, none⟩ = some (u101019003) := (blk_cell BK101018.out 3).trans rfl
            have hfz32_0 := blk_frozen BK101018.out 0
            have hfz32_1 := blk_frozen BK101018.out 1
            have hfz32_2 := blk_frozen BK101018.out 2
            have hfz32_3 := blk_frozen BK101018.out 3
            obtain ⟨Ao33, co33, eo33⟩ := Kd.R_slice HO_101019003.out
            subst eo33
            go_wp2_with (first | ((with_reducible refine gate_callee (f := 82) rfl ?_); refine goesL_ (some 32) rfl rfl Try.func82 (by kernel_rfl) rfl #[.pointer (some ⟨g, 0, none⟩), .int .i64 256] rfl (by (try simp only [List.map_toArray, List.map_cons, List.map_nil]); first | done | rfl | (simp only [List.length_drop, List.length_take]; rfl)) ?_; (with_reducible refine (spec_reader_pick.calls k1 g s0_0 x1001_1 256 t101023 t101024 w0 _ ?side1 ?side2 A27.out).mono ?_); (case side1 => repeat (first | (with_reducible first | exact HI0.out | apply IsS100.alloc | apply IsS100.drewN | apply IsS100.drew | apply IsS100.set_1 | refine IsS100.far ?_ NB0_101001.out _ | refine IsS100.far ?_ NB0_101018.out _) | exact HI0.out)); (case side2 => repeat (first | (with_reducible first | exact HB.out | apply below_alloc | apply pw_below_drewN | apply below_drew1 | refine below_set ?_ (IsS100.ge HI0.out) | refine below_set ?_ GE101001.out | refine below_set ?_ GE101018.out) | exact HB.out)); rintro e w34 ⟨rfl, hi, hb, hk⟩; refine ⟨_, rfl, ?_⟩; have n0_ := Aside0.mk (Kd.R_mono (Kd.R_keep (IsS100.apart (show IsS100 w0 _ g s0_0 x1001_1 from by repeat (first | (with_reducible first | exact HI0.out | apply IsS100.alloc | apply IsS100.drewN | apply IsS100.drew | apply IsS100.set_1 | refine IsS100.far ?_ NB0_101001.out _ | refine IsS100.far ?_ NB0_101018.out _) | exact HI0.out)) (by (with_reducible repeat (first | apply Kd.R_alloc | apply Kd.R_drewN | apply Kd.R_drew)); exact HO_101019003.out) (by decide)) hk (fun _ h => h.2)) (fun _ h => h.1)); have n1_ := Aside0.mk (KeepBut.blk hk (g' := gb101001) (o := .cells #[.int .i64 0, .int .i64 0, .int .i64 0, .slice none 0 0] 28 (0, 0)) (by (with_reducible repeat (first | refine blk_drewN ?_ _ | refine blk_drew ?_ | refine blk_alloc ?_ _)); exact BK101001.out) NB101001_0.out (by simp)); have n2_ := Aside0.mk (KeepBut.blk hk (g' := gb101018) (o := .cells #[.int .i64 t101012, .int .i64 t101013, .int .i64 t101014, .slice Ao33 x101019003_1.length co33] 28 (0, 0)) (by (with_reducible repeat (first | refine blk_drewN ?_ _ | refine blk_drew ?_ | refine blk_alloc ?_ _)); exact BK101018.out) NB101018_0.out (by simp)); have n3_ := Aside0.mk (KeepBut.trans (by repeat (first | (with_reducible first | exact HK.out | apply KeepBut.set_ | apply keep_drewN | apply keep_drew | apply keep_alloc | refine keep_far ?_ GW101001.out _ | refine keep_far ?_ GW101018.out _) | exact HK.out)) hk (.inl rfl)); have n4_ := Aside0.mk (hb); have n5_ := Aside0.mk (hi); clear HO_101019003; clear BK101001; clear BK101018; clear HK; clear HB; clear HI0; have HO_101019003 := n0_; have BK101001 := n1_; have BK101018 := n2_; have HK := n3_; have HB := n4_; have HI0 := n5_; clear n0_ n1_ n2_ n3_ n4_ n5_; (try clear hb); (try clear hb2); (try clear hk); (try clear hi); have hcz35_0 : w34.cell? ⟨gb101018, 0, none⟩ = some (.int .i64 t101012) := (blk_cell BK101018.out 0).trans rfl; have hcz35_1 : w34.cell? ⟨gb101018, 1, none⟩ = some (.int .i64 t101013) := (blk_cell BK101018.out 1).trans rfl; have hcz35_2 : w34.cell? ⟨gb101018, 2, none⟩ = some (.int .i64 t101014) := (blk_cell BK101018.out 2).trans rfl; have hcz35_3 : w34.cell? ⟨gb101018, 3, none⟩ = some (.slice Ao33 x101019003_1.length co33) := (blk_cell BK101018.out 3).trans rfl; have hfz35_0 := blk_frozen BK101018.out 0; have hfz35_1 := blk_frozen BK101018.out 1; have hfz35_2 := blk_frozen BK101018.out 2; have hfz35_3 := blk_frozen BK101018.out 3; have p29 : 0 ≤ (x8_1 : Int) := of_decide_eq_true (by first | (with_reducible assumption) | assumption); have q29 : (x8_1 : Int) < ((x101019003_1.length : Int) : Int) := of_decide_eq_true (by first | (with_reducible assumption) | assumption); obtain ⟨go29, co29, eo29, gb29, gl29, cl29, HG29⟩ := Kd.R_form HO_101019003.out (by omega); (first | cases eo29 | (injection eo29 with ea_ en_ ec_; (first | subst ea_ | (injection ea_ with ea_; subst ea_)); subst ec_; clear en_)); have GB29 := Aside0.mk gb29; have GG29 := Aside0.mk HG29; clear gb29 gl29 HG29; obtain ⟨hx29_0, hf29_0⟩ := Kd.R_celln 0 HO_101019003.out (x8_1 : Int) p29 q29; replace p29 := eq_true p29; replace q29 := eq_true q29; obtain ⟨hy36_, hz36_⟩ := Kd.R_celln 0 HO_101019003.out (x8_1 : Int) (of_decide_eq_true (by first | (with_reducible assumption) | assumption)) (of_decide_eq_true (by first | (with_reducible assumption) | assumption)); have HP36 := Kd.R_putg HO_101019003.out (x8_1 : Int) t101023) | ((with_reducible refine gate_store (t := 3) (p := 50) rfl ?_); refine store_event (t := 3) (p := 50) (v := ?vo_w37) (w1 := (w34.setCell ⟨go29, (x8_1 : Int).toNat, none⟩ (.int .i64 t101023))) ?hg ?ho ?hn ?hr ?_; (case ho => rfl); (case hg => rfl); (case hn => rfl); (case hr => first | (go_simp; done) | (go_simp; rfl)); intro w37 hw; have hg : w34.grownBy w37 (some go29) := (by rw [hw]; exact HP36.2); have hp_ : Kd.R (Kd.int .i64) 3 w37 w.heap.size (fun _ => True) (.slice (some ⟨go29, 0, none⟩) x101019003_1.length co33) y101025 := (by rw [hw, Ny101025.out]; exact HP36.1); clear HP36; have n0_ := Aside0.mk (hp_); have n1_ := Aside0.mk (blk_grown (g := gb101001) (o := .cells #[.int .i64 0, .int .i64 0, .int .i64 0, .slice none 0 0] 28 (0, 0)) (by (with_reducible repeat (first | refine blk_drewN ?_ _ | refine blk_drew ?_ | refine blk_alloc ?_ _)); exact BK101001.out) hg (Kd.R_ne HO_101019003.out BK101001.out (by decide))); have n2_ := Aside0.mk (blk_grown (g := gb101018) (o := .cells #[.int .i64 t101012, .int .i64 t101013, .int .i64 t101014, .slice (some ⟨go29, 0, none⟩) x101019003_1.length co33] 28 (0, 0)) (by (with_reducible repeat (first | refine blk_drewN ?_ _ | refine blk_drew ?_ | refine blk_alloc ?_ _)); exact BK101018.out) hg (Kd.R_ne HO_101019003.out BK101018.out (by decide))); have n3_ := Aside0.mk (IsS100.grown (by repeat (first | (with_reducible first | exact HI0.out | apply IsS100.alloc | apply IsS100.drewN | apply IsS100.drew | apply IsS100.set_1 | refine IsS100.far ?_ NB0_101001.out _ | refine IsS100.far ?_ NB0_101018.out _) | exact HI0.out)) hg (IsS100.own_ne HI0.out HO_101019003.out (by decide))); have n4_ := Aside0.mk ((by rw [hw]; exact below_set (HB.out) (Nat.le_trans HL.out GB29.out) : Below w0.heap.size w0 w37)); have n5_ := Aside0.mk (KeepBut.trans (by repeat (first | (with_reducible first | exact HK.out | apply KeepBut.set_ | apply keep_drewN | apply keep_drew | apply keep_alloc | refine keep_far ?_ GW101001.out _ | refine keep_far ?_ GW101018.out _) | exact HK.out)) (KeepBut.of_grown hg g) (Kd.R_base2 HO_101019003.out)); clear HO_101019003; clear BK101001; clear BK101018; clear HI0; clear HB; clear HK; have HO_101019003 := n0_; have BK101001 := n1_; have BK101018 := n2_; have HI0 := n3_; have HB := n4_; have HK := n5_; clear n0_ n1_ n2_ n3_ n4_ n5_; clear hg hw hp_))
            go_roundg k1
            case measure => have := HK1.out; omega
            case rel => exact ⟨(t101023), (wrap64 (x8_1 + 1)), (t101024), (y101025), (.slice (some ⟨go29, 0, none⟩) x101019003_1.length co33), (by first | rfl | (simp; done) | (simp [*]; done)), (by first | rfl | (simp; done) | (simp [*]; done)), H', ⟨by have := HK1.out; omega⟩, ⟨by (with_reducible repeat (first | apply Kd.R_alloc | apply Kd.R_drewN | apply Kd.R_drew)); exact HO_101019003.out⟩, ⟨by (with_reducible repeat (first | refine blk_drewN ?_ _ | refine blk_drew ?_ | refine blk_alloc ?_ _)); exact BK101001.out⟩, ⟨by (with_reducible repeat (first | refine blk_drewN ?_ _ | refine blk_drew ?_ | refine blk_alloc ?_ _)); exact BK101018.out⟩, ⟨by repeat (first | (with_reducible first | exact HI0.out | apply IsS100.alloc | apply IsS100.drewN | apply IsS100.drew | apply IsS100.set_1 | refine IsS100.far ?_ NB0_101001.out _ | refine IsS100.far ?_ NB0_101018.out _) | exact HI0.out)⟩, ⟨by repeat (first | (with_reducible first | exact HK.out | apply KeepBut.set_ | apply keep_drewN | apply keep_drew | apply keep_alloc | refine keep_far ?_ GW101001.out _ | refine keep_far ?_ GW101018.out _) | exact HK.out)⟩, ⟨by repeat (first | (with_reducible first | exact HB.out | apply below_alloc | apply pw_below_drewN | apply below_drew1 | refine below_set ?_ (IsS100.ge HI0.out) | refine below_set ?_ GE101001.out | refine below_set ?_ GE101018.out) | exact HB.out)⟩⟩
          · rw [if_neg c28] at H
            exact absurd H (by simp)
        · rw [if_neg c26] at H
          have c26b0 : (t101019 == 0) = false := beq_eq_false_iff_ne.mpr c26
          have c26b1 : (t101019 != 0) = true := bne_iff_ne.mpr c26
          by_cases c38 : t101019 = 1
          · rw [if_pos c38] at H
            have c38b0 : (t101019 == 1) = true := beq_iff_eq.mpr c38
            have c38b1 : (t101019 != 1) = false := bne_eq_false_iff_eq.mpr c38
            clear c38
            replace H := Option.bind_eq_some_iff.mp H
            obtain ⟨⟨t101026, t101027⟩, A390, H⟩ := H
            replace H : (if 0 ≤ x8_1 then (spec_randomImage.l0 k1 t101019 (Int.tmod (wrap64 ((wrap64 (x7_1 + t101026)) + 254)) 256) (wrap64 (x8_1 + 1)) s0_0 t101027 t101012 t101013 t101014 (x101019003_1.set (x8_1 : Int).toNat (Int.tmod (wrap64 ((wrap64 (x7_1 + t101026)) + 254)) 256))) else (none)) = some (r1, r2, r3, r4, r5) := H
            have A39 := Aside0.mk A390
            clear A390
            by_cases c40 : 0 ≤ x8_1
            · rw [if_pos c40] at H
              have c40b0 : decide (0 ≤ x8_1) = true := decide_eq_true c40
              clear c40
              obtain ⟨y101028, hy101028⟩ : ∃ y_ : List Int, y_ = (x101019003_1.set (x8_1 : Int).toNat (Int.tmod (wrap64 ((wrap64 (x7_1 + t101026)) + 254)) 256)) := ⟨_, rfl⟩
              replace H : (spec_randomImage.l0 k1 t101019 (Int.tmod (wrap64 ((wrap64 (x7_1 + t101026)) + 254)) 256) (wrap64 (x8_1 + 1)) s0_0 t101027 t101012 t101013 t101014 y101028) = some (r1, r2, r3, r4, r5) := by first | (rw [hy101028]; with_reducible exact H) | (have H2_ := (Option.bind_some _ _).symm.trans H; rw [hy101028]; with_reducible exact H2_) | (have H2_ := (Option.bind_some _ _).symm.trans H; with_reducible exact H2_) | with_reducible exact H | (rw [hy101028]; exact H) | exact H
              have Ny101028 := Aside0.mk hy101028
              clear hy101028
              have H' := Aside0.mk H
              clear H
              have hnb42 := NB101018_101001.out
              have hnc42 := NB101001_101018.out
              have hnb43 := NB101018_0.out
              have hnc43 := NB0_101018.out
              have hcz44_0 : wr.cell? ⟨gb101018, 0, none⟩ = some (.int .i64 t101012) := (blk_cell BK101018.out 0).trans rfl
              have hcz44_1 : wr.cell? ⟨gb101018, 1, none⟩ = some (.int .i64 t101013) := (blk_cell BK101018.out 1).trans rfl
              have hcz44_2 : wr.cell? ⟨gb101018, 2, none⟩ = some (.int .i64 t101014) := (blk_cell BK101018.out 2).trans rfl
              have hcz44_3 : wr.cell? ⟨gb101018, 3, none⟩ = some (u101019003) := (blk_cell BK101018.out 3).trans rfl
              have hfz44_0 := blk_frozen BK101018.out 0
              have hfz44_1 := blk_frozen BK101018.out 1
              have hfz44_2 := blk_frozen BK101018.out 2
              have hfz44_3 := blk_frozen BK101018.out 3
              obtain ⟨Ao45, co45, eo45⟩ := Kd.R_slice HO_101019003.out
              subst eo45
              go_wp2_with (first | ((with_reducible refine gate_callee (f := 82) rfl ?_); refine goesL_ (some 37) rfl rfl Try.func82 (by kernel_rfl) rfl #[.pointer (some ⟨g, 0, none⟩), .int .i64 5] rfl (by (try simp only [List.map_toArray, List.map_cons, List.map_nil]); first | done | rfl | (simp only [List.length_drop, List.length_take]; rfl)) ?_; (with_reducible refine (spec_reader_pick.calls k1 g s0_0 x1001_1 5 t101026 t101027 w0 _ ?side1 ?side2 A39.out).mono ?_); (case side1 => repeat (first | (with_reducible first | exact HI0.out | apply IsS100.alloc | apply IsS100.drewN | apply IsS100.drew | apply IsS100.set_1 | refine IsS100.far ?_ NB0_101001.out _ | refine IsS100.far ?_ NB0_101018.out _) | exact HI0.out)); (case side2 => repeat (first | (with_reducible first | exact HB.out | apply below_alloc | apply pw_below_drewN | apply below_drew1 | refine below_set ?_ (IsS100.ge HI0.out) | refine below_set ?_ GE101001.out | refine below_set ?_ GE101018.out) | exact HB.out)); rintro e w46 ⟨rfl, hi, hb, hk⟩; refine ⟨_, rfl, ?_⟩; have n0_ := Aside0.mk (Kd.R_mono (Kd.R_keep (IsS100.apart (show IsS100 w0 _ g s0_0 x1001_1 from by repeat (first | (with_reducible first | exact HI0.out | apply IsS100.alloc | apply IsS100.drewN | apply IsS100.drew | apply IsS100.set_1 | refine IsS100.far ?_ NB0_101001.out _ | refine IsS100.far ?_ NB0_101018.out _) | exact HI0.out)) (by (with_reducible repeat (first | apply Kd.R_alloc | apply Kd.R_drewN | apply Kd.R_drew)); exact HO_101019003.out) (by decide)) hk (fun _ h => h.2)) (fun _ h => h.1)); have n1_ := Aside0.mk (KeepBut.blk hk (g' := gb101001) (o := .cells #[.int .i64 0, .int .i64 0, .int .i64 0, .slice none 0 0] 28 (0, 0)) (by (with_reducible repeat (first | refine blk_drewN ?_ _ | refine blk_drew ?_ | refine blk_alloc ?_ _)); exact BK101001.out) NB101001_0.out (by simp)); have n2_ := Aside0.mk (KeepBut.blk hk (g' := gb101018) (o := .cells #[.int .i64 t101012, .int .i64 t101013, .int .i64 t101014, .slice Ao45 x101019003_1.length co45] 28 (0, 0)) (by (with_reducible repeat (first | refine blk_drewN ?_ _ | refine blk_drew ?_ | refine blk_alloc ?_ _)); exact BK101018.out) NB101018_0.out (by simp)); have n3_ := Aside0.mk (KeepBut.trans (by repeat (first | (with_reducible first | exact HK.out | apply KeepBut.set_ | apply keep_drewN | apply keep_drew | apply keep_alloc | refine keep_far ?_ GW101001.out _ | refine keep_far ?_ GW101018.out _) | exact HK.out)) hk (.inl rfl)); have n4_ := Aside0.mk (hb); have n5_ := Aside0.mk (hi); clear HO_101019003; clear BK101001; clear BK101018; clear HK; clear HB; clear HI0; have HO_101019003 := n0_; have BK101001 := n1_; have BK101018 := n2_; have HK := n3_; have HB := n4_; have HI0 := n5_; clear n0_ n1_ n2_ n3_ n4_ n5_; (try clear hb); (try clear hb2); (try clear hk); (try clear hi); have hcz47_0 : w46.cell? ⟨gb101018, 0, none⟩ = some (.int .i64 t101012) := (blk_cell BK101018.out 0).trans rfl; have hcz47_1 : w46.cell? ⟨gb101018, 1, none⟩ = some (.int .i64 t101013) := (blk_cell BK101018.out 1).trans rfl; have hcz47_2 : w46.cell? ⟨gb101018, 2, none⟩ = some (.int .i64 t101014) := (blk_cell BK101018.out 2).trans rfl; have hcz47_3 : w46.cell? ⟨gb101018, 3, none⟩ = some (.slice Ao45 x101019003_1.length co45) := (blk_cell BK101018.out 3).trans rfl; have hfz47_0 := blk_frozen BK101018.out 0; have hfz47_1 := blk_frozen BK101018.out 1; have hfz47_2 := blk_frozen BK101018.out 2; have hfz47_3 := blk_frozen BK101018.out 3; have p41 : 0 ≤ (x8_1 : Int) := of_decide_eq_true (by first | (with_reducible assumption) | assumption); have q41 : (x8_1 : Int) < ((x101019003_1.length : Int) : Int) := of_decide_eq_true (by first | (with_reducible assumption) | assumption); obtain ⟨go41, co41, eo41, gb41, gl41, cl41, HG41⟩ := Kd.R_form HO_101019003.out (by omega); (first | cases eo41 | (injection eo41 with ea_ en_ ec_; (first | subst ea_ | (injection ea_ with ea_; subst ea_)); subst ec_; clear en_)); have GB41 := Aside0.mk gb41; have GG41 := Aside0.mk HG41; clear gb41 gl41 HG41; obtain ⟨hx41_0, hf41_0⟩ := Kd.R_celln 0 HO_101019003.out (x8_1 : Int) p41 q41; replace p41 := eq_true p41; replace q41 := eq_true q41; obtain ⟨hy48_, hz48_⟩ := Kd.R_celln 0 HO_101019003.out (x8_1 : Int) (of_decide_eq_true (by first | (with_reducible assumption) | assumption)) (of_decide_eq_true (by first | (with_reducible assumption) | assumption)); have HP48 := Kd.R_putg HO_101019003.out (x8_1 : Int) (Int.tmod (wrap64 ((wrap64 (x7_1 + t101026)) + 254)) 256)) | ((with_reducible refine gate_store (t := 3) (p := 50) rfl ?_); refine store_event (t := 3) (p := 50) (v := ?vo_w49) (w1 := (w46.setCell ⟨go41, (x8_1 : Int).toNat, none⟩ (.int .i64 (Int.tmod (wrap64 ((wrap64 (x7_1 + t101026)) + 254)) 256)))) ?hg ?ho ?hn ?hr ?_; (case ho => rfl); (case hg => rfl); (case hn => rfl); (case hr => first | (go_simp; done) | (go_simp; rfl)); intro w49 hw; have hg : w46.grownBy w49 (some go41) := (by rw [hw]; exact HP48.2); have hp_ : Kd.R (Kd.int .i64) 3 w49 w.heap.size (fun _ => True) (.slice (some ⟨go41, 0, none⟩) x101019003_1.length co45) y101028 := (by rw [hw, Ny101028.out]; exact HP48.1); clear HP48; have n0_ := Aside0.mk (hp_); have n1_ := Aside0.mk (blk_grown (g := gb101001) (o := .cells #[.int .i64 0, .int .i64 0, .int .i64 0, .slice none 0 0] 28 (0, 0)) (by (with_reducible repeat (first | refine blk_drewN ?_ _ | refine blk_drew ?_ | refine blk_alloc ?_ _)); exact BK101001.out) hg (Kd.R_ne HO_101019003.out BK101001.out (by decide))); have n2_ := Aside0.mk (blk_grown (g := gb101018) (o := .cells #[.int .i64 t101012, .int .i64 t101013, .int .i64 t101014, .slice (some ⟨go41, 0, none⟩) x101019003_1.length co45] 28 (0, 0)) (by (with_reducible repeat (first | refine blk_drewN ?_ _ | refine blk_drew ?_ | refine blk_alloc ?_ _)); exact BK101018.out) hg (Kd.R_ne HO_101019003.out BK101018.out (by decide))); have n3_ := Aside0.mk (IsS100.grown (by repeat (first | (with_reducible first | exact HI0.out | apply IsS100.alloc | apply IsS100.drewN | apply IsS100.drew | apply IsS100.set_1 | refine IsS100.far ?_ NB0_101001.out _ | refine IsS100.far ?_ NB0_101018.out _) | exact HI0.out)) hg (IsS100.own_ne HI0.out HO_101019003.out (by decide))); have n4_ := Aside0.mk ((by rw [hw]; exact below_set (HB.out) (Nat.le_trans HL.out GB41.out) : Below w0.heap.size w0 w49)); have n5_ := Aside0.mk (KeepBut.trans (by repeat (first | (with_reducible first | exact HK.out | apply KeepBut.set_ | apply keep_drewN | apply keep_drew | apply keep_alloc | refine keep_far ?_ GW101001.out _ | refine keep_far ?_ GW101018.out _) | exact HK.out)) (KeepBut.of_grown hg g) (Kd.R_base2 HO_101019003.out)); clear HO_101019003; clear BK101001; clear BK101018; clear HI0; clear HB; clear HK; have HO_101019003 := n0_; have BK101001 := n1_; have BK101018 := n2_; have HI0 := n3_; have HB := n4_; have HK := n5_; clear n0_ n1_ n2_ n3_ n4_ n5_; clear hg hw hp_))
              go_roundg k1
              case measure => have := HK1.out; omega
              case rel => exact ⟨(Int.tmod (wrap64 ((wrap64 (x7_1 + t101026)) + 254)) 256), (wrap64 (x8_1 + 1)), (t101027), (y101028), (.slice (some ⟨go41, 0, none⟩) x101019003_1.length co45), (by first | rfl | (simp; done) | (simp [*]; done)), (by first | rfl | (simp; done) | (simp [*]; done)), H', ⟨by have := HK1.out; omega⟩, ⟨by (with_reducible repeat (first | apply Kd.R_alloc | apply Kd.R_drewN | apply Kd.R_drew)); exact HO_101019003.out⟩, ⟨by (with_reducible repeat (first | refine blk_drewN ?_ _ | refine blk_drew ?_ | refine blk_alloc ?_ _)); exact BK101001.out⟩, ⟨by (with_reducible repeat (first | refine blk_drewN ?_ _ | refine blk_drew ?_ | refine blk_alloc ?_ _)); exact BK101018.out⟩, ⟨by repeat (first | (with_reducible first | exact HI0.out | apply IsS100.alloc | apply IsS100.drewN | apply IsS100.drew | apply IsS100.set_1 | refine IsS100.far ?_ NB0_101001.out _ | refine IsS100.far ?_ NB0_101018.out _) | exact HI0.out)⟩, ⟨by repeat (first | (with_reducible first | exact HK.out | apply KeepBut.set_ | apply keep_drewN | apply keep_drew | apply keep_alloc | refine keep_far ?_ GW101001.out _ | refine keep_far ?_ GW101018.out _) | exact HK.out)⟩, ⟨by repeat (first | (with_reducible first | exact HB.out | apply below_alloc | apply pw_below_drewN | apply below_drew1 | refine below_set ?_ (IsS100.ge HI0.out) | refine below_set ?_ GE101001.out | refine below_set ?_ GE101018.out) | exact HB.out)⟩⟩
            · rw [if_neg c40] at H
              exact absurd H (by simp)
          · rw [if_neg c38] at H
            have c38b0 : (t101019 == 1) = false := beq_eq_false_iff_ne.mpr c38
            have c38b1 : (t101019 != 1) = true := bne_iff_ne.mpr c38
            by_cases c50 : t101019 = 2
            · rw [if_pos c50] at H
              have c50b0 : (t101019 == 2) = true := beq_iff_eq.mpr c50
              have c50b1 : (t101019 != 2) = false := bne_eq_false_iff_eq.mpr c50
              clear c50
              replace H := Option.bind_eq_some_iff.mp H
              obtain ⟨⟨t101029, t101030⟩, A510, H⟩ := H
              replace H : (if 0 ≤ x8_1 then (spec_randomImage.l0 k1 t101019 (wrap64 (60 * t101029)) (wrap64 (x8_1 + 1)) s0_0 t101030 t101012 t101013 t101014 (x101019003_1.set (x8_1 : Int).toNat (wrap64 (60 * t101029)))) else (none)) = some (r1, r2, r3, r4, r5) := H
              have A51 := Aside0.mk A510
              clear A510
              by_cases c52 : 0 ≤ x8_1
              · rw [if_pos c52] at H
                have c52b0 : decide (0 ≤ x8_1) = true := decide_eq_true c52
                clear c52
                obtain ⟨y101031, hy101031⟩ : ∃ y_ : List Int, y_ = (x101019003_1.set (x8_1 : Int).toNat (wrap64 (60 * t101029))) := ⟨_, rfl⟩
                replace H : (spec_randomImage.l0 k1 t101019 (wrap64 (60 * t101029)) (wrap64 (x8_1 + 1)) s0_0 t101030 t101012 t101013 t101014 y101031) = some (r1, r2, r3, r4, r5) := by first | (rw [hy101031]; with_reducible exact H) | (have H2_ := (Option.bind_some _ _).symm.trans H; rw [hy101031]; with_reducible exact H2_) | (have H2_ := (Option.bind_some _ _).symm.trans H; with_reducible exact H2_) | with_reducible exact H | (rw [hy101031]; exact H) | exact H
                have Ny101031 := Aside0.mk hy101031
                clear hy101031
                have H' := Aside0.mk H
                clear H
                have hnb54 := NB101018_101001.out
                have hnc54 := NB101001_101018.out
                have hnb55 := NB101018_0.out
                have hnc55 := NB0_101018.out
                have hcz56_0 : wr.cell? ⟨gb101018, 0, none⟩ = some (.int .i64 t101012) := (blk_cell BK101018.out 0).trans rfl
                have hcz56_1 : wr.cell? ⟨gb101018, 1, none⟩ = some (.int .i64 t101013) := (blk_cell BK101018.out 1).trans rfl
                have hcz56_2 : wr.cell? ⟨gb101018, 2, none⟩ = some (.int .i64 t101014) := (blk_cell BK101018.out 2).trans rfl
                have hcz56_3 : wr.cell? ⟨gb101018, 3, none⟩ = some (u101019003) := (blk_cell BK101018.out 3).trans rfl
                have hfz56_0 := blk_frozen BK101018.out 0
                have hfz56_1 := blk_frozen BK101018.out 1
                have hfz56_2 := blk_frozen BK101018.out 2
                have hfz56_3 := blk_frozen BK101018.out 3
                obtain ⟨Ao57, co57, eo57⟩ := Kd.R_slice HO_101019003.out
                subst eo57
                go_wp2_with (first | ((with_reducible refine gate_callee (f := 82) rfl ?_); refine goesL_ (some 44) rfl rfl Try.func82 (by kernel_rfl) rfl #[.pointer (some ⟨g, 0, none⟩), .int .i64 4] rfl (by (try simp only [List.map_toArray, List.map_cons, List.map_nil]); first | done | rfl | (simp only [List.length_drop, List.length_take]; rfl)) ?_; (with_reducible refine (spec_reader_pick.calls k1 g s0_0 x1001_1 4 t101029 t101030 w0 _ ?side1 ?side2 A51.out).mono ?_); (case side1 => repeat (first | (with_reducible first | exact HI0.out | apply IsS100.alloc | apply IsS100.drewN | apply IsS100.drew | apply IsS100.set_1 | refine IsS100.far ?_ NB0_101001.out _ | refine IsS100.far ?_ NB0_101018.out _) | exact HI0.out)); (case side2 => repeat (first | (with_reducible first | exact HB.out | apply below_alloc | apply pw_below_drewN | apply below_drew1 | refine below_set ?_ (IsS100.ge HI0.out) | refine below_set ?_ GE101001.out | refine below_set ?_ GE101018.out) | exact HB.out)); rintro e w58 ⟨rfl, hi, hb, hk⟩; refine ⟨_, rfl, ?_⟩; have n0_ := Aside0.mk (Kd.R_mono (Kd.R_keep (IsS100.apart (show IsS100 w0 _ g s0_0 x1001_1 from by repeat (first | (with_reducible first | exact HI0.out | apply IsS100.alloc | apply IsS100.drewN | apply IsS100.drew | apply IsS100.set_1 | refine IsS100.far ?_ NB0_101001.out _ | refine IsS100.far ?_ NB0_101018.out _) | exact HI0.out)) (by (with_reducible repeat (first | apply Kd.R_alloc | apply Kd.R_drewN | apply Kd.R_drew)); exact HO_101019003.out) (by decide)) hk (fun _ h => h.2)) (fun _ h => h.1)); have n1_ := Aside0.mk (KeepBut.blk hk (g' := gb101001) (o := .cells #[.int .i64 0, .int .i64 0, .int .i64 0, .slice none 0 0] 28 (0, 0)) (by (with_reducible repeat (first | refine blk_drewN ?_ _ | refine blk_drew ?_ | refine blk_alloc ?_ _)); exact BK101001.out) NB101001_0.out (by simp)); have n2_ := Aside0.mk (KeepBut.blk hk (g' := gb101018) (o := .cells #[.int .i64 t101012, .int .i64 t101013, .int .i64 t101014, .slice Ao57 x101019003_1.length co57] 28 (0, 0)) (by (with_reducible repeat (first | refine blk_drewN ?_ _ | refine blk_drew ?_ | refine blk_alloc ?_ _)); exact BK101018.out) NB101018_0.out (by simp)); have n3_ := Aside0.mk (KeepBut.trans (by repeat (first | (with_reducible first | exact HK.out | apply KeepBut.set_ | apply keep_drewN | apply keep_drew | apply keep_alloc | refine keep_far ?_ GW101001.out _ | refine keep_far ?_ GW101018.out _) | exact HK.out)) hk (.inl rfl)); have n4_ := Aside0.mk (hb); have n5_ := Aside0.mk (hi); clear HO_101019003; clear BK101001; clear BK101018; clear HK; clear HB; clear HI0; have HO_101019003 := n0_; have BK101001 := n1_; have BK101018 := n2_; have HK := n3_; have HB := n4_; have HI0 := n5_; clear n0_ n1_ n2_ n3_ n4_ n5_; (try clear hb); (try clear hb2); (try clear hk); (try clear hi); have hcz59_0 : w58.cell? ⟨gb101018, 0, none⟩ = some (.int .i64 t101012) := (blk_cell BK101018.out 0).trans rfl; have hcz59_1 : w58.cell? ⟨gb101018, 1, none⟩ = some (.int .i64 t101013) := (blk_cell BK101018.out 1).trans rfl; have hcz59_2 : w58.cell? ⟨gb101018, 2, none⟩ = some (.int .i64 t101014) := (blk_cell BK101018.out 2).trans rfl; have hcz59_3 : w58.cell? ⟨gb101018, 3, none⟩ = some (.slice Ao57 x101019003_1.length co57) := (blk_cell BK101018.out 3).trans rfl; have hfz59_0 := blk_frozen BK101018.out 0; have hfz59_1 := blk_frozen BK101018.out 1; have hfz59_2 := blk_frozen BK101018.out 2; have hfz59_3 := blk_frozen BK101018.out 3; have p53 : 0 ≤ (x8_1 : Int) := of_decide_eq_true (by first | (with_reducible assumption) | assumption); have q53 : (x8_1 : Int) < ((x101019003_1.length : Int) : Int) := of_decide_eq_true (by first | (with_reducible assumption) | assumption); obtain ⟨go53, co53, eo53, gb53, gl53, cl53, HG53⟩ := Kd.R_form HO_101019003.out (by omega); (first | cases eo53 | (injection eo53 with ea_ en_ ec_; (first | subst ea_ | (injection ea_ with ea_; subst ea_)); subst ec_; clear en_)); have GB53 := Aside0.mk gb53; have GG53 := Aside0.mk HG53; clear gb53 gl53 HG53; obtain ⟨hx53_0, hf53_0⟩ := Kd.R_celln 0 HO_101019003.out (x8_1 : Int) p53 q53; replace p53 := eq_true p53; replace q53 := eq_true q53; obtain ⟨hy60_, hz60_⟩ := Kd.R_celln 0 HO_101019003.out (x8_1 : Int) (of_decide_eq_true (by first | (with_reducible assumption) | assumption)) (of_decide_eq_true (by first | (with_reducible assumption) | assumption)); have HP60 := Kd.R_putg HO_101019003.out (x8_1 : Int) (wrap64 (60 * t101029))) | ((with_reducible refine gate_store (t := 3) (p := 50) rfl ?_); refine store_event (t := 3) (p := 50) (v := ?vo_w61) (w1 := (w58.setCell ⟨go53, (x8_1 : Int).toNat, none⟩ (.int .i64 (wrap64 (60 * t101029))))) ?hg ?ho ?hn ?hr ?_; (case ho => rfl); (case hg => rfl); (case hn => rfl); (case hr => first | (go_simp; done) | (go_simp; rfl)); intro w61 hw; have hg : w58.grownBy w61 (some go53) := (by rw [hw]; exact HP60.2); have hp_ : Kd.R (Kd.int .i64) 3 w61 w.heap.size (fun _ => True) (.slice (some ⟨go53, 0, none⟩) x101019003_1.length co57) y101031 := (by rw [hw, Ny101031.out]; exact HP60.1); clear HP60; have n0_ := Aside0.mk (hp_); have n1_ := Aside0.mk (blk_grown (g := gb101001) (o := .cells #[.int .i64 0, .int .i64 0, .int .i64 0, .slice none 0 0] 28 (0, 0)) (by (with_reducible repeat (first | refine blk_drewN ?_ _ | refine blk_drew ?_ | refine blk_alloc ?_ _)); exact BK101001.out) hg (Kd.R_ne HO_101019003.out BK101001.out (by decide))); have n2_ := Aside0.mk (blk_grown (g := gb101018) (o := .cells #[.int .i64 t101012, .int .i64 t101013, .int .i64 t101014, .slice (some ⟨go53, 0, none⟩) x101019003_1.length co57] 28 (0, 0)) (by (with_reducible repeat (first | refine blk_drewN ?_ _ | refine blk_drew ?_ | refine blk_alloc ?_ _)); exact BK101018.out) hg (Kd.R_ne HO_101019003.out BK101018.out (by decide))); have n3_ := Aside0.mk (IsS100.grown (by repeat (first | (with_reducible first | exact HI0.out | apply IsS100.alloc | apply IsS100.drewN | apply IsS100.drew | apply IsS100.set_1 | refine IsS100.far ?_ NB0_101001.out _ | refine IsS100.far ?_ NB0_101018.out _) | exact HI0.out)) hg (IsS100.own_ne HI0.out HO_101019003.out (by decide))); have n4_ := Aside0.mk ((by rw [hw]; exact below_set (HB.out) (Nat.le_trans HL.out GB53.out) : Below w0.heap.size w0 w61)); have n5_ := Aside0.mk (KeepBut.trans (by repeat (first | (with_reducible first | exact HK.out | apply KeepBut.set_ | apply keep_drewN | apply keep_drew | apply keep_alloc | refine keep_far ?_ GW101001.out _ | refine keep_far ?_ GW101018.out _) | exact HK.out)) (KeepBut.of_grown hg g) (Kd.R_base2 HO_101019003.out)); clear HO_101019003; clear BK101001; clear BK101018; clear HI0; clear HB; clear HK; have HO_101019003 := n0_; have BK101001 := n1_; have BK101018 := n2_; have HI0 := n3_; have HB := n4_; have HK := n5_; clear n0_ n1_ n2_ n3_ n4_ n5_; clear hg hw hp_))
                go_roundg k1
                case measure => have := HK1.out; omega
                case rel => exact ⟨(wrap64 (60 * t101029)), (wrap64 (x8_1 + 1)), (t101030), (y101031), (.slice (some ⟨go53, 0, none⟩) x101019003_1.length co57), (by first | rfl | (simp; done) | (simp [*]; done)), (by first | rfl | (simp; done) | (simp [*]; done)), H', ⟨by have := HK1.out; omega⟩, ⟨by (with_reducible repeat (first | apply Kd.R_alloc | apply Kd.R_drewN | apply Kd.R_drew)); exact HO_101019003.out⟩, ⟨by (with_reducible repeat (first | refine blk_drewN ?_ _ | refine blk_drew ?_ | refine blk_alloc ?_ _)); exact BK101001.out⟩, ⟨by (with_reducible repeat (first | refine blk_drewN ?_ _ | refine blk_drew ?_ | refine blk_alloc ?_ _)); exact BK101018.out⟩, ⟨by repeat (first | (with_reducible first | exact HI0.out | apply IsS100.alloc | apply IsS100.drewN | apply IsS100.drew | apply IsS100.set_1 | refine IsS100.far ?_ NB0_101001.out _ | refine IsS100.far ?_ NB0_101018.out _) | exact HI0.out)⟩, ⟨by repeat (first | (with_reducible first | exact HK.out | apply KeepBut.set_ | apply keep_drewN | apply keep_drew | apply keep_alloc | refine keep_far ?_ GW101001.out _ | refine keep_far ?_ GW101018.out _) | exact HK.out)⟩, ⟨by repeat (first | (with_reducible first | exact HB.out | apply below_alloc | apply pw_below_drewN | apply below_drew1 | refine below_set ?_ (IsS100.ge HI0.out) | refine below_set ?_ GE101001.out | refine below_set ?_ GE101018.out) | exact HB.out)⟩⟩
              · rw [if_neg c52] at H
                exact absurd H (by simp)
            · rw [if_neg c50] at H
              have c50b0 : (t101019 == 2) = false := beq_eq_false_iff_ne.mpr c50
              have c50b1 : (t101019 != 2) = true := bne_iff_ne.mpr c50
              by_cases c62 : 0 ≤ x8_1
              · rw [if_pos c62] at H
                have c62b0 : decide (0 ≤ x8_1) = true := decide_eq_true c62
                clear c62
                obtain ⟨y101032, hy101032⟩ : ∃ y_ : List Int, y_ = (x101019003_1.set (x8_1 : Int).toNat x7_1) := ⟨_, rfl⟩
                replace H : (spec_randomImage.l0 k1 t101019 x7_1 (wrap64 (x8_1 + 1)) s0_0 x1001_1 t101012 t101013 t101014 y101032) = some (r1, r2, r3, r4, r5) := by first | (rw [hy101032]; with_reducible exact H) | (have H2_ := (Option.bind_some _ _).symm.trans H; rw [hy101032]; with_reducible exact H2_) | (have H2_ := (Option.bind_some _ _).symm.trans H; with_reducible exact H2_) | with_reducible exact H | (rw [hy101032]; exact H) | exact H
                have Ny101032 := Aside0.mk hy101032
                clear hy101032
                have H' := Aside0.mk H
                clear H
                have hnb64 := NB101018_101001.out
                have hnc64 := NB101001_101018.out
                have hnb65 := NB101018_0.out
                have hnc65 := NB0_101018.out
                have hcz66_0 : wr.cell? ⟨gb101018, 0, none⟩ = some (.int .i64 t101012) := (blk_cell BK101018.out 0).trans rfl
                have hcz66_1 : wr.cell? ⟨gb101018, 1, none⟩ = some (.int .i64 t101013) := (blk_cell BK101018.out 1).trans rfl
                have hcz66_2 : wr.cell? ⟨gb101018, 2, none⟩ = some (.int .i64 t101014) := (blk_cell BK101018.out 2).trans rfl
                have hcz66_3 : wr.cell? ⟨gb101018, 3, none⟩ = some (u101019003) := (blk_cell BK101018.out 3).trans rfl
                have hfz66_0 := blk_frozen BK101018.out 0
                have hfz66_1 := blk_frozen BK101018.out 1
                have hfz66_2 := blk_frozen BK101018.out 2
                have hfz66_3 := blk_frozen BK101018.out 3
                obtain ⟨Ao67, co67, eo67⟩ := Kd.R_slice HO_101019003.out
                subst eo67
                have p63 : 0 ≤ (x8_1 : Int) := of_decide_eq_true (by first | (with_reducible assumption) | assumption)
                have q63 : (x8_1 : Int) < ((x101019003_1.length : Int) : Int) := of_decide_eq_true (by first | (with_reducible assumption) | assumption)
                obtain ⟨go63, co63, eo63, gb63, gl63, cl63, HG63⟩ := Kd.R_form HO_101019003.out (by omega)
                (first | cases eo63 | (injection eo63 with ea_ en_ ec_; (first | subst ea_ | (injection ea_ with ea_; subst ea_)); subst ec_; clear en_))
                have GB63 := Aside0.mk gb63
                have GG63 := Aside0.mk HG63
                clear gb63 gl63 HG63
                obtain ⟨hx63_0, hf63_0⟩ := Kd.R_celln 0 HO_101019003.out (x8_1 : Int) p63 q63
                replace p63 := eq_true p63
                replace q63 := eq_true q63
                have HP68 := Kd.R_putg HO_101019003.out (x8_1 : Int) x7_1
                go_wp2_with (first | ((with_reducible refine gate_store (t := 3) (p := 50) rfl ?_); refine store_event (t := 3) (p := 50) (v := ?vo_w69) (w1 := (wr.setCell ⟨go63, (x8_1 : Int).toNat, none⟩ (.int .i64 x7_1))) ?hg ?ho ?hn ?hr ?_; (case ho => rfl); (case hg => rfl); (case hn => rfl); (case hr => first | (go_simp; done) | (go_simp; rfl)); intro w69 hw; have hg : wr.grownBy w69 (some go63) := (by rw [hw]; exact HP68.2); have hp_ : Kd.R (Kd.int .i64) 3 w69 w.heap.size (fun _ => True) (.slice (some ⟨go63, 0, none⟩) x101019003_1.length co67) y101032 := (by rw [hw, Ny101032.out]; exact HP68.1); clear HP68; have n0_ := Aside0.mk (hp_); have n1_ := Aside0.mk (blk_grown (g := gb101001) (o := .cells #[.int .i64 0, .int .i64 0, .int .i64 0, .slice none 0 0] 28 (0, 0)) (by (with_reducible repeat (first | refine blk_drewN ?_ _ | refine blk_drew ?_ | refine blk_alloc ?_ _)); exact BK101001.out) hg (Kd.R_ne HO_101019003.out BK101001.out (by decide))); have n2_ := Aside0.mk (blk_grown (g := gb101018) (o := .cells #[.int .i64 t101012, .int .i64 t101013, .int .i64 t101014, .slice (some ⟨go63, 0, none⟩) x101019003_1.length co67] 28 (0, 0)) (by (with_reducible repeat (first | refine blk_drewN ?_ _ | refine blk_drew ?_ | refine blk_alloc ?_ _)); exact BK101018.out) hg (Kd.R_ne HO_101019003.out BK101018.out (by decide))); have n3_ := Aside0.mk (IsS100.grown (by repeat (first | (with_reducible first | exact HI0.out | apply IsS100.alloc | apply IsS100.drewN | apply IsS100.drew | apply IsS100.set_1 | refine IsS100.far ?_ NB0_101001.out _ | refine IsS100.far ?_ NB0_101018.out _) | exact HI0.out)) hg (IsS100.own_ne HI0.out HO_101019003.out (by decide))); have n4_ := Aside0.mk ((by rw [hw]; exact below_set (HB.out) (Nat.le_trans HL.out GB63.out) : Below w0.heap.size w0 w69)); have n5_ := Aside0.mk (KeepBut.trans (by repeat (first | (with_reducible first | exact HK.out | apply KeepBut.set_ | apply keep_drewN | apply keep_drew | apply keep_alloc | refine keep_far ?_ GW101001.out _ | refine keep_far ?_ GW101018.out _) | exact HK.out)) (KeepBut.of_grown hg g) (Kd.R_base2 HO_101019003.out)); clear HO_101019003; clear BK101001; clear BK101018; clear HI0; clear HB; clear HK; have HO_101019003 := n0_; have BK101001 := n1_; have BK101018 := n2_; have HI0 := n3_; have HB := n4_; have HK := n5_; clear n0_ n1_ n2_ n3_ n4_ n5_; clear hg hw hp_))
                go_roundg k1
                case measure => have := HK1.out; omega
                case rel => exact ⟨(x7_1), (wrap64 (x8_1 + 1)), (x1001_1), (y101032), (.slice (some ⟨go63, 0, none⟩) x101019003_1.length co67), (by first | rfl | (simp; done) | (simp [*]; done)), (by first | rfl | (simp; done) | (simp [*]; done)), H', ⟨by have := HK1.out; omega⟩, ⟨by (with_reducible repeat (first | apply Kd.R_alloc | apply Kd.R_drewN | apply Kd.R_drew)); exact HO_101019003.out⟩, ⟨by (with_reducible repeat (first | refine blk_drewN ?_ _ | refine blk_drew ?_ | refine blk_alloc ?_ _)); exact BK101001.out⟩, ⟨by (with_reducible repeat (first | refine blk_drewN ?_ _ | refine blk_drew ?_ | refine blk_alloc ?_ _)); exact BK101018.out⟩, ⟨by repeat (first | (with_reducible first | exact HI0.out | apply IsS100.alloc | apply IsS100.drewN | apply IsS100.drew | apply IsS100.set_1 | refine IsS100.far ?_ NB0_101001.out _ | refine IsS100.far ?_ NB0_101018.out _) | exact HI0.out)⟩, ⟨by repeat (first | (with_reducible first | exact HK.out | apply KeepBut.set_ | apply keep_drewN | apply keep_drew | apply keep_alloc | refine keep_far ?_ GW101001.out _ | refine keep_far ?_ GW101018.out _) | exact HK.out)⟩, ⟨by repeat (first | (with_reducible first | exact HB.out | apply below_alloc | apply pw_below_drewN | apply below_drew1 | refine below_set ?_ (IsS100.ge HI0.out) | refine below_set ?_ GE101001.out | refine below_set ?_ GE101018.out) | exact HB.out)⟩⟩
              · rw [if_neg c62] at H
                exact absurd H (by simp)
      · rw [if_neg c25] at H
        have c25b0 : decide (x8_1 < (x101019003_1.length : Int)) = false := decide_eq_false c25
        clear c25
        simp only [Option.some.injEq, Prod.mk.injEq] at H
        obtain ⟨rfl, rfl, rfl, rfl, rfl⟩ := H
        have hnb70 := NB101018_101001.out
        have hnc70 := NB101001_101018.out
        have hnb71 := NB101018_0.out
        have hnc71 := NB0_101018.out
        have hcz72_0 : wr.cell? ⟨gb101018, 0, none⟩ = some (.int .i64 t101012) := (blk_cell BK101018.out 0).trans rfl
        have hcz72_1 : wr.cell? ⟨gb101018, 1, none⟩ = some (.int .i64 t101013) := (blk_cell BK101018.out 1).trans rfl
        have hcz72_2 : wr.cell? ⟨gb101018, 2, none⟩ = some (.int .i64 t101014) := (blk_cell BK101018.out 2).trans rfl
        have hcz72_3 : wr.cell? ⟨gb101018, 3, none⟩ = some (u101019003) := (blk_cell BK101018.out 3).trans rfl
        have hfz72_0 := blk_frozen BK101018.out 0
        have hfz72_1 := blk_frozen BK101018.out 1
        have hfz72_2 := blk_frozen BK101018.out 2
        have hfz72_3 := blk_frozen BK101018.out 3
        obtain ⟨Ao73, co73, eo73⟩ := Kd.R_slice HO_101019003.out
        subst eo73
        have hnb74 := NB101001_0.out
        have hnc74 := NB0_101001.out
        have hcz75_0 : wr.cell? ⟨gb101001, 0, none⟩ = some (.int .i64 0) := (blk_cell BK101001.out 0).trans rfl
        have hcz75_1 : wr.cell? ⟨gb101001, 1, none⟩ = some (.int .i64 0) := (blk_cell BK101001.out 1).trans rfl
        have hcz75_2 : wr.cell? ⟨gb101001, 2, none⟩ = some (.int .i64 0) := (blk_cell BK101001.out 2).trans rfl
        have hcz75_3 : wr.cell? ⟨gb101001, 3, none⟩ = some (.slice none 0 0) := (blk_cell BK101001.out 3).trans rfl
        have hfz75_0 := blk_frozen BK101001.out 0
        have hfz75_1 := blk_frozen BK101001.out 1
        have hfz75_2 := blk_frozen BK101001.out 2
        have hfz75_3 := blk_frozen BK101001.out 3
        go_wp2
        refine bodyPost_ret (results_cell_row rfl _ _ gb101001 28 #[.int .i64 t101012, .int .i64 t101013, .int .i64 t101014, .slice Ao73 x101019003_1.length co73] (0, 0) _ rfl (by (with_reducible repeat (first | refine blk_drewN ?_ _ | refine blk_drew ?_ | refine blk_alloc ?_ _)); refine blk_put (cs := #[.int .i64 t101012, .int .i64 t101013, .int .i64 t101014, .slice none 0 0]) ?_ 3 _ rfl; (with_reducible repeat (first | refine blk_drewN ?_ _ | refine blk_drew ?_ | refine blk_alloc ?_ _)); refine blk_put (cs := #[.int .i64 t101012, .int .i64 t101013, .int .i64 0, .slice none 0 0]) ?_ 2 _ rfl; (with_reducible repeat (first | refine blk_drewN ?_ _ | refine blk_drew ?_ | refine blk_alloc ?_ _)); refine blk_put (cs := #[.int .i64 t101012, .int .i64 0, .int .i64 0, .slice none 0 0]) ?_ 1 _ rfl; (with_reducible repeat (first | refine blk_drewN ?_ _ | refine blk_drew ?_ | refine blk_alloc ?_ _)); refine blk_put (cs := #[.int .i64 0, .int .i64 0, .int .i64 0, .slice none 0 0]) ?_ 0 _ rfl; (with_reducible repeat (first | refine blk_drewN ?_ _ | refine blk_drew ?_ | refine blk_alloc ?_ _)); exact BK101001.out) Try.underlying28 rfl (by kernel_rfl)) rfl ?_
        exact ⟨_, by first | rfl | (simp [errW_none, errW_some] <;> rfl) | (simp [*, errW_none, errW_some] <;> rfl), by (with_reducible repeat (first | apply Kd.R_alloc | apply Kd.R_drewN | apply Kd.R_drew)); exact Kd.R_mono (Kd.R_far (p := ⟨gb101001, 3, none⟩) (Kd.R_far (p := ⟨gb101001, 2, none⟩) (Kd.R_far (p := ⟨gb101001, 1, none⟩) (Kd.R_far (p := ⟨gb101001, 0, none⟩) (Kd.R_types HO_101019003.out BK101001.out (by decide)) (fun _ hk => hk.2) (.int .i64 t101012)) (fun _ hk => hk.2) (.int .i64 t101013)) (fun _ hk => hk.2) (.int .i64 t101014)) (fun _ hk => hk.2) (.slice Ao73 x101019003_1.length co73)) (fun _ hk => trivial), by repeat (first | (with_reducible first | exact HI0.out | apply IsS100.alloc | apply IsS100.drewN | apply IsS100.drew | apply IsS100.set_1 | refine IsS100.far ?_ NB0_101001.out _ | refine IsS100.far ?_ NB0_101018.out _) | exact HI0.out), by repeat (first | (with_reducible first | exact HB.out | apply below_alloc | apply pw_below_drewN | apply below_drew1 | refine below_set ?_ (IsS100.ge HI0.out) | refine below_set ?_ GE101001.out | refine below_set ?_ GE101018.out) | exact HB.out), by repeat (first | (with_reducible first | exact HK.out | apply KeepBut.set_ | apply keep_drewN | apply keep_drew | apply keep_alloc | refine keep_far ?_ GW101001.out _ | refine keep_far ?_ GW101018.out _) | exact HK.out)⟩

end Go.Proofs.Ytbgohbinonkhfaa.Q

namespace Go.Proofs.Ytbgohbinonkhfaa.Q
open Go.RowKit Go.Proofs.YtbgohbinonkhfaaW.PrintWords Go.Proofs.YtbgohbinonkhfaaW.PrintLast Go.Proofs.YtbgohbinonkhfaaW.PrintMore
attribute [local go_sem] max2_int min2_int max_two min_two max_three min_three max_four min_four
set_option linter.unusedVariables false
set_option linter.unusedSimpArgs false
/-! ### spec_anyPlanes: function 101 -/
def spec_anyPlanes.f (k : Nat) (s0_0 : List Int) (s0_1 : Int) : Option (Int × Int) := (spec_reader_one.f k s0_0 s0_1 (([1, 3, 1, 4, 2] : List Int))).bind fun bt102004 => (some (bt102004.1, bt102004.2))
theorem spec_anyPlanes.mono : ∀ a0 a1 k, LeO (spec_anyPlanes.f k a0 a1) (spec_anyPlanes.f (k + 1) a0 a1) := by
  intro a0 a1 k
  unfold spec_anyPlanes.f
  repeat' first
      | (with_reducible exact spec_reader_one.mono _ _ _ _)
      | (with_reducible exact LeO.refl _)
      | (with_reducible exact LeO.none _)
      | (with_reducible refine LeO.ite ?_ ?_)
      | (with_reducible refine LeO.bind ?_ (fun _ => ?_))
      | exact spec_reader_one.mono _ _ _ _
      | exact LeO.none _
      | refine LeO.ite ?_ ?_
      | refine LeO.bind ?_ (fun _ => ?_)
set_option maxHeartbeats 8000000 in
set_option maxRecDepth 100000 in
theorem spec_anyPlanes.calls (k : Nat) (g : Nat) (s0_0 : List Int) (s0_1 : Int) (r1 : Int) (r2 : Int) (w0 w : World) (hI : IsS100 w0 w g s0_0 s0_1) (hB : Below w0.heap.size w0 w) (h : spec_anyPlanes.f k s0_0 s0_1 = some (r1, r2)) :
    Calls Try.prog 101 #[.pointer (some ⟨g, 0, none⟩)] w fun e w' => e = .returned (.int .i64 r1) ∧ IsS100 w0 w' g s0_0 r2 ∧ Below w0.heap.size w0 w' ∧ KeepBut w w' g none := by
  have HI0 := Aside0.mk hI
  have HK := Aside0.mk (KeepBut.refl w g none)
  have HL := Aside0.mk hB.size
  clear hI
  have HW0 := Aside0.mk hB.size
  have HB := Aside0.mk hB
  clear hB
  have H : ((spec_reader_one.f k s0_0 s0_1 (([1, 3, 1, 4, 2] : List Int))).bind fun bt102004 => (some (bt102004.1, bt102004.2))) = some (r1, r2) := h
  clear h
  obtain ⟨y102001, hy102001⟩ : ∃ y_ : List Int, y_ = (([1, 3, 1, 4, 2] : List Int)) := ⟨_, rfl⟩
  replace H : ((spec_reader_one.f k s0_0 s0_1 y102001).bind fun bt102004 => (some (bt102004.1, bt102004.2))) = some (r1, r2) := by first | (rw [hy102001]; with_reducible exact H) | (have H2_ := (Option.bind_some _ _).symm.trans H; rw [hy102001]; with_reducible exact H2_) | (have H2_ := (Option.bind_some _ _).symm.trans H; with_reducible exact H2_) | with_reducible exact H | (rw [hy102001]; exact H) | exact H
  have Ny102001 := Aside0.mk hy102001
  clear hy102001
  replace H := Option.bind_eq_some_iff.mp H
  obtain ⟨⟨t102004, t102005⟩, A20, H⟩ := H
  replace H : (some (t102004, t102005)) = some (r1, r2) := H
  have A2 := Aside0.mk A20
  clear A20
  simp only [Option.some.injEq, Prod.mk.injEq] at H
  obtain ⟨rfl, rfl⟩ := H
  go_enter Try.func101, Try.ntmps101
  go_wp2_with (first | ((with_reducible refine gate_dst (N := 4) rfl ?_); refine Kd.R_lit (Kd.int .i64) _ 3 ?hg (N := 4) ?hd (xs := ([1, 3, 1, 4, 2] : List Int)) (inner := [.int .i64 1, .int .i64 3, .int .i64 1, .int .i64 4, .int .i64 2]) (ok := fun _ => True) (okp := fun _ => True) ?hr ?hp (fun _ hk => hk) trivial (Below.refl _ _) (Nat.le_refl _) (by simp) ?_; (case hd => rfl); (case hg => rfl); (case hr => first | (go_simp; done) | (go_simp; rfl)); (case hp => exact (Reps.one (show Kd.M (Kd.int .i64) _ _ _ 1 [.int .i64 1] from rfl) (Reps.one (show Kd.M (Kd.int .i64) _ _ _ 3 [.int .i64 3] from rfl) (Reps.one (show Kd.M (Kd.int .i64) _ _ _ 1 [.int .i64 1] from rfl) (Reps.one (show Kd.M (Kd.int .i64) _ _ _ 4 [.int .i64 4] from rfl) (Reps.one (show Kd.M (Kd.int .i64) _ _ _ 2 [.int .i64 2] from rfl) (Reps.none _ _))))))); intro v102002 w3 ho4 hb hg_ hnew_; clear hg_ hnew_; (first | rw [← Ny102001.out] at ho4 | (simp only [Int.reduceToNat] at ho4; rw [← Ny102001.out] at ho4)); have n0_ := Aside0.mk (Kd.R_lower ho4 (keep_size (w := w) (g := g) (row := none) (by repeat (first | (with_reducible first | exact HK.out | apply KeepBut.set_ | apply keep_drewN | apply keep_drew | apply keep_alloc) | exact HK.out)))); have n1_ := Aside0.mk (IsS100.below (by repeat (first | (with_reducible first | exact HI0.out | apply IsS100.alloc | apply IsS100.drewN | apply IsS100.drew | apply IsS100.set_1) | exact HI0.out)) hb); have n2_ := Aside0.mk (KeepBut.trans (by repeat (first | (with_reducible first | exact HK.out | apply KeepBut.set_ | apply keep_drewN | apply keep_drew | apply keep_alloc) | exact HK.out)) (KeepBut.of_below hb g none) (.inl rfl)); have n3_ := Aside0.mk (below_step (by repeat (first | (with_reducible first | exact HB.out | apply below_alloc | apply pw_below_drewN | apply below_drew1 | refine below_set ?_ (IsS100.ge HI0.out)) | exact HB.out)) hb); clear HI0; clear HK; clear HB; have HO102003 := n0_; have HI0 := n1_; have HK := n2_; have HB := n3_; clear n0_ n1_ n2_ n3_; clear hb ho4; obtain ⟨Ao5, co5, eo5⟩ := Kd.R_slice HO102003.out; subst eo5) | ((with_reducible refine gate_callee (f := 73) rfl ?_); refine goesL_ (some 5) rfl rfl Try.func73 (by kernel_rfl) rfl #[.pointer (some ⟨g, 0, none⟩), .slice Ao5 y102001.length co5] rfl (by (try simp only [List.map_toArray, List.map_cons, List.map_nil]); first | done | rfl | (simp only [List.length_drop, List.length_take]; rfl)) ?_; (with_reducible refine (spec_reader_one.calls k g s0_0 s0_1 _ _ y102001 t102004 t102005 w0 _ ?side1 ?side2 ?side3 ?side4 ?side5 A2.out).mono ?_); (case side1 => repeat (first | (with_reducible first | exact HI0.out | apply IsS100.alloc | apply IsS100.drewN | apply IsS100.drew | apply IsS100.set_1) | exact HI0.out)); (case side2 => repeat (first | (with_reducible first | exact HB.out | apply below_alloc | apply pw_below_drewN | apply below_drew1 | refine below_set ?_ (IsS100.ge HI0.out)) | exact HB.out)); (case side3 => repeat (first | exact (Kd.R_reads' HO102003.out).2.2 | (with_reducible refine Kd.C_alloc ?_ _) | (with_reducible refine Kd.C_drewN ?_ _) | (with_reducible refine Kd.C_drew ?_))); (case side4 => exact (Kd.R_reads' HO102003.out).2.1); (case side5 => exact far_slice (IsS100.own_ne HI0.out HO102003.out (by decide))); rintro e w6 ⟨rfl, hi, hb, hk⟩; refine ⟨_, rfl, ?_⟩; have n0_ := Aside0.mk (Kd.R_mono (Kd.R_keep (IsS100.apart (show IsS100 w0 _ g s0_0 s0_1 from by repeat (first | (with_reducible first | exact HI0.out | apply IsS100.alloc | apply IsS100.drewN | apply IsS100.drew | apply IsS100.set_1) | exact HI0.out)) (by (with_reducible repeat (first | apply Kd.R_alloc | apply Kd.R_drewN | apply Kd.R_drew)); exact HO102003.out) (by decide)) hk (fun _ h => h.2)) (fun _ h => h.1)); have n1_ := Aside0.mk (KeepBut.trans (by repeat (first | (with_reducible first | exact HK.out | apply KeepBut.set_ | apply keep_drewN | apply keep_drew | apply keep_alloc) | exact HK.out)) hk (.inl rfl)); have n2_ := Aside0.mk (hb); have n3_ := Aside0.mk (hi); clear HO102003; clear HK; clear HB; clear HI0; have HO102003 := n0_; have HK := n1_; have HB := n2_; have HI0 := n3_; clear n0_ n1_ n2_ n3_; (try clear hb); (try clear hb2); (try clear hk); (try clear hi)))
  go_ret
  exact ⟨by first | rfl | (simp [errW_none, errW_some] <;> rfl) | (simp [*, errW_none, errW_some] <;> rfl), by repeat (first | (with_reducible first | exact HI0.out | apply IsS100.alloc | apply IsS100.drewN | apply IsS100.drew | apply IsS100.set_1) | exact HI0.out), by repeat (first | (with_reducible first | exact HB.out | apply below_alloc | apply pw_below_drewN | apply below_drew1 | refine below_set ?_ (IsS100.ge HI0.out)) | exact HB.out), by repeat (first | (with_reducible first | exact HK.out | apply KeepBut.set_ | apply keep_drewN | apply keep_drew | apply keep_alloc) | exact HK.out)⟩

end Go.Proofs.Ytbgohbinonkhfaa.Q

/- A row that may begin inside its block, and whose block is younger than was told. -/
namespace Go.Proofs.Ytbgohbinonkhfaa.Q
open Go.RowKit Go.Proofs.YtbgohbinonkhfaaW.PrintWords Go.Proofs.YtbgohbinonkhfaaW.PrintLast Go.Proofs.YtbgohbinonkhfaaW.PrintMore
attribute [local go_sem] max2_int min2_int max_two min_two max_three min_three max_four min_four
set_option linter.unusedVariables false
set_option linter.unusedSimpArgs false

theorem qraise {α : Type} {d : Kd α} {e : Nat} {W : World} {b b' : Nat} {ok : Nat → Prop} {v : Value} {xs : List α} (hM : ∀ w ok x cs, d.M w b ok x cs → d.M w b' ok x cs) (h : d.Q e W b ok v xs) (hb : ∀ k, v.ownBlock = some k → b' ≤ k) : d.Q e W b' ok v xs := by
  obtain ⟨h0, inner, ho, hr⟩ := h
  refine ⟨h0, inner, ?_, hr.imp_ (fun _ _ hp => hM _ _ _ _ hp)⟩
  obtain ⟨h1, h2⟩ := ho
  refine ⟨h1, ?_⟩
  rcases h2 with ⟨hz, A, rfl, hA⟩ | ⟨g, off, cap, cur, rfl, _, r⟩
  · refine .inl ⟨hz, A, rfl, fun a ha => ⟨?_, (hA a ha).2⟩⟩
    subst ha
    exact hb a.block (by simp [Value.ownBlock])
  · exact .inr ⟨g, off, cap, cur, rfl, hb g (by simp [Value.ownBlock]), r⟩
end Go.Proofs.Ytbgohbinonkhfaa.Q

namespace Go.Proofs.Ytbgohbinonkhfaa.Q
open Go.RowKit Go.Proofs.YtbgohbinonkhfaaW.PrintWords Go.Proofs.YtbgohbinonkhfaaW.PrintLast Go.Proofs.YtbgohbinonkhfaaW.PrintMore
attribute [local go_sem] max2_int min2_int max_two min_two max_three min_three max_four min_four
set_option linter.unusedVariables false
set_option linter.unusedSimpArgs false
/-! ### spec_anyImage: function 72 -/
def spec_anyImage.f (k : Nat) (s0_0 : List Int) (s0_1 : Int) : Option (Int × Int × Int × List Int × Int) := (spec_anyPlanes.f k s0_0 s0_1).bind fun bt73002 => ((spec_randomImage.f k s0_0 bt73002.2 bt73002.1).bind fun bt73004 => ((spec_spoilImage.f k s0_0 bt73004.2.2.2.2 bt73004.1 bt73004.2.1 bt73004.2.2.1 bt73004.2.2.2.1).bind fun bt73011 => (some (bt73011.1, bt73011.2.1, bt73011.2.2.1, bt73011.2.2.2.1, bt73011.2.2.2.2))))
theorem spec_anyImage.mono : ∀ a0 a1 k, LeO (spec_anyImage.f k a0 a1) (spec_anyImage.f (k + 1) a0 a1) := by
  intro a0 a1 k
  unfold spec_anyImage.f
  repeat' first
      | (with_reducible exact spec_anyPlanes.mono _ _ _)
      | (with_reducible exact spec_randomImage.mono _ _ _ _)
      | (with_reducible exact spec_spoilImage.mono _ _ _ _ _ _ _)
      | (with_reducible exact LeO.refl _)
      | (with_reducible exact LeO.none _)
      | (with_reducible refine LeO.ite ?_ ?_)
      | (with_reducible refine LeO.bind ?_ (fun _ => ?_))
      | exact spec_anyPlanes.mono _ _ _
      | exact spec_randomImage.mono _ _ _ _
      | exact spec_spoilImage.mono _ _ _ _ _ _ _
      | exact LeO.none _
      | refine LeO.ite ?_ ?_
      | refine LeO.bind ?_ (fun _ => ?_)
set_option maxHeartbeats 8000000 in
set_option maxRecDepth 100000 in
theorem spec_anyImage.calls (k : Nat) (g : Nat) (s0_0 : List Int) (s0_1 : Int) (r1 : Int) (r2 : Int) (r3 : Int) (r4 : List Int) (r5 : Int) (w0 w : World) (hI : IsS100 w0 w g s0_0 s0_1) (hB : Below w0.heap.size w0 w) (h : spec_anyImage.f k s0_0 s0_1 = some (r1, r2, r3, r4, r5)) :
    Calls Try.prog 72 #[.pointer (some ⟨g, 0, none⟩)] w fun e w' => ∃ v3_ : Value, e = .returned (.agg #[.int .i64 r1, .int .i64 r2, .int .i64 r3, v3_]) ∧ Kd.Q (Kd.int .i64) 3 w' w.heap.size (fun _ => True) v3_ r4 ∧ IsS100 w0 w' g s0_0 r5 ∧ Below w0.heap.size w0 w' ∧ KeepBut w w' g none := by
  have hu28 := Try.underlying28
  have HI0 := Aside0.mk hI
  have HK := Aside0.mk (KeepBut.refl w g none)
  have HL := Aside0.mk hB.size
  clear hI
  have HW0 := Aside0.mk hB.size
  have HB := Aside0.mk hB
  clear hB
  have H : ((spec_anyPlanes.f k s0_0 s0_1).bind fun bt73002 => ((spec_randomImage.f k s0_0 bt73002.2 bt73002.1).bind fun bt73004 => ((spec_spoilImage.f k s0_0 bt73004.2.2.2.2 bt73004.1 bt73004.2.1 bt73004.2.2.1 bt73004.2.2.2.1).bind fun bt73011 => (some (bt73011.1, bt73011.2.1, bt73011.2.2.1, bt73011.2.2.2.1, bt73011.2.2.2.2))))) = some (r1, r2, r3, r4, r5) := h
  clear h
  replace H := Option.bind_eq_some_iff.mp H
  obtain ⟨⟨t73002, t73003⟩, A20, H⟩ := H
  replace H : ((spec_randomImage.f k s0_0 t73003 t73002).bind fun bt73004 => ((spec_spoilImage.f k s0_0 bt73004.2.2.2.2 bt73004.1 bt73004.2.1 bt73004.2.2.1 bt73004.2.2.2.1).bind fun bt73011 => (some (bt73011.1, bt73011.2.1, bt73011.2.2.1, bt73011.2.2.2.1, bt73011.2.2.2.2)))) = some (r1, r2, r3, r4, r5) := H
  have A2 := Aside0.mk A20
  clear A20
  replace H := Option.bind_eq_some_iff.mp H
  obtain ⟨⟨t73004, t73005, t73006, t73007, t73010⟩, A30, H⟩ := H
  replace H : ((spec_spoilImage.f k s0_0 t73010 t73004 t73005 t73006 t73007).bind fun bt73011 => (some (bt73011.1, bt73011.2.1, bt73011.2.2.1, bt73011.2.2.2.1, bt73011.2.2.2.2))) = some (r1, r2, r3, r4, r5) := H
  have A3 := Aside0.mk A30
  clear A30
  replace H := Option.bind_eq_some_iff.mp H
  obtain ⟨⟨t73011, t73012, t73013, t73014, t73017⟩, A40, H⟩ := H
  replace H : (some (t73011, t73012, t73013, t73014, t73017)) = some (r1, r2, r3, r4, r5) := H
  have A4 := Aside0.mk A40
  clear A40
  simp only [Option.some.injEq, Prod.mk.injEq] at H
  obtain ⟨rfl, rfl, rfl, rfl, rfl⟩ := H
  go_enter Try.func72, Try.ntmps72
  go_wp2_with (first | ((with_reducible refine gate_dst (N := 2) rfl ?_); refine box_event ?hg (N := 2) ?hd (cs := #[.int .i64 0, .int .i64 0, .int .i64 0, .slice none 0 0]) (t := 28) ?hr ?_; (case hd => rfl); (case hg => rfl); (case hr => first | (go_simp; done) | (go_simp; rfl)); intro gb73001 hg w5 hbox hb; have n0_ := Aside0.mk (IsS100.below (by repeat (first | (with_reducible first | exact HI0.out | apply IsS100.alloc | apply IsS100.drewN | apply IsS100.drew | apply IsS100.set_1) | exact HI0.out)) hb); have n1_ := Aside0.mk (KeepBut.trans (by repeat (first | (with_reducible first | exact HK.out | apply KeepBut.set_ | apply keep_drewN | apply keep_drew | apply keep_alloc) | exact HK.out)) (KeepBut.of_below hb g none) (.inl rfl)); have n2_ := Aside0.mk (below_step (by repeat (first | (with_reducible first | exact HB.out | apply below_alloc | apply pw_below_drewN | apply below_drew1 | refine below_set ?_ (IsS100.ge HI0.out)) | exact HB.out)) hb); have n3_ := Aside0.mk (hbox); have n4_ := Aside0.mk ((by rw [hg]; exact (keep_size (w := w) (g := g) (row := none) (by repeat (first | (with_reducible first | exact HK.out | apply KeepBut.set_ | apply keep_drewN | apply keep_drew | apply keep_alloc) | exact HK.out))) : w.heap.size ≤ gb73001)); have n5_ := Aside0.mk ((Nat.le_trans HW0.out (by rw [hg]; exact (keep_size (w := w) (g := g) (row := none) (by repeat (first | (with_reducible first | exact HK.out | apply KeepBut.set_ | apply keep_drewN | apply keep_drew | apply keep_alloc) | exact HK.out))) : w.heap.size ≤ gb73001) : w0.heap.size ≤ gb73001)); have n6_ := Aside0.mk ((by rw [hg]; exact Nat.ne_of_lt (IsS100.lt (show IsS100 w0 _ g s0_0 s0_1 from by repeat (first | (with_reducible first | exact HI0.out | apply IsS100.alloc | apply IsS100.drewN | apply IsS100.drew | apply IsS100.set_1) | exact HI0.out))) : g ≠ gb73001)); have n7_ := Aside0.mk ((by rw [hg]; exact Nat.ne_of_gt (IsS100.lt (show IsS100 w0 _ g s0_0 s0_1 from by repeat (first | (with_reducible first | exact HI0.out | apply IsS100.alloc | apply IsS100.drewN | apply IsS100.drew | apply IsS100.set_1) | exact HI0.out))) : gb73001 ≠ g)); clear HI0; clear HK; clear HB; have HI0 := n0_; have HK := n1_; have HB := n2_; have BK73001 := n3_; have GW73001 := n4_; have GE73001 := n5_; have NB0_73001 := n6_; have NB73001_0 := n7_; clear n0_ n1_ n2_ n3_ n4_ n5_ n6_ n7_; clear hb hbox hg) | ((with_reducible refine gate_callee (f := 101) rfl ?_); refine goesL_ (some 6) rfl rfl Try.func101 (by kernel_rfl) rfl #[.pointer (some ⟨g, 0, none⟩)] rfl (by (try simp only [List.map_toArray, List.map_cons, List.map_nil]); first | done | rfl | (simp only [List.length_drop, List.length_take]; rfl)) ?_; (with_reducible refine (spec_anyPlanes.calls k g s0_0 s0_1 t73002 t73003 w0 _ ?side1 ?side2 A2.out).mono ?_); (case side1 => repeat (first | (with_reducible first | exact HI0.out | apply IsS100.alloc | apply IsS100.drewN | apply IsS100.drew | apply IsS100.set_1 | refine IsS100.far ?_ NB0_73001.out _) | exact HI0.out)); (case side2 => repeat (first | (with_reducible first | exact HB.out | apply below_alloc | apply pw_below_drewN | apply below_drew1 | refine below_set ?_ (IsS100.ge HI0.out) | refine below_set ?_ GE73001.out) | exact HB.out)); rintro e w6 ⟨rfl, hi, hb, hk⟩; refine ⟨_, rfl, ?_⟩; have n0_ := Aside0.mk (KeepBut.blk hk (g' := gb73001) (o := .cells #[.int .i64 0, .int .i64 0, .int .i64 0, .slice none 0 0] 28 (0, 0)) (by (with_reducible repeat (first | refine blk_drewN ?_ _ | refine blk_drew ?_ | refine blk_alloc ?_ _)); exact BK73001.out) NB73001_0.out (by simp)); have n1_ := Aside0.mk (KeepBut.trans (by repeat (first | (with_reducible first | exact HK.out | apply KeepBut.set_ | apply keep_drewN | apply keep_drew | apply keep_alloc | refine keep_far ?_ GW73001.out _) | exact HK.out)) hk (.inl rfl)); have n2_ := Aside0.mk (hb); have n3_ := Aside0.mk (hi); clear BK73001; clear HK; clear HB; clear HI0; have BK73001 := n0_; have HK := n1_; have HB := n2_; have HI0 := n3_; clear n0_ n1_ n2_ n3_; (try clear hb); (try clear hb2); (try clear hk); (try clear hi)) | ((with_reducible refine gate_callee (f := 100) rfl ?_); refine goesL_ (some 7) rfl rfl Try.func100 (by kernel_rfl) rfl #[.pointer (some ⟨g, 0, none⟩), .int .i64 t73002] rfl (by (try simp only [List.map_toArray, List.map_cons, List.map_nil]); first | done | rfl | (simp only [List.length_drop, List.length_take]; rfl)) ?_; (with_reducible refine (spec_randomImage.calls k g s0_0 t73003 t73002 t73004 t73005 t73006 t73007 t73010 w0 _ ?side1 ?side2 A3.out).mono ?_); (case side1 => repeat (first | (with_reducible first | exact HI0.out | apply IsS100.alloc | apply IsS100.drewN | apply IsS100.drew | apply IsS100.set_1 | refine IsS100.far ?_ NB0_73001.out _) | exact HI0.out)); (case side2 => repeat (first | (with_reducible first | exact HB.out | apply below_alloc | apply pw_below_drewN | apply below_drew1 | refine below_set ?_ (IsS100.ge HI0.out) | refine below_set ?_ GE73001.out) | exact HB.out)); rintro e w7 ⟨v73008, rfl, ho0, hi, hb, hk⟩; refine ⟨_, rfl, ?_⟩; have n0_ := Aside0.mk (KeepBut.blk hk (g' := gb73001) (o := .cells #[.int .i64 0, .int .i64 0, .int .i64 0, .slice none 0 0] 28 (0, 0)) (by (with_reducible repeat (first | refine blk_drewN ?_ _ | refine blk_drew ?_ | refine blk_alloc ?_ _)); exact BK73001.out) NB73001_0.out (by simp)); have n1_ := Aside0.mk (Kd.R_lower ho0 (keep_size (w := w) (g := g) (row := none) (by repeat (first | (with_reducible first | exact HK.out | apply KeepBut.set_ | apply keep_drewN | apply keep_drew | apply keep_alloc | refine keep_far ?_ GW73001.out _) | exact HK.out)))); have n2_ := Aside0.mk (KeepBut.trans (by repeat (first | (with_reducible first | exact HK.out | apply KeepBut.set_ | apply keep_drewN | apply keep_drew | apply keep_alloc | refine keep_far ?_ GW73001.out _) | exact HK.out)) hk (.inl rfl)); have n3_ := Aside0.mk (hb); have n4_ := Aside0.mk (hi); clear BK73001; clear HK; clear HB; clear HI0; have BK73001 := n0_; have HO73009 := n1_; have HK := n2_; have HB := n3_; have HI0 := n4_; clear n0_ n1_ n2_ n3_ n4_; (try clear hb); (try clear hb2); (try clear hk); (try clear hi); (try clear ho0); obtain ⟨Ao8, co8, eo8⟩ := Kd.R_slice HO73009.out; subst eo8) | ((with_reducible refine gate_callee (f := 99) rfl ?_); refine goesL_ (some 8) rfl rfl Try.func99 (by kernel_rfl) rfl #[.pointer (some ⟨g, 0, none⟩), .agg #[.int .i64 t73004, .int .i64 t73005, .int .i64 t73006, .slice Ao8 t73007.length co8]] rfl (by (try simp only [List.map_toArray, List.map_cons, List.map_nil]); first | done | rfl | (simp only [List.length_drop, List.length_take]; rfl)) ?_; (with_reducible refine (spec_spoilImage.calls k g s0_0 t73010 t73004 t73005 t73006 (fun k_ => some k_ = (.slice Ao8 t73007.length co8 : Value).ownBlock) (.slice Ao8 t73007.length co8) t73007 t73011 t73012 t73013 t73014 t73017 w0 _ ?side1 ?side2 ?side3 A4.out).mono ?_); (case side1 => repeat (first | (with_reducible first | exact HI0.out | apply IsS100.alloc | apply IsS100.drewN | apply IsS100.drew | apply IsS100.set_1 | refine IsS100.far ?_ NB0_73001.out _) | exact HI0.out)); (case side2 => repeat (first | (with_reducible first | exact HB.out | apply below_alloc | apply pw_below_drewN | apply below_drew1 | refine below_set ?_ (IsS100.ge HI0.out) | refine below_set ?_ GE73001.out) | exact HB.out)); (case side3 => exact Kd.R_lower (Kd.R_tight rfl HO73009.out) HL.out); rintro e w9 ⟨v73015, rfl, ho0, hi, hb, hkp⟩; refine ⟨_, rfl, ?_⟩; have n0_ := Aside0.mk (hi); have n1_ := Aside0.mk (blk_kept (by (with_reducible repeat (first | refine blk_drewN ?_ _ | refine blk_drew ?_ | refine blk_alloc ?_ _)); exact BK73001.out) hkp (fun hs_ => Or.elim hs_ (fun hs_ => (fun e_ => (Kd.R_ne HO73009.out BK73001.out (by decide)) e_) hs_) (fun e_ => NB73001_0.out e_))); have n2_ := Aside0.mk (Kd.Q_mono (ok' := fun k_ => True) (qraise (d := (Kd.int .i64)) (b := w0.heap.size) (b' := w.heap.size) (fun _ _ _ _ h_ => h_) ho0 (fun k_ e_ => Or.elim (ho0.1 k_ e_) (fun hs_ => (fun e_ => Kd.R_base HO73009.out k_ e_.symm) hs_) (fun hn_ => Nat.le_trans (keep_size (w := w) (g := g) (row := none) (by repeat (first | (with_reducible first | exact HK.out | apply KeepBut.set_ | apply keep_drewN | apply keep_drew | apply keep_alloc | refine keep_far ?_ GW73001.out _) | exact HK.out))) hn_))) (fun k_ hk_ => trivial)); have n3_ := Aside0.mk (Kept.keepG (by repeat (first | (with_reducible first | exact HK.out | apply KeepBut.set_ | apply keep_drewN | apply keep_drew | apply keep_alloc | refine keep_far ?_ GW73001.out _) | exact HK.out)) hkp (fun k_ hs_ => Or.elim hs_ (fun hs_ => (fun e_ => .inr (Kd.R_base HO73009.out k_ e_.symm)) hs_) (fun e_ => .inl e_))); have n4_ := Aside0.mk (hb); clear HI0; clear BK73001; clear HK; clear HB; clear HO73009; have HI0 := n0_; have BK73001 := n1_; have HO73016 := n2_; have HK := n3_; have HB := n4_; clear n0_ n1_ n2_ n3_ n4_; (try clear hb); (try clear hkp); (try clear ho0); have hnb10 := NB73001_0.out; have hnc10 := NB0_73001.out; have hcz11_0 : w9.cell? ⟨gb73001, 0, none⟩ = some (.int .i64 0) := (blk_cell BK73001.out 0).trans rfl; have hcz11_1 : w9.cell? ⟨gb73001, 1, none⟩ = some (.int .i64 0) := (blk_cell BK73001.out 1).trans rfl; have hcz11_2 : w9.cell? ⟨gb73001, 2, none⟩ = some (.int .i64 0) := (blk_cell BK73001.out 2).trans rfl; have hcz11_3 : w9.cell? ⟨gb73001, 3, none⟩ = some (.slice none 0 0) := (blk_cell BK73001.out 3).trans rfl; have hfz11_0 := blk_frozen BK73001.out 0; have hfz11_1 := blk_frozen BK73001.out 1; have hfz11_2 := blk_frozen BK73001.out 2; have hfz11_3 := blk_frozen BK73001.out 3; obtain ⟨Ao12, co12, eo12, _⟩ := Kd.Q_slice HO73016.out; subst eo12))
  refine bodyPost_ret (results_cell_row rfl _ _ gb73001 28 #[.int .i64 t73011, .int .i64 t73012, .int .i64 t73013, .slice Ao12 t73014.length co12] (0, 0) _ rfl (by (with_reducible repeat (first | refine blk_drewN ?_ _ | refine blk_drew ?_ | refine blk_alloc ?_ _)); refine blk_put (cs := #[.int .i64 t73011, .int .i64 t73012, .int .i64 t73013, .slice none 0 0]) ?_ 3 _ rfl; (with_reducible repeat (first | refine blk_drewN ?_ _ | refine blk_drew ?_ | refine blk_alloc ?_ _)); refine blk_put (cs := #[.int .i64 t73011, .int .i64 t73012, .int .i64 0, .slice none 0 0]) ?_ 2 _ rfl; (with_reducible repeat (first | refine blk_drewN ?_ _ | refine blk_drew ?_ | refine blk_alloc ?_ _)); refine blk_put (cs := #[.int .i64 t73011, .int .i64 0, .int .i64 0, .slice none 0 0]) ?_ 1 _ rfl; (with_reducible repeat (first | refine blk_drewN ?_ _ | refine blk_drew ?_ | refine blk_alloc ?_ _)); refine blk_put (cs := #[.int .i64 0, .int .i64 0, .int .i64 0, .slice none 0 0]) ?_ 0 _ rfl; (with_reducible repeat (first | refine blk_drewN ?_ _ | refine blk_drew ?_ | refine blk_alloc ?_ _)); exact BK73001.out) Try.underlying28 rfl (by kernel_rfl)) rfl ?_
  exact ⟨_, by first | rfl | (simp [errW_none, errW_some] <;> rfl) | (simp [*, errW_none, errW_some] <;> rfl), by (with_reducible repeat (first | apply Kd.Q_alloc | apply Kd.Q_drewN | apply Kd.Q_drew)); exact Kd.Q_mono (Kd.Q_far (p := ⟨gb73001, 3, none⟩) (Kd.Q_far (p := ⟨gb73001, 2, none⟩) (Kd.Q_far (p := ⟨gb73001, 1, none⟩) (Kd.Q_far (p := ⟨gb73001, 0, none⟩) (Kd.Q_types HO73016.out BK73001.out (by decide)) (fun _ hk => hk.2) (.int .i64 t73011)) (fun _ hk => hk.2) (.int .i64 t73012)) (fun _ hk => hk.2) (.int .i64 t73013)) (fun _ hk => hk.2) (.slice Ao12 t73014.length co12)) (fun _ hk => trivial), by repeat (first | (with_reducible first | exact HI0.out | apply IsS100.alloc | apply IsS100.drewN | apply IsS100.drew | apply IsS100.set_1 | refine IsS100.far ?_ NB0_73001.out _) | exact HI0.out), by repeat (first | (with_reducible first | exact HB.out | apply below_alloc | apply pw_below_drewN | apply below_drew1 | refine below_set ?_ (IsS100.ge HI0.out) | refine below_set ?_ GE73001.out) | exact HB.out), by repeat (first | (with_reducible first | exact HK.out | apply KeepBut.set_ | apply keep_drewN | apply keep_drew | apply keep_alloc | refine keep_far ?_ GW73001.out _) | exact HK.out)⟩

end Go.Proofs.Ytbgohbinonkhfaa.Q

namespace Go.Proofs.Ytbgohbinonkhfaa.Q
open Go.RowKit Go.Proofs.YtbgohbinonkhfaaW.PrintWords Go.Proofs.YtbgohbinonkhfaaW.PrintLast Go.Proofs.YtbgohbinonkhfaaW.PrintMore
attribute [local go_sem] max2_int min2_int max_two min_two max_three min_three max_four min_four
set_option linter.unusedVariables false
set_option linter.unusedSimpArgs false
/-! ### spec_DrawFloodRegion: function 27 -/
def spec_DrawFloodRegion.f (k : Nat) (l0 : List Int) : Option (Int × Int × Int × List Int × Int × Int × Int) := (spec_newReader.f l0).bind fun bt28002 => ((spec_anyImage.f k bt28002.1 bt28002.2).bind fun bt28005 => ((spec_reader_one.f k bt28002.1 bt28005.2.2.2.2 (([0, 1, 2, (-1), 4] : List Int))).bind fun bt28016 => ((spec_reader_one.f k bt28002.1 bt28016.2 (([0, 1, 2, (-1), 4] : List Int))).bind fun bt28021 => ((spec_reader_one.f k bt28002.1 bt28021.2 (([0, 5, 60, 120, 255, 256, (-1)] : List Int))).bind fun bt28026 => (some (bt28005.1, bt28005.2.1, bt28005.2.2.1, bt28005.2.2.2.1, bt28016.1, bt28021.1, bt28026.1))))))
theorem spec_DrawFloodRegion.mono : ∀ a0 k, LeO (spec_DrawFloodRegion.f k a0) (spec_DrawFloodRegion.f (k + 1) a0) := by
  intro a0 k
  unfold spec_DrawFloodRegion.f
  repeat' first
      | (with_reducible exact spec_anyImage.mono _ _ _)
      | (with_reducible exact spec_reader_one.mono _ _ _ _)
      | (with_reducible exact LeO.refl _)
      | (with_reducible exact LeO.none _)
      | (with_reducible refine LeO.ite ?_ ?_)
      | (with_reducible refine LeO.bind ?_ (fun _ => ?_))
      | exact spec_anyImage.mono _ _ _
      | exact spec_reader_one.mono _ _ _ _
      | exact LeO.none _
      | refine LeO.ite ?_ ?_
      | refine LeO.bind ?_ (fun _ => ?_)
def spec_DrawFloodRegion.T5 : Bool × List (List Nat × List Nat) := (true, [([], []), ([], []), ([], []), ([], []), ([], []), ([3, 4], [3, 4]), ([0, 5, 0], [0]), ([1, 6, 0, 1, 6], [1]), ([2, 7, 0, 1, 2, 6, 7], [2]), ([5, 8, 0, 1, 2, 3, 4, 5, 6, 7, 8], [5])])
def spec_DrawFloodRegion.B5 : List Nat := [0, 0, 0, 0, 0, 24, 57, 123, 255, 511]
theorem spec_DrawFloodRegion.tab5 : rtab .any (opsOf Try.f27 5) = spec_DrawFloodRegion.T5 := by kernel_rfl
theorem spec_DrawFloodRegion.bits5 : waitsOk spec_DrawFloodRegion.T5.2 spec_DrawFloodRegion.B5 = true := by kernel_rfl
set_option maxHeartbeats 8000000 in
set_option maxRecDepth 100000 in
theorem spec_DrawFloodRegion.calls (k : Nat) (A0 : Option Addr) (c0 : Nat) (l0 : List Int) (r1 : Int) (r2 : Int) (r3 : Int) (r4 : List Int) (r5 : Int) (r6 : Int) (r7 : Int) (w : World) (hr0 : Kd.C (Kd.int .u8) w A0 l0.length l0) (hc0 : l0.length ≤ c0) (h : spec_DrawFloodRegion.f k l0 = some (r1, r2, r3, r4, r5, r6, r7)) :
    Calls Try.prog 27 #[.slice A0 l0.length c0] w fun e w' => ∃ v3_ : Value, e = .returned (.tuple #[.agg #[.int .i64 r1, .int .i64 r2, .int .i64 r3, v3_], .int .i64 r5, .int .i64 r6, .int .i64 r7]) ∧ Kd.Q (Kd.int .i64) 3 w' w.heap.size (fun _ => True) v3_ r4 ∧ Below w.heap.size w w' := by
  have hu28 := Try.underlying28
  have HR0 := Aside0.mk hr0
  have HC0 := Aside0.mk hc0
  clear hr0 hc0
  have HB := Aside0.mk (Below.refl w.heap.size w)
  have H : ((spec_newReader.f l0).bind fun bt28002 => ((spec_anyImage.f k bt28002.1 bt28002.2).bind fun bt28005 => ((spec_reader_one.f k bt28002.1 bt28005.2.2.2.2 (([0, 1, 2, (-1), 4] : List Int))).bind fun bt28016 => ((spec_reader_one.f k bt28002.1 bt28016.2 (([0, 1, 2, (-1), 4] : List Int))).bind fun bt28021 => ((spec_reader_one.f k bt28002.1 bt28021.2 (([0, 5, 60, 120, 255, 256, (-1)] : List Int))).bind fun bt28026 => (some (bt28005.1, bt28005.2.1, bt28005.2.2.1, bt28005.2.2.2.1, bt28016.1, bt28021.1, bt28026.1))))))) = some (r1, r2, r3, r4, r5, r6, r7) := h
  clear h
  replace H := Option.bind_eq_some_iff.mp H
  obtain ⟨⟨t28002, t28003⟩, A20, H⟩ := H
  replace H : ((spec_anyImage.f k t28002 t28003).bind fun bt28005 => ((spec_reader_one.f k t28002 bt28005.2.2.2.2 (([0, 1, 2, (-1), 4] : List Int))).bind fun bt28016 => ((spec_reader_one.f k t28002 bt28016.2 (([0, 1, 2, (-1), 4] : List Int))).bind fun bt28021 => ((spec_reader_one.f k t28002 bt28021.2 (([0, 5, 60, 120, 255, 256, (-1)] : List Int))).bind fun bt28026 => (some (bt28005.1, bt28005.2.1, bt28005.2.2.1, bt28005.2.2.2.1, bt28016.1, bt28021.1, bt28026.1)))))) = some (r1, r2, r3, r4, r5, r6, r7) := H
  have A2 := Aside0.mk A20
  clear A20
  replace H := Option.bind_eq_some_iff.mp H
  obtain ⟨⟨t28005, t28006, t28007, t28008, t28011⟩, A30, H⟩ := H
  replace H : ((spec_reader_one.f k t28002 t28011 (([0, 1, 2, (-1), 4] : List Int))).bind fun bt28016 => ((spec_reader_one.f k t28002 bt28016.2 (([0, 1, 2, (-1), 4] : List Int))).bind fun bt28021 => ((spec_reader_one.f k t28002 bt28021.2 (([0, 5, 60, 120, 255, 256, (-1)] : List Int))).bind fun bt28026 => (some (t28005, t28006, t28007, t28008, bt28016.1, bt28021.1, bt28026.1))))) = some (r1, r2, r3, r4, r5, r6, r7) := H
  have A3 := Aside0.mk A30
  clear A30
  obtain ⟨y28013, hy28013⟩ : ∃ y_ : List Int, y_ = (([0, 1, 2, (-1), 4] : List Int)) := ⟨_, rfl⟩
  replace H : ((spec_reader_one.f k t28002 t28011 y28013).bind fun bt28016 => ((spec_reader_one.f k t28002 bt28016.2 (([0, 1, 2, (-1), 4] : List Int))).bind fun bt28021 => ((spec_reader_one.f k t28002 bt28021.2 (([0, 5, 60, 120, 255, 256, (-1)] : List Int))).bind fun bt28026 => (some (t28005, t28006, t28007, t28008, bt28016.1, bt28021.1, bt28026.1))))) = some (r1, r2, r3, r4, r5, r6, r7) := by first | (rw [hy28013]; with_reducible exact H) | (have H2_ := (Option.bind_some _ _).symm.trans H; rw [hy28013]; with_reducible exact H2_) | (have H2_ := (Option.bind_some _ _).symm.trans H; with_reducible exact H2_) | with_reducible exact H | (rw [hy28013]; exact H) | exact H
  have Ny28013 := Aside0.mk hy28013
  clear hy28013
  replace H := Option.bind_eq_some_iff.mp H
  obtain ⟨⟨t28016, t28017⟩, A40, H⟩ := H
  replace H : ((spec_reader_one.f k t28002 t28017 (([0, 1, 2, (-1), 4] : List Int))).bind fun bt28021 => ((spec_reader_one.f k t28002 bt28021.2 (([0, 5, 60, 120, 255, 256, (-1)] : List Int))).bind fun bt28026 => (some (t28005, t28006, t28007, t28008, t28016, bt28021.1, bt28026.1)))) = some (r1, r2, r3, r4, r5, r6, r7) := H
  have A4 := Aside0.mk A40
  clear A40
  obtain ⟨y28018, hy28018⟩ : ∃ y_ : List Int, y_ = (([0, 1, 2, (-1), 4] : List Int)) := ⟨_, rfl⟩
  replace H : ((spec_reader_one.f k t28002 t28017 y28018).bind fun bt28021 => ((spec_reader_one.f k t28002 bt28021.2 (([0, 5, 60, 120, 255, 256, (-1)] : List Int))).bind fun bt28026 => (some (t28005, t28006, t28007, t28008, t28016, bt28021.1, bt28026.1)))) = some (r1, r2, r3, r4, r5, r6, r7) := by first | (rw [hy28018]; with_reducible exact H) | (have H2_ := (Option.bind_some _ _).symm.trans H; rw [hy28018]; with_reducible exact H2_) | (have H2_ := (Option.bind_some _ _).symm.trans H; with_reducible exact H2_) | with_reducible exact H | (rw [hy28018]; exact H) | exact H
  have Ny28018 := Aside0.mk hy28018
  clear hy28018
  replace H := Option.bind_eq_some_iff.mp H
  obtain ⟨⟨t28021, t28022⟩, A50, H⟩ := H
  replace H : ((spec_reader_one.f k t28002 t28022 (([0, 5, 60, 120, 255, 256, (-1)] : List Int))).bind fun bt28026 => (some (t28005, t28006, t28007, t28008, t28016, t28021, bt28026.1))) = some (r1, r2, r3, r4, r5, r6, r7) := H
  have A5 := Aside0.mk A50
  clear A50
  obtain ⟨y28023, hy28023⟩ : ∃ y_ : List Int, y_ = (([0, 5, 60, 120, 255, 256, (-1)] : List Int)) := ⟨_, rfl⟩
  replace H : ((spec_reader_one.f k t28002 t28022 y28023).bind fun bt28026 => (some (t28005, t28006, t28007, t28008, t28016, t28021, bt28026.1))) = some (r1, r2, r3, r4, r5, r6, r7) := by first | (rw [hy28023]; with_reducible exact H) | (have H2_ := (Option.bind_some _ _).symm.trans H; rw [hy28023]; with_reducible exact H2_) | (have H2_ := (Option.bind_some _ _).symm.trans H; with_reducible exact H2_) | with_reducible exact H | (rw [hy28023]; exact H) | exact H
  have Ny28023 := Aside0.mk hy28023
  clear hy28023
  replace H := Option.bind_eq_some_iff.mp H
  obtain ⟨⟨t28026, t28027⟩, A60, H⟩ := H
  replace H : (some (t28005, t28006, t28007, t28008, t28016, t28021, t28026)) = some (r1, r2, r3, r4, r5, r6, r7) := H
  have A6 := Aside0.mk A60
  clear A60
  simp only [Option.some.injEq, Prod.mk.injEq] at H
  obtain ⟨rfl, rfl, rfl, rfl, rfl, rfl, rfl⟩ := H
  go_enter Try.func27, Try.ntmps27
  try go_wp2_with (first | ((with_reducible refine gate_dst (N := 2) rfl ?_); refine box_event ?hg (N := 2) ?hd (cs := #[.int .i64 0, .int .i64 0, .int .i64 0, .slice none 0 0]) (t := 28) ?hr ?_; (case hd => rfl); (case hg => rfl); (case hr => first | (go_simp; done) | (go_simp; rfl)); intro gb28001 hg w7 hbox hb; have n0_ := Aside0.mk (below_step (by repeat (first | (with_reducible first | exact HB.out | apply below_alloc | apply pw_below_drewN | apply below_drew1) | exact HB.out)) hb); have n1_ := Aside0.mk (hbox); have n2_ := Aside0.mk ((by rw [hg]; exact (below_size (by repeat (first | (with_reducible first | exact HB.out | apply below_alloc | apply pw_below_drewN | apply below_drew1) | exact HB.out))) : w.heap.size ≤ gb28001)); have n3_ := Aside0.mk ((by rw [hg]; exact (below_size (by repeat (first | (with_reducible first | exact HB.out | apply below_alloc | apply pw_below_drewN | apply below_drew1) | exact HB.out))) : w.heap.size ≤ gb28001)); clear HB; have HB := n0_; have BK28001 := n1_; have GW28001 := n2_; have GE28001 := n3_; clear n0_ n1_ n2_ n3_; clear hb hbox hg) | ((with_reducible refine gate_callee (f := 55) rfl ?_); refine goesL_ (some 11) rfl rfl Try.func55 (by kernel_rfl) rfl #[.slice A0 l0.length c0] rfl (by (try simp only [List.map_toArray, List.map_cons, List.map_nil]); first | done | rfl | (simp only [List.length_drop, List.length_take]; rfl)) ?_; (with_reducible refine (spec_newReader.calls _ _ l0 t28002 t28003 w _ ?side1 ?side2 ?side3 A2.out).mono ?_); (case side1 => repeat (first | (with_reducible first | exact HB.out | apply below_alloc | apply pw_below_drewN | apply below_drew1 | refine below_set ?_ GE28001.out) | exact HB.out)); (case side2 => exact HR0.out); (case side3 => exact HC0.out); rintro e w8 ⟨g28004, rfl, hi, hb, hb2⟩; refine ⟨_, rfl, ?_⟩; have n0_ := Aside0.mk (blk_below (g := gb28001) (o := .cells #[.int .i64 0, .int .i64 0, .int .i64 0, .slice none 0 0] 28 (0, 0)) (by (with_reducible repeat (first | refine blk_drewN ?_ _ | refine blk_drew ?_ | refine blk_alloc ?_ _)); exact BK28001.out) hb2); have n1_ := Aside0.mk (hb); have n2_ := Aside0.mk (hi); have n3_ := Aside0.mk (IsS100.ne_blk hi (blk_below (g := gb28001) (o := .cells #[.int .i64 0, .int .i64 0, .int .i64 0, .slice none 0 0] 28 (0, 0)) (by (with_reducible repeat (first | refine blk_drewN ?_ _ | refine blk_drew ?_ | refine blk_alloc ?_ _)); exact BK28001.out) hb2) (by decide)); have n4_ := Aside0.mk (Ne.symm (IsS100.ne_blk hi (blk_below (g := gb28001) (o := .cells #[.int .i64 0, .int .i64 0, .int .i64 0, .slice none 0 0] 28 (0, 0)) (by (with_reducible repeat (first | refine blk_drewN ?_ _ | refine blk_drew ?_ | refine blk_alloc ?_ _)); exact BK28001.out) hb2) (by decide))); clear BK28001; clear HB; have BK28001 := n0_; have HB := n1_; have HI28004 := n2_; have NB28004_28001 := n3_; have NB28001_28004 := n4_; clear n0_ n1_ n2_ n3_ n4_; (try clear hb); (try clear hb2); (try clear hk); (try clear hi)) | ((with_reducible refine gate_callee (f := 72) rfl ?_); refine goesL_ (some 13) rfl rfl Try.func72 (by kernel_rfl) rfl #[.pointer (some ⟨g28004, 0, none⟩)] rfl (by (try simp only [List.map_toArray, List.map_cons, List.map_nil]); first | done | rfl | (simp only [List.length_drop, List.length_take]; rfl)) ?_; (with_reducible refine (spec_anyImage.calls k g28004 t28002 t28003 t28005 t28006 t28007 t28008 t28011 w _ ?side1 ?side2 A3.out).mono ?_); (case side1 => repeat (first | (with_reducible first | exact HI28004.out | apply IsS100.alloc | apply IsS100.drewN | apply IsS100.drew | apply IsS100.set_1 | refine IsS100.far ?_ NB28004_28001.out _) | exact HI28004.out)); (case side2 => repeat (first | (with_reducible first | exact HB.out | apply below_alloc | apply pw_below_drewN | apply below_drew1 | refine below_set ?_ (IsS100.ge HI28004.out) | refine below_set ?_ GE28001.out) | exact HB.out)); rintro e w9 ⟨v28009, rfl, ho0, hi, hb, hk⟩; refine ⟨_, rfl, ?_⟩; have n0_ := Aside0.mk (KeepBut.blk hk (g' := gb28001) (o := .cells #[.int .i64 0, .int .i64 0, .int .i64 0, .slice none 0 0] 28 (0, 0)) (by (with_reducible repeat (first | refine blk_drewN ?_ _ | refine blk_drew ?_ | refine blk_alloc ?_ _)); exact BK28001.out) NB28001_28004.out (by simp)); have n1_ := Aside0.mk (Kd.Q_lower ho0 (below_size (by repeat (first | (with_reducible first | exact HB.out | apply below_alloc | apply pw_below_drewN | apply below_drew1 | refine below_set ?_ (IsS100.ge HI28004.out) | refine below_set ?_ GE28001.out) | exact HB.out)))); have n2_ := Aside0.mk (hb); have n3_ := Aside0.mk (hi); clear BK28001; clear HB; clear HI28004; have BK28001 := n0_; have HO28010 := n1_; have HB := n2_; have HI28004 := n3_; clear n0_ n1_ n2_ n3_; (try clear hb); (try clear hb2); (try clear hk); (try clear hi); (try clear ho0)) | ((with_reducible refine gate_dst (N := 7) rfl ?_); refine box_event ?hg (N := 7) ?hd (cs := #[.int .i64 0, .int .i64 0, .int .i64 0, .slice none 0 0]) (t := 28) ?hr ?_; (case hd => rfl); (case hg => rfl); (case hr => first | (go_simp; done) | (go_simp; rfl)); intro gb28012 hg w10 hbox hb; have n0_ := Aside0.mk (Kd.Q_below (by (with_reducible repeat (first | apply Kd.Q_alloc | apply Kd.Q_drewN | apply Kd.Q_drew)); exact HO28010.out) hb); have n1_ := Aside0.mk (blk_below (g := gb28001) (o := .cells #[.int .i64 0, .int .i64 0, .int .i64 0, .slice none 0 0] 28 (0, 0)) (by (with_reducible repeat (first | refine blk_drewN ?_ _ | refine blk_drew ?_ | refine blk_alloc ?_ _)); exact BK28001.out) hb); have n2_ := Aside0.mk (IsS100.below (by repeat (first | (with_reducible first | exact HI28004.out | apply IsS100.alloc | apply IsS100.drewN | apply IsS100.drew | apply IsS100.set_1 | refine IsS100.far ?_ NB28004_28001.out _) | exact HI28004.out)) hb); have n3_ := Aside0.mk (below_step (by repeat (first | (with_reducible first | exact HB.out | apply below_alloc | apply pw_below_drewN | apply below_drew1 | refine below_set ?_ (IsS100.ge HI28004.out) | refine below_set ?_ GE28001.out) | exact HB.out)) hb); have n4_ := Aside0.mk (hbox); have n5_ := Aside0.mk ((by rw [hg]; exact (below_size (by repeat (first | (with_reducible first | exact HB.out | apply below_alloc | apply pw_below_drewN | apply below_drew1 | refine below_set ?_ (IsS100.ge HI28004.out) | refine below_set ?_ GE28001.out) | exact HB.out))) : w.heap.size ≤ gb28012)); have n6_ := Aside0.mk ((by rw [hg]; exact (below_size (by repeat (first | (with_reducible first | exact HB.out | apply below_alloc | apply pw_below_drewN | apply below_drew1 | refine below_set ?_ (IsS100.ge HI28004.out) | refine below_set ?_ GE28001.out) | exact HB.out))) : w.heap.size ≤ gb28012)); have n7_ := Aside0.mk ((by rw [hg]; exact Nat.ne_of_lt (blk_lt (g := gb28001) (o := .cells #[.int .i64 0, .int .i64 0, .int .i64 0, .slice none 0 0] 28 (0, 0)) (by (with_reducible repeat (first | refine blk_drewN ?_ _ | refine blk_drew ?_ | refine blk_alloc ?_ _)); exact BK28001.out)) : gb28001 ≠ gb28012)); have n8_ := Aside0.mk ((by rw [hg]; exact Nat.ne_of_gt (blk_lt (g := gb28001) (o := .cells #[.int .i64 0, .int .i64 0, .int .i64 0, .slice none 0 0] 28 (0, 0)) (by (with_reducible repeat (first | refine blk_drewN ?_ _ | refine blk_drew ?_ | refine blk_alloc ?_ _)); exact BK28001.out)) : gb28012 ≠ gb28001)); have n9_ := Aside0.mk ((by rw [hg]; exact Nat.ne_of_lt (IsS100.lt (show IsS100 w _ g28004 t28002 t28011 from by repeat (first | (with_reducible first | exact HI28004.out | apply IsS100.alloc | apply IsS100.drewN | apply IsS100.drew | apply IsS100.set_1 | refine IsS100.far ?_ NB28004_28001.out _) | exact HI28004.out))) : g28004 ≠ gb28012)); have n10_ := Aside0.mk ((by rw [hg]; exact Nat.ne_of_gt (IsS100.lt (show IsS100 w _ g28004 t28002 t28011 from by repeat (first | (with_reducible first | exact HI28004.out | apply IsS100.alloc | apply IsS100.drewN | apply IsS100.drew | apply IsS100.set_1 | refine IsS100.far ?_ NB28004_28001.out _) | exact HI28004.out))) : gb28012 ≠ g28004)); clear HO28010; clear BK28001; clear HI28004; clear HB; have HO28010 := n0_; have BK28001 := n1_; have HI28004 := n2_; have HB := n3_; have BK28012 := n4_; have GW28012 := n5_; have GE28012 := n6_; have NB28001_28012 := n7_; have NB28012_28001 := n8_; have NB28004_28012 := n9_; have NB28012_28004 := n10_; clear n0_ n1_ n2_ n3_ n4_ n5_ n6_ n7_ n8_ n9_ n10_; clear hb hbox hg; have hnb11 := NB28012_28001.out; have hnc11 := NB28001_28012.out; have hnb12 := NB28012_28004.out; have hnc12 := NB28004_28012.out; have hcz13_0 : w10.cell? ⟨gb28012, 0, none⟩ = some (.int .i64 0) := (blk_cell BK28012.out 0).trans rfl; have hcz13_1 : w10.cell? ⟨gb28012, 1, none⟩ = some (.int .i64 0) := (blk_cell BK28012.out 1).trans rfl; have hcz13_2 : w10.cell? ⟨gb28012, 2, none⟩ = some (.int .i64 0) := (blk_cell BK28012.out 2).trans rfl; have hcz13_3 : w10.cell? ⟨gb28012, 3, none⟩ = some (.slice none 0 0) := (blk_cell BK28012.out 3).trans rfl; have hfz13_0 := blk_frozen BK28012.out 0; have hfz13_1 := blk_frozen BK28012.out 1; have hfz13_2 := blk_frozen BK28012.out 2; have hfz13_3 := blk_frozen BK28012.out 3; obtain ⟨Ao14, co14, eo14, _⟩ := Kd.Q_slice HO28010.out; subst eo14) | ((with_reducible refine gate_dst (N := 15) rfl ?_); refine Kd.R_lit (Kd.int .i64) _ 3 ?hg (N := 15) ?hd (xs := ([0, 1, 2, (-1), 4] : List Int)) (inner := [.int .i64 0, .int .i64 1, .int .i64 2, .int .i64 (-1), .int .i64 4]) (ok := fun _ => True) (okp := fun _ => True) ?hr ?hp (fun _ hk => hk) trivial (Below.refl _ _) (Nat.le_refl _) (by simp) ?_; (case hd => rfl); (case hg => rfl); (case hr => first | (go_simp; done) | (go_simp; rfl)); (case hp => exact (Reps.one (show Kd.M (Kd.int .i64) _ _ _ 0 [.int .i64 0] from rfl) (Reps.one (show Kd.M (Kd.int .i64) _ _ _ 1 [.int .i64 1] from rfl) (Reps.one (show Kd.M (Kd.int .i64) _ _ _ 2 [.int .i64 2] from rfl) (Reps.one (show Kd.M (Kd.int .i64) _ _ _ (-1) [.int .i64 (-1)] from rfl) (Reps.one (show Kd.M (Kd.int .i64) _ _ _ 4 [.int .i64 4] from rfl) (Reps.none _ _))))))); intro v28014 w15 ho16 hb hg_ hnew_; clear hg_ hnew_; (first | rw [← Ny28013.out] at ho16 | (simp only [Int.reduceToNat] at ho16; rw [← Ny28013.out] at ho16)); have n0_ := Aside0.mk (Kd.Q_elder' (by (with_reducible repeat (first | apply Kd.Q_alloc | apply Kd.Q_drewN | apply Kd.Q_drew)); exact (Kd.Q_mono (Kd.Q_far (p := ⟨gb28012, 3, none⟩) (Kd.Q_far (p := ⟨gb28012, 2, none⟩) (Kd.Q_far (p := ⟨gb28012, 1, none⟩) (Kd.Q_far (p := ⟨gb28012, 0, none⟩) (Kd.Q_types HO28010.out BK28012.out (by decide)) (fun _ hk => hk.2) (.int .i64 t28005)) (fun _ hk => hk.2) (.int .i64 t28006)) (fun _ hk => hk.2) (.int .i64 t28007)) (fun _ hk => hk.2) (.slice Ao14 t28008.length co14)) (fun _ h_ => h_.1))) (Kd.R_base ho16) hb); have n1_ := Aside0.mk (Kd.R_lower (Kd.R_new' ho16 (Kd.Q_lt (by (with_reducible repeat (first | apply Kd.Q_alloc | apply Kd.Q_drewN | apply Kd.Q_drew)); exact (Kd.Q_mono (Kd.Q_far (p := ⟨gb28012, 3, none⟩) (Kd.Q_far (p := ⟨gb28012, 2, none⟩) (Kd.Q_far (p := ⟨gb28012, 1, none⟩) (Kd.Q_far (p := ⟨gb28012, 0, none⟩) (Kd.Q_types HO28010.out BK28012.out (by decide)) (fun _ hk => hk.2) (.int .i64 t28005)) (fun _ hk => hk.2) (.int .i64 t28006)) (fun _ hk => hk.2) (.int .i64 t28007)) (fun _ hk => hk.2) (.slice Ao14 t28008.length co14)) (fun _ h_ => h_.1))))) (below_size (by repeat (first | (with_reducible first | exact HB.out | apply below_alloc | apply pw_below_drewN | apply below_drew1 | refine below_set ?_ (IsS100.ge HI28004.out) | refine below_set ?_ GE28001.out | refine below_set ?_ GE28012.out) | exact HB.out)))); have n2_ := Aside0.mk (blk_below (g := gb28001) (o := .cells #[.int .i64 0, .int .i64 0, .int .i64 0, .slice none 0 0] 28 (0, 0)) (by (with_reducible repeat (first | refine blk_drewN ?_ _ | refine blk_drew ?_ | refine blk_alloc ?_ _)); refine blk_far ?_ NB28001_28012.out _; (with_reducible repeat (first | refine blk_drewN ?_ _ | refine blk_drew ?_ | refine blk_alloc ?_ _)); refine blk_far ?_ NB28001_28012.out _; (with_reducible repeat (first | refine blk_drewN ?_ _ | refine blk_drew ?_ | refine blk_alloc ?_ _)); refine blk_far ?_ NB28001_28012.out _; (with_reducible repeat (first | refine blk_drewN ?_ _ | refine blk_drew ?_ | refine blk_alloc ?_ _)); refine blk_far ?_ NB28001_28012.out _; (with_reducible repeat (first | refine blk_drewN ?_ _ | refine blk_drew ?_ | refine blk_alloc ?_ _)); exact BK28001.out) hb); have n3_ := Aside0.mk (IsS100.below (show IsS100 w ((((w10.setCell ⟨gb28012, 0, none⟩ (.int .i64 t28005)).setCell ⟨gb28012, 1, none⟩ (.int .i64 t28006)).setCell ⟨gb28012, 2, none⟩ (.int .i64 t28007)).setCell ⟨gb28012, 3, none⟩ (.slice Ao14 t28008.length co14)) g28004 t28002 t28011 from by repeat (first | (with_reducible first | exact HI28004.out | apply IsS100.alloc | apply IsS100.drewN | apply IsS100.drew | apply IsS100.set_1 | refine IsS100.far ?_ NB28004_28001.out _ | refine IsS100.far ?_ NB28004_28012.out _) | exact HI28004.out)) hb); have n4_ := Aside0.mk (blk_below (g := gb28012) (o := .cells #[.int .i64 t28005, .int .i64 t28006, .int .i64 t28007, .slice Ao14 t28008.length co14] 28 (0, 0)) (by (with_reducible repeat (first | refine blk_drewN ?_ _ | refine blk_drew ?_ | refine blk_alloc ?_ _)); refine blk_put (cs := #[.int .i64 t28005, .int .i64 t28006, .int .i64 t28007, .slice none 0 0]) ?_ 3 _ rfl; (with_reducible repeat (first | refine blk_drewN ?_ _ | refine blk_drew ?_ | refine blk_alloc ?_ _)); refine blk_put (cs := #[.int .i64 t28005, .int .i64 t28006, .int .i64 0, .slice none 0 0]) ?_ 2 _ rfl; (with_reducible repeat (first | refine blk_drewN ?_ _ | refine blk_drew ?_ | refine blk_alloc ?_ _)); refine blk_put (cs := #[.int .i64 t28005, .int .i64 0, .int .i64 0, .slice none 0 0]) ?_ 1 _ rfl; (with_reducible repeat (first | refine blk_drewN ?_ _ | refine blk_drew ?_ | refine blk_alloc ?_ _)); refine blk_put (cs := #[.int .i64 0, .int .i64 0, .int .i64 0, .slice none 0 0]) ?_ 0 _ rfl; (with_reducible repeat (first | refine blk_drewN ?_ _ | refine blk_drew ?_ | refine blk_alloc ?_ _)); exact BK28012.out) hb); have n5_ := Aside0.mk (below_step (by repeat (first | (with_reducible first | exact HB.out | apply below_alloc | apply pw_below_drewN | apply below_drew1 | refine below_set ?_ (IsS100.ge HI28004.out) | refine below_set ?_ GE28001.out | refine below_set ?_ GE28012.out) | exact HB.out)) hb); clear HO28010; clear BK28001; clear HI28004; clear BK28012; clear HB; have HO28010 := n0_; have HO28015 := n1_; have BK28001 := n2_; have HI28004 := n3_; have BK28012 := n4_; have HB := n5_; clear n0_ n1_ n2_ n3_ n4_ n5_; clear hb ho16; obtain ⟨Ao17, co17, eo17⟩ := Kd.R_slice HO28015.out; subst eo17) | ((with_reducible refine gate_callee (f := 73) rfl ?_); refine goesL_ (some 16) rfl rfl Try.func73 (by kernel_rfl) rfl #[.pointer (some ⟨g28004, 0, none⟩), .slice Ao17 y28013.length co17] rfl (by (try simp only [List.map_toArray, List.map_cons, List.map_nil]); first | done | rfl | (simp only [List.length_drop, List.length_take]; rfl)) ?_; (with_reducible refine (spec_reader_one.calls k g28004 t28002 t28011 _ _ y28013 t28016 t28017 w _ ?side1 ?side2 ?side3 ?side4 ?side5 A4.out).mono ?_); (case side1 => repeat (first | (with_reducible first | exact HI28004.out | apply IsS100.alloc | apply IsS100.drewN | apply IsS100.drew | apply IsS100.set_1 | refine IsS100.far ?_ NB28004_28001.out _ | refine IsS100.far ?_ NB28004_28012.out _) | exact HI28004.out)); (case side2 => repeat (first | (with_reducible first | exact HB.out | apply below_alloc | apply pw_below_drewN | apply below_drew1 | refine below_set ?_ (IsS100.ge HI28004.out) | refine below_set ?_ GE28001.out | refine below_set ?_ GE28012.out) | exact HB.out)); (case side3 => repeat (first | exact (Kd.R_reads' HO28015.out).2.2 | (with_reducible refine Kd.C_alloc ?_ _) | (with_reducible refine Kd.C_drewN ?_ _) | (with_reducible refine Kd.C_drew ?_))); (case side4 => exact (Kd.R_reads' HO28015.out).2.1); (case side5 => exact far_slice (IsS100.own_ne HI28004.out HO28015.out (by decide))); rintro e w18 ⟨rfl, hi, hb, hk⟩; refine ⟨_, rfl, ?_⟩; have n0_ := Aside0.mk (KeepBut.blk hk (g' := gb28001) (o := .cells #[.int .i64 0, .int .i64 0, .int .i64 0, .slice none 0 0] 28 (0, 0)) (by (with_reducible repeat (first | refine blk_drewN ?_ _ | refine blk_drew ?_ | refine blk_alloc ?_ _)); exact BK28001.out) NB28001_28004.out (by simp)); have n1_ := Aside0.mk (Kd.Q_mono (Kd.Q_keep (IsS100.apartQ (show IsS100 w _ g28004 t28002 t28011 from by repeat (first | (with_reducible first | exact HI28004.out | apply IsS100.alloc | apply IsS100.drewN | apply IsS100.drew | apply IsS100.set_1 | refine IsS100.far ?_ NB28004_28001.out _ | refine IsS100.far ?_ NB28004_28012.out _) | exact HI28004.out)) (by (with_reducible repeat (first | apply Kd.Q_alloc | apply Kd.Q_drewN | apply Kd.Q_drew)); exact HO28010.out) (by decide)) hk (fun _ h => h.2)) (fun _ h => h.1)); have n2_ := Aside0.mk (KeepBut.blk hk (g' := gb28012) (o := .cells #[.int .i64 t28005, .int .i64 t28006, .int .i64 t28007, .slice Ao14 t28008.length co14] 28 (0, 0)) (by (with_reducible repeat (first | refine blk_drewN ?_ _ | refine blk_drew ?_ | refine blk_alloc ?_ _)); exact BK28012.out) NB28012_28004.out (by simp)); have n3_ := Aside0.mk (Kd.R_mono (Kd.R_keep (IsS100.apart (show IsS100 w _ g28004 t28002 t28011 from by repeat (first | (with_reducible first | exact HI28004.out | apply IsS100.alloc | apply IsS100.drewN | apply IsS100.drew | apply IsS100.set_1 | refine IsS100.far ?_ NB28004_28001.out _ | refine IsS100.far ?_ NB28004_28012.out _) | exact HI28004.out)) (by (with_reducible repeat (first | apply Kd.R_alloc | apply Kd.R_drewN | apply Kd.R_drew)); exact HO28015.out) (by decide)) hk (fun _ h => h.2)) (fun _ h => h.1)); have n4_ := Aside0.mk (hb); have n5_ := Aside0.mk (hi); clear BK28001; clear HO28010; clear BK28012; clear HO28015; clear HB; clear HI28004; have BK28001 := n0_; have HO28010 := n1_; have BK28012 := n2_; have HO28015 := n3_; have HB := n4_; have HI28004 := n5_; clear n0_ n1_ n2_ n3_ n4_ n5_; (try clear hb); (try clear hb2); (try clear hk); (try clear hi)) | ((with_reducible refine gate_dst (N := 18) rfl ?_); refine Kd.R_lit (Kd.int .i64) _ 3 ?hg (N := 18) ?hd (xs := ([0, 1, 2, (-1), 4] : List Int)) (inner := [.int .i64 0, .int .i64 1, .int .i64 2, .int .i64 (-1), .int .i64 4]) (ok := fun _ => True) (okp := fun _ => True) ?hr ?hp (fun _ hk => hk) trivial (Below.refl _ _) (Nat.le_refl _) (by simp) ?_; (case hd => rfl); (case hg => rfl); (case hr => first | (go_simp; done) | (go_simp; rfl)); (case hp => exact (Reps.one (show Kd.M (Kd.int .i64) _ _ _ 0 [.int .i64 0] from rfl) (Reps.one (show Kd.M (Kd.int .i64) _ _ _ 1 [.int .i64 1] from rfl) (Reps.one (show Kd.M (Kd.int .i64) _ _ _ 2 [.int .i64 2] from rfl) (Reps.one (show Kd.M (Kd.int .i64) _ _ _ (-1) [.int .i64 (-1)] from rfl) (Reps.one (show Kd.M (Kd.int .i64) _ _ _ 4 [.int .i64 4] from rfl) (Reps.none _ _))))))); intro v28019 w19 ho20 hb hg_ hnew_; clear hg_ hnew_; (first | rw [← Ny28018.out] at ho20 | (simp only [Int.reduceToNat] at ho20; rw [← Ny28018.out] at ho20)); have n0_ := Aside0.mk (Kd.Q_elder' (by (with_reducible repeat (first | apply Kd.Q_alloc | apply Kd.Q_drewN | apply Kd.Q_drew)); exact HO28010.out) (Kd.R_base ho20) hb); have n1_ := Aside0.mk (Kd.R_elder' (by (with_reducible repeat (first | apply Kd.R_alloc | apply Kd.R_drewN | apply Kd.R_drew)); exact HO28015.out) (Kd.R_base ho20) hb); have n2_ := Aside0.mk (Kd.R_lower (Kd.R_new' (Kd.R_new' ho20 (Kd.Q_lt (by (with_reducible repeat (first | apply Kd.Q_alloc | apply Kd.Q_drewN | apply Kd.Q_drew)); exact HO28010.out))) (Kd.R_lt (by (with_reducible repeat (first | apply Kd.R_alloc | apply Kd.R_drewN | apply Kd.R_drew)); exact HO28015.out))) (below_size (by repeat (first | (with_reducible first | exact HB.out | apply below_alloc | apply pw_below_drewN | apply below_drew1 | refine below_set ?_ (IsS100.ge HI28004.out) | refine below_set ?_ GE28001.out | refine below_set ?_ GE28012.out) | exact HB.out)))); have n3_ := Aside0.mk (blk_below (g := gb28001) (o := .cells #[.int .i64 0, .int .i64 0, .int .i64 0, .slice none 0 0] 28 (0, 0)) (by (with_reducible repeat (first | refine blk_drewN ?_ _ | refine blk_drew ?_ | refine blk_alloc ?_ _)); exact BK28001.out) hb); have n4_ := Aside0.mk (IsS100.below (by repeat (first | (with_reducible first | exact HI28004.out | apply IsS100.alloc | apply IsS100.drewN | apply IsS100.drew | apply IsS100.set_1 | refine IsS100.far ?_ NB28004_28001.out _ | refine IsS100.far ?_ NB28004_28012.out _) | exact HI28004.out)) hb); have n5_ := Aside0.mk (blk_below (g := gb28012) (o := .cells #[.int .i64 t28005, .int .i64 t28006, .int .i64 t28007, .slice Ao14 t28008.length co14] 28 (0, 0)) (by (with_reducible repeat (first | refine blk_drewN ?_ _ | refine blk_drew ?_ | refine blk_alloc ?_ _)); exact BK28012.out) hb); have n6_ := Aside0.mk (below_step (by repeat (first | (with_reducible first | exact HB.out | apply below_alloc | apply pw_below_drewN | apply below_drew1 | refine below_set ?_ (IsS100.ge HI28004.out) | refine below_set ?_ GE28001.out | refine below_set ?_ GE28012.out) | exact HB.out)) hb); clear HO28010; clear HO28015; clear BK28001; clear HI28004; clear BK28012; clear HB; have HO28010 := n0_; have HO28015 := n1_; have HO28020 := n2_; have BK28001 := n3_; have HI28004 := n4_; have BK28012 := n5_; have HB := n6_; clear n0_ n1_ n2_ n3_ n4_ n5_ n6_; clear hb ho20; obtain ⟨Ao21, co21, eo21⟩ := Kd.R_slice HO28020.out; subst eo21) | ((with_reducible refine gate_callee (f := 73) rfl ?_); refine goesL_ (some 19) rfl rfl Try.func73 (by kernel_rfl) rfl #[.pointer (some ⟨g28004, 0, none⟩), .slice Ao21 y28018.length co21] rfl (by (try simp only [List.map_toArray, List.map_cons, List.map_nil]); first | done | rfl | (simp only [List.length_drop, List.length_take]; rfl)) ?_; (with_reducible refine (spec_reader_one.calls k g28004 t28002 t28017 _ _ y28018 t28021 t28022 w _ ?side1 ?side2 ?side3 ?side4 ?side5 A5.out).mono ?_); (case side1 => repeat (first | (with_reducible first | exact HI28004.out | apply IsS100.alloc | apply IsS100.drewN | apply IsS100.drew | apply IsS100.set_1 | refine IsS100.far ?_ NB28004_28001.out _ | refine IsS100.far ?_ NB28004_28012.out _) | exact HI28004.out)); (case side2 => repeat (first | (with_reducible first | exact HB.out | apply below_alloc | apply pw_below_drewN | apply below_drew1 | refine below_set ?_ (IsS100.ge HI28004.out) | refine below_set ?_ GE28001.out | refine below_set ?_ GE28012.out) | exact HB.out)); (case side3 => repeat (first | exact (Kd.R_reads' HO28020.out).2.2 | (with_reducible refine Kd.C_alloc ?_ _) | (with_reducible refine Kd.C_drewN ?_ _) | (with_reducible refine Kd.C_drew ?_))); (case side4 => exact (Kd.R_reads' HO28020.out).2.1); (case side5 => exact far_slice (IsS100.own_ne HI28004.out HO28020.out (by decide))); rintro e w22 ⟨rfl, hi, hb, hk⟩; refine ⟨_, rfl, ?_⟩; have n0_ := Aside0.mk (KeepBut.blk hk (g' := gb28001) (o := .cells #[.int .i64 0, .int .i64 0, .int .i64 0, .slice none 0 0] 28 (0, 0)) (by (with_reducible repeat (first | refine blk_drewN ?_ _ | refine blk_drew ?_ | refine blk_alloc ?_ _)); exact BK28001.out) NB28001_28004.out (by simp)); have n1_ := Aside0.mk (Kd.Q_mono (Kd.Q_keep (IsS100.apartQ (show IsS100 w _ g28004 t28002 t28017 from by repeat (first | (with_reducible first | exact HI28004.out | apply IsS100.alloc | apply IsS100.drewN | apply IsS100.drew | apply IsS100.set_1 | refine IsS100.far ?_ NB28004_28001.out _ | refine IsS100.far ?_ NB28004_28012.out _) | exact HI28004.out)) (by (with_reducible repeat (first | apply Kd.Q_alloc | apply Kd.Q_drewN | apply Kd.Q_drew)); exact HO28010.out) (by decide)) hk (fun _ h => h.2)) (fun _ h => h.1)); have n2_ := Aside0.mk (KeepBut.blk hk (g' := gb28012) (o := .cells #[.int .i64 t28005, .int .i64 t28006, .int .i64 t28007, .slice Ao14 t28008.length co14] 28 (0, 0)) (by (with_reducible repeat (first | refine blk_drewN ?_ _ | refine blk_drew ?_ | refine blk_alloc ?_ _)); exact BK28012.out) NB28012_28004.out (by simp)); have n3_ := Aside0.mk (Kd.R_mono (Kd.R_keep (IsS100.apart (show IsS100 w _ g28004 t28002 t28017 from by repeat (first | (with_reducible first | exact HI28004.out | apply IsS100.alloc | apply IsS100.drewN | apply IsS100.drew | apply IsS100.set_1 | refine IsS100.far ?_ NB28004_28001.out _ | refine IsS100.far ?_ NB28004_28012.out _) | exact HI28004.out)) (by (with_reducible repeat (first | apply Kd.R_alloc | apply Kd.R_drewN | apply Kd.R_drew)); exact HO28015.out) (by decide)) hk (fun _ h => h.2)) (fun _ h => h.1)); have n4_ := Aside0.mk (Kd.R_mono (Kd.R_keep (IsS100.apart (show IsS100 w _ g28004 t28002 t28017 from by repeat (first | (with_reducible first | exact HI28004.out | apply IsS100.alloc | apply IsS100.drewN | apply IsS100.drew | apply IsS100.set_1 | refine IsS100.far ?_ NB28004_28001.out _ | refine IsS100.far ?_ NB28004_28012.out _) | exact HI28004.out)) (by (with_reducible repeat (first | apply Kd.R_alloc | apply Kd.R_drewN | apply Kd.R_drew)); exact HO28020.out) (by decide)) hk (fun _ h => h.2)) (fun _ h => h.1)); have n5_ := Aside0.mk (hb); have n6_ := Aside0.mk (hi); clear BK28001; clear HO28010; clear BK28012; clear HO28015; clear HO28020; clear HB; clear HI28004; have BK28001 := n0_; have HO28010 := n1_; have BK28012 := n2_; have HO28015 := n3_; have HO28020 := n4_; have HB := n5_; have HI28004 := n6_; clear n0_ n1_ n2_ n3_ n4_ n5_ n6_; (try clear hb); (try clear hb2); (try clear hk); (try clear hi)))
  have n0_ := Aside0.mk (Kd.Q_drew HO28010.out)
  have n1_ := Aside0.mk (Kd.R_drew HO28015.out)
  have n2_ := Aside0.mk (Kd.R_drew HO28020.out)
  have n3_ := Aside0.mk (blk_drew BK28001.out)
  have n4_ := Aside0.mk (blk_drew BK28012.out)
  have n5_ := Aside0.mk (IsS100.drew HI28004.out)
  have n6_ := Aside0.mk (below_drew1 HB.out)
  clear HO28010
  clear HO28015
  clear HO28020
  clear BK28001
  clear BK28012
  clear HI28004
  clear HB
  have HO28010 := n0_
  have HO28015 := n1_
  have HO28020 := n2_
  have BK28001 := n3_
  have BK28012 := n4_
  have HI28004 := n5_
  have HB := n6_
  clear n0_ n1_ n2_ n3_ n4_ n5_ n6_
  refine start_ (n := 10) (S := fun w' => w'.cell? ⟨gb28012, 0, none⟩ = some (.int .i64 t28005) ∧ w'.cell? ⟨gb28012, 1, none⟩ = some (.int .i64 t28006) ∧ w'.cell? ⟨gb28012, 2, none⟩ = some (.int .i64 t28007) ∧ w'.cell? ⟨gb28012, 3, none⟩ = some (.slice Ao14 t28008.length co14)) (ds := []) #[false, false, false, false, false, false, false, false, false, false] (by kernel_rfl) rfl rfl ⟨(blk_cell BK28012.out 0).trans rfl, (blk_cell BK28012.out 1).trans rfl, (blk_cell BK28012.out 2).trans rfl, (blk_cell BK28012.out 3).trans rfl⟩ (fun hHeld => ?_); refine with_tabW spec_DrawFloodRegion.tab5 spec_DrawFloodRegion.bits5 (fun HT_ HW_ => ?_)
  generalize w22.drew = w23 at HO28010 HO28015 HO28020 BK28001 BK28012 HI28004 HB hHeld ⊢
  refine pure_ (i := 1) (N := some 21) (v := ?_) (a' := ?_) #[false, true, false, false, false, false, false, false, false, false] rfl rfl (any_of HT_.out (by kernel_rfl)) (fun _ _ _ h => h) (Or.inl ⟨by rfl, ?_⟩) ?_ ?_
  rotate_left
  · intro w'
    go_simp
    with_reducible rfl
  rotate_left
  · simp only [Act.put, List.setIfInBounds_toArray, List.set_cons_zero, List.set_cons_succ, i64_w, i32_w]
    rfl
  refine pure_ (i := 2) (N := some 22) (v := ?_) (a' := ?_) #[false, true, true, false, false, false, false, false, false, false] rfl rfl (any_of HT_.out (by kernel_rfl)) (fun _ _ _ h => h) (Or.inl ⟨by rfl, ?_⟩) ?_ ?_
  rotate_left
  · intro w'
    go_simp
    with_reducible rfl
  rotate_left
  · simp only [Act.put, List.setIfInBounds_toArray, List.set_cons_zero, List.set_cons_succ, i64_w, i32_w]
    rfl
  refine pure_ (i := 3) (N := some 23) (v := ?_) (a' := ?_) #[false, true, true, true, false, false, false, false, false, false] rfl rfl (any_of HT_.out (by kernel_rfl)) (fun _ _ _ h => h) (Or.inl ⟨by rfl, ?_⟩) ?_ ?_
  rotate_left
  · intro w'
    go_simp
    with_reducible rfl
  rotate_left
  · simp only [Act.put, List.setIfInBounds_toArray, List.set_cons_zero, List.set_cons_succ, i64_w, i32_w]
    rfl
  refine take_ (i := 0) (N := some 20) (v := ?_) (a' := ?_) #[true, true, true, true, false, false, false, false, false, false] rfl rfl (take_ofW HT_.out HW_.out (by kernel_rfl)) (fun _ _ _ h => h) (Or.inl ⟨by rfl, ?_⟩) hHeld ?_ ?_
  rotate_left
  · rintro w' ⟨s0, s1, s2, s3⟩
    go_simp
    with_reducible rfl
  rotate_left
  · simp only [Act.put, List.setIfInBounds_toArray, List.set_cons_zero, List.set_cons_succ, i64_w, i32_w]
    rfl
  refine one_ (i := 4) (N := some 24) #[true, true, true, true, true, false, false, false, false, false] rfl rfl (one_of HT_.out (by kernel_rfl)) (by decide) (fun K hK => ?_)
  refine Kd.R_lit_step (Kd.int .i64) _ 3 ?hg (N := 24) ?hd (xs := ([0, 5, 60, 120, 255, 256, (-1)] : List Int)) (inner := [.int .i64 0, .int .i64 5, .int .i64 60, .int .i64 120, .int .i64 255, .int .i64 256, .int .i64 (-1)]) (ok := fun _ => True) (okp := fun _ => True) ?hr ?hp (fun _ hk => hk) trivial (Below.refl _ _) (Nat.le_refl _) (by simp) ?_; (case hd => rfl); (case hg => rfl); (case hr => first | (go_simp; done) | (go_simp; rfl)); (case hp => exact (Reps.one (show Kd.M (Kd.int .i64) _ _ _ 0 [.int .i64 0] from rfl) (Reps.one (show Kd.M (Kd.int .i64) _ _ _ 5 [.int .i64 5] from rfl) (Reps.one (show Kd.M (Kd.int .i64) _ _ _ 60 [.int .i64 60] from rfl) (Reps.one (show Kd.M (Kd.int .i64) _ _ _ 120 [.int .i64 120] from rfl) (Reps.one (show Kd.M (Kd.int .i64) _ _ _ 255 [.int .i64 255] from rfl) (Reps.one (show Kd.M (Kd.int .i64) _ _ _ 256 [.int .i64 256] from rfl) (Reps.one (show Kd.M (Kd.int .i64) _ _ _ (-1) [.int .i64 (-1)] from rfl) (Reps.none _ _)))))))))
  intro v28024 w24 ho25 hb hg_ hnew_
  clear hg_ hnew_
  (first | rw [← Ny28023.out] at ho25 | (simp only [Int.reduceToNat] at ho25; rw [← Ny28023.out] at ho25))
  have n0_ := Aside0.mk (Kd.Q_elder' (by (with_reducible repeat (first | apply Kd.Q_alloc | apply Kd.Q_drewN | apply Kd.Q_drew)); exact HO28010.out) (Kd.R_base ho25) hb)
  have n1_ := Aside0.mk (Kd.R_elder' (by (with_reducible repeat (first | apply Kd.R_alloc | apply Kd.R_drewN | apply Kd.R_drew)); exact HO28015.out) (Kd.R_base ho25) hb)
  have n2_ := Aside0.mk (Kd.R_elder' (by (with_reducible repeat (first | apply Kd.R_alloc | apply Kd.R_drewN | apply Kd.R_drew)); exact HO28020.out) (Kd.R_base ho25) hb)
  have n3_ := Aside0.mk (Kd.R_lower (Kd.R_new' (Kd.R_new' (Kd.R_new' ho25 (Kd.Q_lt (by (with_reducible repeat (first | apply Kd.Q_alloc | apply Kd.Q_drewN | apply Kd.Q_drew)); exact HO28010.out))) (Kd.R_lt (by (with_reducible repeat (first | apply Kd.R_alloc | apply Kd.R_drewN | apply Kd.R_drew)); exact HO28015.out))) (Kd.R_lt (by (with_reducible repeat (first | apply Kd.R_alloc | apply Kd.R_drewN | apply Kd.R_drew)); exact HO28020.out))) (below_size (by repeat (first | (with_reducible first | exact HB.out | apply below_alloc | apply pw_below_drewN | apply below_drew1 | refine below_set ?_ (IsS100.ge HI28004.out) | refine below_set ?_ GE28001.out | refine below_set ?_ GE28012.out) | exact HB.out))))
  have n4_ := Aside0.mk (blk_below (g := gb28001) (o := .cells #[.int .i64 0, .int .i64 0, .int .i64 0, .slice none 0 0] 28 (0, 0)) (by (with_reducible repeat (first | refine blk_drewN ?_ _ | refine blk_drew ?_ | refine blk_alloc ?_ _)); exact BK28001.out) hb)
  have n5_ := Aside0.mk (IsS100.below (by repeat (first | (with_reducible first | exact HI28004.out | apply IsS100.alloc | apply IsS100.drewN | apply IsS100.drew | apply IsS100.set_1 | refine IsS100.far ?_ NB28004_28001.out _ | refine IsS100.far ?_ NB28004_28012.out _) | exact HI28004.out)) hb)
  have n6_ := Aside0.mk (blk_below (g := gb28012) (o := .cells #[.int .i64 t28005, .int .i64 t28006, .int .i64 t28007, .slice Ao14 t28008.length co14] 28 (0, 0)) (by (with_reducible repeat (first | refine blk_drewN ?_ _ | refine blk_drew ?_ | refine blk_alloc ?_ _)); exact BK28012.out) hb)
  have n7_ := Aside0.mk (below_step (by repeat (first | (with_reducible first | exact HB.out | apply below_alloc | apply pw_below_drewN | apply below_drew1 | refine below_set ?_ (IsS100.ge HI28004.out) | refine below_set ?_ GE28001.out | refine below_set ?_ GE28012.out) | exact HB.out)) hb)
  clear HO28010
  clear HO28015
  clear HO28020
  clear BK28001
  clear HI28004
  clear BK28012
  clear HB
  have HO28010 := n0_
  have HO28015 := n1_
  have HO28020 := n2_
  have HO28025 := n3_
  have BK28001 := n4_
  have HI28004 := n5_
  have BK28012 := n6_
  have HB := n7_
  clear n0_ n1_ n2_ n3_ n4_ n5_ n6_ n7_
  clear hb ho25
  obtain ⟨Ao26, co26, eo26⟩ := Kd.R_slice HO28025.out
  (first | subst eo26 | (injection eo26 with f1_ f2_ f3_; have f4_ := f1_.symm; have f5_ := f3_.symm; clear f1_ f2_ f3_; subst f4_; subst f5_))
  refine hK.out _ _ ⟨(blk_cell BK28012.out 0).trans rfl, (blk_cell BK28012.out 1).trans rfl, (blk_cell BK28012.out 2).trans rfl, (blk_cell BK28012.out 3).trans rfl⟩ (fun hHeld => ?_)
  clear hK K
  refine norm_ (a' := ?_) ?_ ?_
  rotate_left
  · show Act.put _ (some 24) _ = _
    simp only [Act.put, List.setIfInBounds_toArray, List.set_cons_zero, List.set_cons_succ, i64_w, i32_w]
    rfl
  refine one_ (i := 5) (N := some 25) #[true, true, true, true, true, true, false, false, false, false] rfl rfl (one_of HT_.out (by kernel_rfl)) (by decide) (fun K hK => ?_)
  refine goes_ Try.func73 (by kernel_rfl) rfl #[.pointer (some ⟨g28004, 0, none⟩), .slice Ao26 y28023.length co26] (by rfl) rfl rfl (by (try simp only [List.map_toArray, List.map_cons, List.map_nil]); first | done | rfl | (simp only [List.length_drop, List.length_take]; rfl)) ?_
  with_reducible refine (spec_reader_one.calls k g28004 t28002 t28022 _ _ y28023 t28026 t28027 w _ ?side1 ?side2 ?side3 ?side4 ?side5 A6.out).mono ?_
  (case side1 => repeat (first | (with_reducible first | exact HI28004.out | apply IsS100.alloc | apply IsS100.drewN | apply IsS100.drew | apply IsS100.set_1 | refine IsS100.far ?_ NB28004_28001.out _ | refine IsS100.far ?_ NB28004_28012.out _) | exact HI28004.out))
  (case side2 => repeat (first | (with_reducible first | exact HB.out | apply below_alloc | apply pw_below_drewN | apply below_drew1 | refine below_set ?_ (IsS100.ge HI28004.out) | refine below_set ?_ GE28001.out | refine below_set ?_ GE28012.out) | exact HB.out))
  (case side3 => repeat (first | exact (Kd.R_reads' HO28025.out).2.2 | (with_reducible refine Kd.C_alloc ?_ _) | (with_reducible refine Kd.C_drewN ?_ _) | (with_reducible refine Kd.C_drew ?_)))
  (case side4 => exact (Kd.R_reads' HO28025.out).2.1)
  (case side5 => exact far_slice (IsS100.own_ne HI28004.out HO28025.out (by decide)))
  rintro e w27 ⟨rfl, hi, hb, hk⟩
  refine ⟨_, rfl, ?_⟩
  have n0_ := Aside0.mk (KeepBut.blk hk (g' := gb28001) (o := .cells #[.int .i64 0, .int .i64 0, .int .i64 0, .slice none 0 0] 28 (0, 0)) (by (with_reducible repeat (first | refine blk_drewN ?_ _ | refine blk_drew ?_ | refine blk_alloc ?_ _)); exact BK28001.out) NB28001_28004.out (by simp))
  have n1_ := Aside0.mk (Kd.Q_mono (Kd.Q_keep (IsS100.apartQ (show IsS100 w _ g28004 t28002 t28022 from by repeat (first | (with_reducible first | exact HI28004.out | apply IsS100.alloc | apply IsS100.drewN | apply IsS100.drew | apply IsS100.set_1 | refine IsS100.far ?_ NB28004_28001.out _ | refine IsS100.far ?_ NB28004_28012.out _) | exact HI28004.out)) (by (with_reducible repeat (first | apply Kd.Q_alloc | apply Kd.Q_drewN | apply Kd.Q_drew)); exact HO28010.out) (by decide)) hk (fun _ h => h.2)) (fun _ h => h.1))
  have n2_ := Aside0.mk (KeepBut.blk hk (g' := gb28012) (o := .cells #[.int .i64 t28005, .int .i64 t28006, .int .i64 t28007, .slice Ao14 t28008.length co14] 28 (0, 0)) (by (with_reducible repeat (first | refine blk_drewN ?_ _ | refine blk_drew ?_ | refine blk_alloc ?_ _)); exact BK28012.out) NB28012_28004.out (by simp))
  have n3_ := Aside0.mk (Kd.R_mono (Kd.R_keep (IsS100.apart (show IsS100 w _ g28004 t28002 t28022 from by repeat (first | (with_reducible first | exact HI28004.out | apply IsS100.alloc | apply IsS100.drewN | apply IsS100.drew | apply IsS100.set_1 | refine IsS100.far ?_ NB28004_28001.out _ | refine IsS100.far ?_ NB28004_28012.out _) | exact HI28004.out)) (by (with_reducible repeat (first | apply Kd.R_alloc | apply Kd.R_drewN | apply Kd.R_drew)); exact HO28015.out) (by decide)) hk (fun _ h => h.2)) (fun _ h => h.1))
  have n4_ := Aside0.mk (Kd.R_mono (Kd.R_keep (IsS100.apart (show IsS100 w _ g28004 t28002 t28022 from by repeat (first | (with_reducible first | exact HI28004.out | apply IsS100.alloc | apply IsS100.drewN | apply IsS100.drew | apply IsS100.set_1 | refine IsS100.far ?_ NB28004_28001.out _ | refine IsS100.far ?_ NB28004_28012.out _) | exact HI28004.out)) (by (with_reducible repeat (first | apply Kd.R_alloc | apply Kd.R_drewN | apply Kd.R_drew)); exact HO28020.out) (by decide)) hk (fun _ h => h.2)) (fun _ h => h.1))
  have n5_ := Aside0.mk (Kd.R_mono (Kd.R_keep (IsS100.apart (show IsS100 w _ g28004 t28002 t28022 from by repeat (first | (with_reducible first | exact HI28004.out | apply IsS100.alloc | apply IsS100.drewN | apply IsS100.drew | apply IsS100.set_1 | refine IsS100.far ?_ NB28004_28001.out _ | refine IsS100.far ?_ NB28004_28012.out _) | exact HI28004.out)) (by (with_reducible repeat (first | apply Kd.R_alloc | apply Kd.R_drewN | apply Kd.R_drew)); exact HO28025.out) (by decide)) hk (fun _ h => h.2)) (fun _ h => h.1))
  have n6_ := Aside0.mk (hb)
  have n7_ := Aside0.mk (hi)
  clear BK28001
  clear HO28010
  clear BK28012
  clear HO28015
  clear HO28020
  clear HO28025
  clear HB
  clear HI28004
  have BK28001 := n0_
  have HO28010 := n1_
  have BK28012 := n2_
  have HO28015 := n3_
  have HO28020 := n4_
  have HO28025 := n5_
  have HB := n6_
  have HI28004 := n7_
  clear n0_ n1_ n2_ n3_ n4_ n5_ n6_ n7_
  (try clear hb)
  (try clear hb2)
  (try clear hk)
  (try clear hi)
  refine hK.out _ _ ⟨(blk_cell BK28012.out 0).trans rfl, (blk_cell BK28012.out 1).trans rfl, (blk_cell BK28012.out 2).trans rfl, (blk_cell BK28012.out 3).trans rfl⟩ (fun hHeld => ?_)
  clear hK K
  refine norm_ (a' := ?_) ?_ ?_
  rotate_left
  · show Act.put _ (some 25) _ = _
    simp only [Act.put, List.setIfInBounds_toArray, List.set_cons_zero, List.set_cons_succ, i64_w, i32_w]
    rfl
  refine one_ (i := 6) (N := none) #[true, true, true, true, true, true, true, false, false, false] rfl rfl (one_of HT_.out (by kernel_rfl)) (by decide) (fun K hK => ?_)
  have hs28 : w27.cell? ⟨gb28001, 0, none⟩ = some (.int .i64 0) := (blk_cell BK28001.out 0).trans rfl
  have hfs28 := blk_frozen BK28001.out 0
  have hns28_1 := NB28012_28001.out
  have hms28_1 := NB28001_28012.out
  have hs29 : w27.cell? ⟨gb28001, 1, none⟩ = some (.int .i64 0) := (blk_cell BK28001.out 1).trans rfl
  have hfs29 := blk_frozen BK28001.out 1
  have hns29_1 := NB28012_28001.out
  have hms29_1 := NB28001_28012.out
  have hs30 : w27.cell? ⟨gb28001, 2, none⟩ = some (.int .i64 0) := (blk_cell BK28001.out 2).trans rfl
  have hfs30 := blk_frozen BK28001.out 2
  have hns30_1 := NB28012_28001.out
  have hms30_1 := NB28001_28012.out
  have hs31 : w27.cell? ⟨gb28001, 3, none⟩ = some (.slice none 0 0) := (blk_cell BK28001.out 3).trans rfl
  have hfs31 := blk_frozen BK28001.out 3
  have hns31_1 := NB28012_28001.out
  have hms31_1 := NB28001_28012.out
  refine skip_ (w1 := ?_) (by rfl) rfl ?_ ?_
  rotate_left
  · go_simp
    rfl
  refine hK.out _ _ ⟨((cell_far (p := ⟨gb28001, _, none⟩) NB28012_28001.out _).trans (((cell_far (p := ⟨gb28001, _, none⟩) NB28012_28001.out _).trans (((cell_far (p := ⟨gb28001, _, none⟩) NB28012_28001.out _).trans (((cell_far (p := ⟨gb28001, _, none⟩) NB28012_28001.out _).trans (hHeld.1)))))))), ((cell_far (p := ⟨gb28001, _, none⟩) NB28012_28001.out _).trans (((cell_far (p := ⟨gb28001, _, none⟩) NB28012_28001.out _).trans (((cell_far (p := ⟨gb28001, _, none⟩) NB28012_28001.out _).trans (((cell_far (p := ⟨gb28001, _, none⟩) NB28012_28001.out _).trans (hHeld.2.1)))))))), ((cell_far (p := ⟨gb28001, _, none⟩) NB28012_28001.out _).trans (((cell_far (p := ⟨gb28001, _, none⟩) NB28012_28001.out _).trans (((cell_far (p := ⟨gb28001, _, none⟩) NB28012_28001.out _).trans (((cell_far (p := ⟨gb28001, _, none⟩) NB28012_28001.out _).trans (hHeld.2.2.1)))))))), ((cell_far (p := ⟨gb28001, _, none⟩) NB28012_28001.out _).trans (((cell_far (p := ⟨gb28001, _, none⟩) NB28012_28001.out _).trans (((cell_far (p := ⟨gb28001, _, none⟩) NB28012_28001.out _).trans (((cell_far (p := ⟨gb28001, _, none⟩) NB28012_28001.out _).trans (hHeld.2.2.2))))))))⟩ (fun hHeld => ?_)
  clear hK K
  refine pure_ (i := 7) (N := some 3) (v := ?_) (a' := ?_) #[true, true, true, true, true, true, true, true, false, false] rfl rfl (any_of HT_.out (by kernel_rfl)) (fun _ _ _ h => h) (Or.inl ⟨by rfl, ?_⟩) ?_ ?_
  rotate_left
  · intro w'
    go_simp
    with_reducible rfl
  rotate_left
  · simp only [Act.put, List.setIfInBounds_toArray, List.set_cons_zero, List.set_cons_succ, i64_w, i32_w]
    rfl
  refine pure_ (i := 8) (N := some 4) (v := ?_) (a' := ?_) #[true, true, true, true, true, true, true, true, true, false] rfl rfl (any_of HT_.out (by kernel_rfl)) (fun _ _ _ h => h) (Or.inl ⟨by rfl, ?_⟩) ?_ ?_
  rotate_left
  · intro w'
    go_simp
    with_reducible rfl
  rotate_left
  · simp only [Act.put, List.setIfInBounds_toArray, List.set_cons_zero, List.set_cons_succ, i64_w, i32_w]
    rfl
  refine pure_ (i := 9) (N := some 5) (v := ?_) (a' := ?_) #[true, true, true, true, true, true, true, true, true, true] rfl rfl (any_of HT_.out (by kernel_rfl)) (fun _ _ _ h => h) (Or.inl ⟨by rfl, ?_⟩) ?_ ?_
  rotate_left
  · intro w'
    go_simp
    with_reducible rfl
  rotate_left
  · simp only [Act.put, List.setIfInBounds_toArray, List.set_cons_zero, List.set_cons_succ, i64_w, i32_w]
    rfl
  refine done_ (done_of HT_.out (by kernel_rfl)) ?_
  try go_wp2
  refine bodyPost_ret (results_list (rs := [.cell 2 28, .tmp 3, .tmp 4, .tmp 5]) rfl (by simp) (.cell gb28001 28 #[.int .i64 t28005, .int .i64 t28006, .int .i64 t28007, .slice Ao14 t28008.length co14] (0, 0) _ rfl (by (with_reducible repeat (first | refine blk_drewN ?_ _ | refine blk_drew ?_ | refine blk_alloc ?_ _)); refine blk_put (cs := #[.int .i64 t28005, .int .i64 t28006, .int .i64 t28007, .slice none 0 0]) ?_ 3 _ rfl; (with_reducible repeat (first | refine blk_drewN ?_ _ | refine blk_drew ?_ | refine blk_alloc ?_ _)); refine blk_put (cs := #[.int .i64 t28005, .int .i64 t28006, .int .i64 0, .slice none 0 0]) ?_ 2 _ rfl; (with_reducible repeat (first | refine blk_drewN ?_ _ | refine blk_drew ?_ | refine blk_alloc ?_ _)); refine blk_put (cs := #[.int .i64 t28005, .int .i64 0, .int .i64 0, .slice none 0 0]) ?_ 1 _ rfl; (with_reducible repeat (first | refine blk_drewN ?_ _ | refine blk_drew ?_ | refine blk_alloc ?_ _)); refine blk_put (cs := #[.int .i64 0, .int .i64 0, .int .i64 0, .slice none 0 0]) ?_ 0 _ rfl; (with_reducible repeat (first | refine blk_drewN ?_ _ | refine blk_drew ?_ | refine blk_alloc ?_ _)); exact BK28001.out) Try.underlying28 rfl (by kernel_rfl) (.tmp (.tmp (.tmp .nil))))) rfl ?_
  exact ⟨_, by first | rfl | (simp [errW_none, errW_some] <;> rfl) | (simp [*, errW_none, errW_some] <;> rfl), by (with_reducible repeat (first | apply Kd.Q_alloc | apply Kd.Q_drewN | apply Kd.Q_drew)); exact Kd.Q_mono (Kd.Q_far (p := ⟨gb28001, 3, none⟩) (Kd.Q_far (p := ⟨gb28001, 2, none⟩) (Kd.Q_far (p := ⟨gb28001, 1, none⟩) (Kd.Q_far (p := ⟨gb28001, 0, none⟩) (Kd.Q_types HO28010.out BK28001.out (by decide)) (fun _ hk => hk.2) (.int .i64 t28005)) (fun _ hk => hk.2) (.int .i64 t28006)) (fun _ hk => hk.2) (.int .i64 t28007)) (fun _ hk => hk.2) (.slice Ao14 t28008.length co14)) (fun _ hk => trivial), by repeat (first | (with_reducible first | exact HB.out | apply below_alloc | apply pw_below_drewN | apply below_drew1 | refine below_set ?_ (IsS100.ge HI28004.out) | refine below_set ?_ GE28001.out | refine below_set ?_ GE28012.out) | exact HB.out)⟩

end Go.Proofs.Ytbgohbinonkhfaa.Q

/- impl.CombineRegions: the runs of the grid of the pixels for which a rule holds for two regions. -/
namespace Go.Proofs.Ytbgohbinonkhfaa.Q
open Go.RowKit Go.Proofs.YtbgohbinonkhfaaW.PrintWords Go.Proofs.YtbgohbinonkhfaaW.PrintLast Go.Proofs.YtbgohbinonkhfaaW.PrintMore
attribute [local go_sem] max2_int min2_int max_two min_two max_three min_three max_four min_four
set_option linter.unusedVariables false
set_option linter.unusedSimpArgs false
open Go.Proofs.Ytbgohbinonkhfaa.Pure

/-- the rule of a kind -/
def combB (k : Int) (p q : Bool) : Bool := if k = 0 then p || q else if k = 1 then p && q else if k = 2 then p && !q else p != q
def combG (k : Int) (g1 g2 : Nat → Bool) (x y : Nat) : Bool := combB k (g1 (y * 16 + x)) (g2 (y * 16 + x))
def impl_CombineRegions.f (l0 l1 : List S47) (k : Int) : Option (List S47 × Bool) :=
  some (if (validR l0 && validR l1 && decide (0 ≤ k ∧ k ≤ 3)) = true then (runsL (gso (combG k (gridF l0) (gridF l1)) 256), true) else ([], false))

set_option maxHeartbeats 800000 in
set_option maxRecDepth 100000 in
theorem comb_calls (g1 g2 : Nat → Bool) (k : Int) (hk : 0 ≤ k ∧ k ≤ 3) (x y : Nat) (hx : x < 16) (hy : y < 16) (B1 B2 B3 : Nat) (w : World)
    (h1 : GridAt w B1 g1) (h2 : GridAt w B2 g2) (h3 : w.heap[B3]? = some (.cells #[.int .i64 k] 3 (0, 0))) :
    Calls Try.prog 102 #[.int .i64 (x : Int), .int .i64 (y : Int), .pointer (some ⟨B1, 0, none⟩), .pointer (some ⟨B2, 0, none⟩), .pointer (some ⟨B3, 0, none⟩)] w fun e w' => e = .returned (.bool (combG k g1 g2 x y)) ∧ Below w.heap.size w w' := by
  have c1 := h1.cell (y * 16 + x) (by omega)
  have c2 := h2.cell (y * 16 + x) (by omega)
  have c3 : w.cell? ⟨B3, 0, none⟩ = some (.int .i64 k) := (blk_cell h3 0).trans rfl
  clear h1 h2 h3
  obtain rfl | rfl | rfl | rfl : k = 0 ∨ k = 1 ∨ k = 2 ∨ k = 3 := by omega
  all_goals clear hk
  all_goals
    cases hp : g1 (y * 16 + x) <;> cases hq : g2 (y * 16 + x) <;> rw [hp] at c1 <;> rw [hq] at c2
  all_goals
    have HE := Aside0.mk (show ∀ k, combG k g1 g2 x y = combB k (g1 (y * 16 + x)) (g2 (y * 16 + x)) from fun _ => rfl)
    rw [hp, hq] at HE
    clear hp hq
    go_enter Try.func102, Try.ntmps102
    go_wp2
    go_quiet (fail)
    go_wp2
    go_ret
    exact ⟨by rw [HE.out]; rfl, pw_below_drewN (Below.refl _ _) _⟩

theorem setRow_keep' {W : World} {k g : Nat} {o : Obj} (h : W.heap[k]? = some o) (cs : Array Value) (hk : k ≠ g) : (W.setRow g cs).heap[k]? = some o := (setRow_other W g k cs hk).trans h

set_option maxHeartbeats 800000 in
set_option maxRecDepth 100000 in
theorem impl_CombineRegions.calls (A0 : Option Addr) (c0 : Nat) (l0 : List S47) (A1 : Option Addr) (c1 : Nat) (l1 : List S47) (a2 : Int) (r1 : List S47) (r2 : Bool) (w : World) (hr0 : Kd.C k47 w A0 l0.length l0) (hc0 : l0.length ≤ c0) (hr1 : Kd.C k47 w A1 l1.length l1) (hc1 : l1.length ≤ c1) (h : impl_CombineRegions.f l0 l1 a2 = some (r1, r2)) :
    Calls Try.prog 74 #[.slice A0 l0.length c0, .slice A1 l1.length c1, .int .i64 a2] w fun e w' => ∃ v0_ : Value, e = .returned (.tuple #[v0_, .bool r2]) ∧ Kd.R k47 47 w' w.heap.size (fun _ => True) v0_ r1 ∧ Below w.heap.size w w' := by
  have h' := Option.some.inj h
  clear h
  have HB0 := Aside0.mk (below_alloc (Below.refl w.heap.size w) (.cells #[.int .i64 a2] 3))
  have HK := Aside0.mk (blk_new w (.cells #[.int .i64 a2] 3))
  have HR0 := Aside0.mk (Kd.C_below hr0 HB0.out)
  have HR1 := Aside0.mk (Kd.C_below hr1 HB0.out)
  have HC0 := Aside0.mk (fun W (hb : Below (w.alloc (.cells #[.int .i64 a2] 3)).heap.size (w.alloc (.cells #[.int .i64 a2] 3)) W) => impl_isRegion.calls (2 * l0.length + 2) A0 c0 l0 (validR l0) W (Kd.C_below HR0.out hb) hc0 (impl_isRegion_eq l0 hr0.2.1 _ (by omega)))
  have HC1 := Aside0.mk (fun W (hb : Below (w.alloc (.cells #[.int .i64 a2] 3)).heap.size (w.alloc (.cells #[.int .i64 a2] 3)) W) => impl_isRegion.calls (2 * l1.length + 2) A1 c1 l1 (validR l1) W (Kd.C_below HR1.out hb) hc1 (impl_isRegion_eq l1 hr1.2.1 _ (by omega)))
  have q0 := (blk_cell HK.out 0).trans (show (#[.int .i64 a2] : Array Value)[0]? = some (.int .i64 a2) from rfl)
  clear hr0 hr1
  by_cases hv0 : validR l0 = true
  · by_cases hv1 : validR l1 = true
    · by_cases hk : 0 ≤ a2 ∧ a2 ≤ 3
      · have HV0 := Aside0.mk (valid_ranges hv0)
        have HV1 := Aside0.mk (valid_ranges hv1)
        rw [hv0, hv1, decide_eq_true hk, if_pos (by rfl)] at h'
        obtain ⟨rfl, rfl⟩ := Prod.mk.inj h'
        clear h'
        rw [hv0] at HC0
        rw [hv1] at HC1
        clear hv0 hv1
        have d1 : decide (a2 < 0) = false := by simp; omega
        have d2 : decide (3 < a2) = false := by simp; omega
        have HH := Aside0.mk hk
        clear hk
        have z0 := zero66
        have HSZ := Aside0.mk (fun g : Nat → Bool => show (gc fun _ => false).size = (gc g).size by rw [gc_size, gc_size])
        have HO := Aside0.mk (fun g : Nat → Bool => gc_one g)
        have HI := Aside0.mk (fun g : Nat → Bool => show (Try.prog.info? 75).map (·.size) = some (gc g).size by rw [gc_size]; exact info66)
        go_enter Try.func74, Try.ntmps74
        go_wp2_with (first
          | (go_at_call 56; (with_reducible refine (HC0.out _ (Below.refl _ _)).mono ?_); rintro e w1 ⟨rfl, hb1⟩; have HB1 := Aside0.mk hb1; clear hb1)
          | (go_at_call 56; (with_reducible refine (HC1.out w1 HB1.out).mono ?_); rintro e w2 ⟨rfl, hb2⟩; have HB2 := Aside0.mk (below_then HB1.out HB1.out.size hb2); clear hb2; have q2 : w2.cell? ⟨w.heap.size, 0, none⟩ = some (.int .i64 a2) := (blk_cell (blk_below HK.out HB2.out) 0).trans rfl)
          | (go_at_call 57; (with_reducible refine (gridOf_calls _ _ l0 w2 (Kd.C_below HR0.out HB2.out) HV0.out).mono ?_); rintro e w3 ⟨rfl, hb3⟩; have HB3 := Aside0.mk (below_then HB2.out HB2.out.size hb3); clear hb3)
          | (go_at_call 57; (with_reducible refine (gridOf_calls _ _ l1 w3 (Kd.C_below HR1.out HB3.out) HV1.out).mono ?_); rintro e w4 ⟨rfl, hb4⟩; have HB4 := Aside0.mk (below_then HB3.out HB3.out.size hb4); clear hb4;
              have HK4 := Aside0.mk (setRow_keep' (setRow_keep' (blk_alloc (blk_alloc (blk_below HK.out HB4.out) (.cells (gc fun _ => false) 75)) (.cells (gc fun _ => false) 75)) (gc (gridF l0)) (show w.heap.size ≠ w4.heap.size by have := HB4.out.size; simp only [World.size_alloc] at this; omega)) (gc (gridF l1)) (show w.heap.size ≠ w4.heap.size + 1 by have := HB4.out.size; simp only [World.size_alloc] at this; omega));
              have HA4 : Aside0 (((w4.alloc (.cells (gc fun _ => false) 75)).alloc (.cells (gc fun _ => false) 75)).heap[w4.heap.size]? = some (.cells (gc fun _ => false) 75 (0, 0))) := Aside0.mk (blk_alloc (blk_new w4 (.cells (gc fun _ => false) 75)) (.cells (gc fun _ => false) 75));
              have HA5 : Aside0 ((((w4.alloc (.cells (gc fun _ => false) 75)).alloc (.cells (gc fun _ => false) 75)).setRow w4.heap.size (gc (gridF l0))).heap[w4.heap.size + 1]? = some (.cells (gc fun _ => false) 75 (0, 0))) := Aside0.mk (setRow_keep' (by have h := blk_new (w4.alloc (.cells (gc fun _ => false) 75)) (.cells (gc fun _ => false) 75); simp only [World.size_alloc] at h; exact h) (gc (gridF l0)) (by omega));
              have HG1 : Aside0 (GridAt ((((w4.alloc (.cells (gc fun _ => false) 75)).alloc (.cells (gc fun _ => false) 75)).setRow w4.heap.size (gc (gridF l0))).setRow (w4.heap.size + 1) (gc (gridF l1))) w4.heap.size (gridF l0)) := Aside0.mk (setRow_keep' (GridAt.setRow (g := fun _ => false) HA4.out (gridF l0)) (gc (gridF l1)) (by omega));
              have HG2 : Aside0 (GridAt ((((w4.alloc (.cells (gc fun _ => false) 75)).alloc (.cells (gc fun _ => false) 75)).setRow w4.heap.size (gc (gridF l0))).setRow (w4.heap.size + 1) (gc (gridF l1))) (w4.heap.size + 1) (gridF l1)) := Aside0.mk (GridAt.setRow (g := fun _ => false) HA5.out (gridF l1));
              have HB5 := Aside0.mk (below_setRow (below_setRow (below_alloc (below_alloc (below_then HB0.out HB0.out.size HB4.out) (.cells (gc fun _ => false) 75)) (.cells (gc fun _ => false) 75)) (show w.heap.size ≤ w4.heap.size from (below_then HB0.out HB0.out.size HB4.out).size) (gc (gridF l0))) (show w.heap.size ≤ w4.heap.size + 1 from Nat.le_succ_of_le (below_then HB0.out HB0.out.size HB4.out).size) (gc (gridF l1))))
          | ((with_reducible refine wpList_store_row rfl 75 (.tmp 8) (.tmp 27) rfl w4.heap.size (gc (gridF l0)) ?hx ?hy 75 (gc fun _ => false) HA4.out (HI.out _) (HSZ.out _) (HO.out _) ?_); (case hx => rfl); (case hy => rfl))
          | ((with_reducible refine wpList_store_row rfl 75 (.tmp 9) (.tmp 29) rfl (w4.heap.size + 1) (gc (gridF l1)) ?hx ?hy 75 (gc fun _ => false) HA5.out (HI.out _) (HSZ.out _) (HO.out _) ?_); (case hx => rfl); (case hy => rfl))
          | (go_at_call 67; refine (gridBy_calls 102 #[.pointer (some ⟨w4.heap.size, 0, none⟩), .pointer (some ⟨w4.heap.size + 1, 0, none⟩), .pointer (some ⟨w.heap.size, 0, none⟩)] (combG a2 (gridF l0) (gridF l1)) ((((w4.alloc (.cells (gc fun _ => false) 75)).alloc (.cells (gc fun _ => false) 75)).setRow w4.heap.size (gc (gridF l0))).setRow (w4.heap.size + 1) (gc (gridF l1))) (enters_of Try.func102 (by kernel_rfl) rfl) (fun W x y hx hy hW => comb_calls (gridF l0) (gridF l1) a2 HH.out x y hx hy _ _ _ W (HG1.out.below hW) (HG2.out.below hW) (blk_below HK4.out hW))).mono ?_; rintro e w5 ⟨rfl, hb5⟩; have HB6 := Aside0.mk (below_then HB5.out HB5.out.size hb5); clear hb5)
          | (go_at_call 71; refine (runs_calls _ _).mono ?_; rintro e w6 ⟨v6, rfl, hr6, hb6⟩; have HR6 := Aside0.mk (Kd.R_lower hr6 HB6.out.size); have HB7 := Aside0.mk (below_then HB6.out HB6.out.size hb6); clear hb6 hr6))
        go_ret2
        exact ⟨v6, rfl, HR6.out, HB7.out⟩
      · rw [hv0, hv1, decide_eq_false hk, if_neg (by decide)] at h'
        obtain ⟨rfl, rfl⟩ := Prod.mk.inj h'
        clear h'
        rw [hv0] at HC0
        rw [hv1] at HC1
        clear hv0 hv1
        by_cases hk0 : a2 < 0
        · have d1 : decide (a2 < 0) = true := by simp; omega
          clear hk hk0
          go_enter Try.func74, Try.ntmps74
          go_wp2_with (first
            | (go_at_call 56; (with_reducible refine (HC0.out _ (Below.refl _ _)).mono ?_); rintro e w1 ⟨rfl, hb1⟩; have HB1 := Aside0.mk hb1; clear hb1)
            | (go_at_call 56; (with_reducible refine (HC1.out w1 HB1.out).mono ?_); rintro e w2 ⟨rfl, hb2⟩; have HB2 := Aside0.mk (below_then HB1.out HB1.out.size hb2); clear hb2; have q2 : w2.cell? ⟨w.heap.size, 0, none⟩ = some (.int .i64 a2) := (blk_cell (blk_below HK.out HB2.out) 0).trans rfl))
          go_ret2
          exact ⟨_, rfl, Kd.R_nil _ _ _ _ _, below_then HB0.out HB0.out.size HB2.out⟩
        · have d1 : decide (a2 < 0) = false := by simp; omega
          have d2 : decide (3 < a2) = true := by simp; omega
          clear hk hk0
          go_enter Try.func74, Try.ntmps74
          go_wp2_with (first
            | (go_at_call 56; (with_reducible refine (HC0.out _ (Below.refl _ _)).mono ?_); rintro e w1 ⟨rfl, hb1⟩; have HB1 := Aside0.mk hb1; clear hb1)
            | (go_at_call 56; (with_reducible refine (HC1.out w1 HB1.out).mono ?_); rintro e w2 ⟨rfl, hb2⟩; have HB2 := Aside0.mk (below_then HB1.out HB1.out.size hb2); clear hb2; have q2 : w2.cell? ⟨w.heap.size, 0, none⟩ = some (.int .i64 a2) := (blk_cell (blk_below HK.out HB2.out) 0).trans rfl))
          go_ret2
          exact ⟨_, rfl, Kd.R_nil _ _ _ _ _, below_then HB0.out HB0.out.size HB2.out⟩
    · replace hv1 : validR l1 = false := by simpa using hv1
      rw [hv0, hv1, if_neg (by simp)] at h'
      obtain ⟨rfl, rfl⟩ := Prod.mk.inj h'
      clear h'
      rw [hv0] at HC0
      rw [hv1] at HC1
      clear hv0 hv1
      go_enter Try.func74, Try.ntmps74
      go_wp2_with (first
        | (go_at_call 56; (with_reducible refine (HC0.out _ (Below.refl _ _)).mono ?_); rintro e w1 ⟨rfl, hb1⟩; have HB1 := Aside0.mk hb1; clear hb1)
        | (go_at_call 56; (with_reducible refine (HC1.out w1 HB1.out).mono ?_); rintro e w2 ⟨rfl, hb2⟩; have HB2 := Aside0.mk (below_then HB1.out HB1.out.size hb2); clear hb2; have q2 : w2.cell? ⟨w.heap.size, 0, none⟩ = some (.int .i64 a2) := (blk_cell (blk_below HK.out HB2.out) 0).trans rfl))
      go_ret2
      exact ⟨_, rfl, Kd.R_nil _ _ _ _ _, below_then HB0.out HB0.out.size HB2.out⟩
  · replace hv0 : validR l0 = false := by simpa using hv0
    rw [hv0, if_neg (by simp)] at h'
    obtain ⟨rfl, rfl⟩ := Prod.mk.inj h'
    clear h'
    rw [hv0] at HC0
    clear hv0
    go_enter Try.func74, Try.ntmps74
    go_wp2_with (first
      | (go_at_call 56; (with_reducible refine (HC0.out _ (Below.refl _ _)).mono ?_); rintro e w1 ⟨rfl, hb1⟩; have HB1 := Aside0.mk hb1; clear hb1))
    go_ret2
    exact ⟨_, rfl, Kd.R_nil _ _ _ _ _, below_then HB0.out HB0.out.size HB1.out⟩
end Go.Proofs.Ytbgohbinonkhfaa.Q

namespace Go.Proofs.Ytbgohbinonkhfaa.Q
open Go.RowKit Go.Proofs.YtbgohbinonkhfaaW.PrintWords Go.Proofs.YtbgohbinonkhfaaW.PrintLast Go.Proofs.YtbgohbinonkhfaaW.PrintMore
attribute [local go_sem] max2_int min2_int max_two min_two max_three min_three max_four min_four
set_option linter.unusedVariables false
set_option linter.unusedSimpArgs false
/-! ### laws_combined: function 28 -/
def laws_combined.f (l0 : List (S47)) (l1 : List (S47)) (a2 : Int) : Option ((List (S47))) := (impl_CombineRegions.f l0 l1 a2).bind fun bt29001 => (some bt29001.1)
set_option maxHeartbeats 8000000 in
set_option maxRecDepth 100000 in
theorem laws_combined.calls (A0 : Option Addr) (c0 : Nat) (l0 : List (S47)) (A1 : Option Addr) (c1 : Nat) (l1 : List (S47)) (a2 : Int) (r : List (S47)) (w : World) (hr0 : Kd.C k47 w A0 l0.length l0) (hc0 : l0.length ≤ c0) (hr1 : Kd.C k47 w A1 l1.length l1) (hc1 : l1.length ≤ c1) (h : laws_combined.f l0 l1 a2 = some r) :
    Calls Try.prog 28 #[.slice A0 l0.length c0, .slice A1 l1.length c1, .int .i64 a2] w fun e w' => ∃ v0_ : Value, e = .returned (v0_) ∧ Kd.R k47 47 w' w.heap.size (fun _ => True) v0_ r ∧ Below w.heap.size w w' := by
  have HR0 := Aside0.mk hr0
  have HC0 := Aside0.mk hc0
  clear hr0 hc0
  have HR1 := Aside0.mk hr1
  have HC1 := Aside0.mk hc1
  clear hr1 hc1
  have HB := Aside0.mk (Below.refl w.heap.size w)
  have H : ((impl_CombineRegions.f l0 l1 a2).bind fun bt29001 => (some bt29001.1)) = some r := h
  clear h
  replace H := Option.bind_eq_some_iff.mp H
  obtain ⟨⟨t29001, t29002⟩, A40, H⟩ := H
  replace H : (some t29001) = some r := H
  have A4 := Aside0.mk A40
  clear A40
  obtain rfl := Option.some.inj H
  go_enter Try.func28, Try.ntmps28
  go_wp2_with (first | ((with_reducible refine gate_callee (f := 74) rfl ?_); refine goesL_ (some 13) rfl rfl Try.func74 (by kernel_rfl) rfl #[.slice A0 l0.length c0, .slice A1 l1.length c1, .int .i64 a2] rfl (by (try simp only [List.map_toArray, List.map_cons, List.map_nil]); first | done | rfl | (simp only [List.length_drop, List.length_take]; rfl)) ?_; (with_reducible refine (impl_CombineRegions.calls _ _ l0 _ _ l1 a2 t29001 t29002 _ ?side1 ?side2 ?side3 ?side4 A4.out).mono ?_); (case side1 => repeat (first | exact HR0.out | (with_reducible refine Kd.C_alloc ?_ _) | (with_reducible refine Kd.C_drewN ?_ _) | (with_reducible refine Kd.C_drew ?_))); (case side2 => exact HC0.out); (case side3 => repeat (first | exact HR1.out | (with_reducible refine Kd.C_alloc ?_ _) | (with_reducible refine Kd.C_drewN ?_ _) | (with_reducible refine Kd.C_drew ?_))); (case side4 => exact HC1.out); rintro e w5 ⟨v29003, rfl, ho0, hb⟩; refine ⟨_, rfl, ?_⟩; have n0_ := Aside0.mk (Kd.R_lower ho0 (below_size (by repeat (first | (with_reducible first | exact HB.out | apply below_alloc | apply pw_below_drewN | apply below_drew1) | exact HB.out)))); have n1_ := Aside0.mk (below_step (by repeat (first | (with_reducible first | exact HB.out | apply below_alloc | apply pw_below_drewN | apply below_drew1) | exact HB.out)) hb); clear HB; have HO29004 := n0_; have HB := n1_; clear n0_ n1_; (try clear hb); (try clear hb2); (try clear hk); (try clear hi); (try clear ho0)))
  go_ret
  exact ⟨_, by first | rfl | (simp [errW_none, errW_some] <;> rfl) | (simp [*, errW_none, errW_some] <;> rfl), by (with_reducible repeat (first | apply Kd.R_alloc | apply Kd.R_drewN | apply Kd.R_drew)); exact HO29004.out, by repeat (first | (with_reducible first | exact HB.out | apply below_alloc | apply pw_below_drewN | apply below_drew1) | exact HB.out)⟩

end Go.Proofs.Ytbgohbinonkhfaa.Q

namespace Go.Proofs.Ytbgohbinonkhfaa.Q
open Go.RowKit Go.Proofs.YtbgohbinonkhfaaW.PrintWords Go.Proofs.YtbgohbinonkhfaaW.PrintLast Go.Proofs.YtbgohbinonkhfaaW.PrintMore
attribute [local go_sem] max2_int min2_int max_two min_two max_three min_three max_four min_four
set_option linter.unusedVariables false
set_option linter.unusedSimpArgs false
/-! ### impl_AreaOf: function 29 -/
def impl_AreaOf.l0 : Nat → Int → List (S47) → Int → Int → Option (Int)
  | 0, _, _, _, _ => none
  | k + 1, x3, x9, x10, x11 => if x11 < x10 then (if 0 ≤ x11 then (if x11 < (x9.length : Int) then (impl_AreaOf.l0 k (wrap64 (x3 + (wrap64 (((rd_T47 x9 x11).f2) - ((rd_T47 x9 x11).f1))))) x9 x10 (wrap64 (x11 + 1))) else (none)) else (none)) else (some x3)
def impl_AreaOf.f (k : Nat) (l0 : List (S47)) : Option (Int) := (impl_isRegion.f k l0).bind fun t30001 => (if t30001 = true then (impl_AreaOf.l0 k 0 l0 (l0.length : Int) 0) else (some (-1)))
theorem impl_AreaOf.mono_l : ∀ k, (∀ y0 y1 y2 y3, LeO (impl_AreaOf.l0 k y0 y1 y2 y3) (impl_AreaOf.l0 (k + 1) y0 y1 y2 y3))
  | 0 => fun _ _ _ _ r h => by simp [impl_AreaOf.l0] at h
  | k + 1 => by
    have ih0 := impl_AreaOf.mono_l k
    · intro y0 y1 y2 y3
      unfold impl_AreaOf.l0
      repeat' first
      | (with_reducible exact ih0 _ _ _ _)
      | (with_reducible exact impl_isRegion.mono _ _)
      | (with_reducible exact LeO.refl _)
      | (with_reducible exact LeO.none _)
      | (with_reducible refine LeO.ite ?_ ?_)
      | (with_reducible refine LeO.bind ?_ (fun _ => ?_))
      | exact ih0 _ _ _ _
      | exact impl_isRegion.mono _ _
      | exact LeO.none _
      | refine LeO.ite ?_ ?_
      | refine LeO.bind ?_ (fun _ => ?_)
theorem impl_AreaOf.mono : ∀ a0 k, LeO (impl_AreaOf.f k a0) (impl_AreaOf.f (k + 1) a0) := by
  intro a0 k
  have ih0 := impl_AreaOf.mono_l k
  unfold impl_AreaOf.f
  repeat' first
      | (with_reducible exact ih0 _ _ _ _)
      | (with_reducible exact impl_isRegion.mono _ _)
      | (with_reducible exact LeO.refl _)
      | (with_reducible exact LeO.none _)
      | (with_reducible refine LeO.ite ?_ ?_)
      | (with_reducible refine LeO.bind ?_ (fun _ => ?_))
      | exact ih0 _ _ _ _
      | exact impl_isRegion.mono _ _
      | exact LeO.none _
      | refine LeO.ite ?_ ?_
      | refine LeO.bind ?_ (fun _ => ?_)
set_option maxHeartbeats 8000000 in
set_option maxRecDepth 100000 in
theorem impl_AreaOf.calls (k : Nat) (A0 : Option Addr) (c0 : Nat) (l0 : List (S47)) (r : Int) (w : World) (hr0 : Kd.C k47 w A0 l0.length l0) (hc0 : l0.length ≤ c0) (h : impl_AreaOf.f k l0 = some r) :
    Calls Try.prog 29 #[.slice A0 l0.length c0] w fun e w' => e = .returned (.int .i64 r) ∧ Below w.heap.size w w' := by
  have hu47 := Try.underlying47
  have HR0 := Aside0.mk hr0
  have HC0 := Aside0.mk hc0
  clear hr0 hc0
  have HB := Aside0.mk (Below.refl w.heap.size w)
  have H : ((impl_isRegion.f k l0).bind fun t30001 => (if t30001 = true then (impl_AreaOf.l0 k 0 l0 (l0.length : Int) 0) else (some (-1)))) = some r := h
  clear h
  replace H := Option.bind_eq_some_iff.mp H
  obtain ⟨t30001, A20, H⟩ := H
  replace H : (if t30001 = true then (impl_AreaOf.l0 k 0 l0 (l0.length : Int) 0) else (some (-1))) = some r := H
  have A2 := Aside0.mk A20
  clear A20
  by_cases c3 : t30001 = true
  · subst c3
    have H1 : (impl_AreaOf.l0 k 0 l0 (l0.length : Int) 0) = some r := by rw [if_pos rfl] at H; exact H
    clear H
    have H := H1
    clear H1
    have H' := Aside0.mk H
    clear H
    go_enter Try.func29, Try.ntmps29
    go_wp2_with (first | ((with_reducible refine gate_callee (f := 56) rfl ?_); refine goesL_ (some 7) rfl rfl Try.func56 (by kernel_rfl) rfl #[.slice A0 l0.length c0] rfl (by (try simp only [List.map_toArray, List.map_cons, List.map_nil]); first | done | rfl | (simp only [List.length_drop, List.length_take]; rfl)) ?_; (with_reducible refine (impl_isRegion.calls k _ _ l0 true _ ?side1 ?side2 A2.out).mono ?_); (case side1 => repeat (first | exact HR0.out | (with_reducible refine Kd.C_alloc ?_ _) | (with_reducible refine Kd.C_drewN ?_ _) | (with_reducible refine Kd.C_drew ?_))); (case side2 => exact HC0.out); rintro e w4 ⟨rfl, hb⟩; refine ⟨_, rfl, ?_⟩; have n0_ := Aside0.mk (below_step (by repeat (first | (with_reducible first | exact HB.out | apply below_alloc | apply pw_below_drewN | apply below_drew1) | exact HB.out)) hb); clear HB; have HB := n0_; clear n0_; (try clear hb); (try clear hb2); (try clear hk); (try clear hi)))
    go_loopg [3, 11] k (fun kq v3 v11 w' => ∃ (x3_1 : Int) (x11_1 : Int), v3 = .int .i64 x3_1 ∧ v11 = .int .i64 x11_1 ∧ Aside0 (impl_AreaOf.l0 kq x3_1 l0 (l0.length : Int) x11_1 = some r) ∧ Aside0 (kq ≤ k) ∧ Aside0 (Below w.heap.size w w'))
    case atStart => exact ⟨(0), (0), (by first | rfl | (simp; done) | (simp [*]; done)), (by first | rfl | (simp; done) | (simp [*]; done)), H', ⟨Nat.le_refl _⟩, ⟨by repeat (first | (with_reducible first | exact HB.out | apply below_alloc | apply pw_below_drewN | apply below_drew1) | exact HB.out)⟩⟩
    case round =>
      clear H'
      try clear c2
      try clear p2
      try clear c3
      obtain ⟨x3_1, x11_1, rfl, rfl, HA, HK1, HB⟩ := hrel
      cases gk with
      | zero => exact absurd HA.out (by simp [impl_AreaOf.l0])
      | succ k1 =>
        have H := HA.out
        clear HA
        simp only [impl_AreaOf.l0] at H
        by_cases c5 : x11_1 < (l0.length : Int)
        · rw [if_pos c5] at H
          have c5b0 : decide (x11_1 < (l0.length : Int)) = true := decide_eq_true c5
          clear c5
          by_cases c6 : 0 ≤ x11_1
          · rw [if_pos c6] at H
            have c6b0 : decide (0 ≤ x11_1) = true := decide_eq_true c6
            clear c6
            by_cases c7 : x11_1 < (l0.length : Int)
            · rw [if_pos c7] at H
              have c7b0 : decide (x11_1 < (l0.length : Int)) = true := decide_eq_true c7
              clear c7
              have H' := Aside0.mk H
              clear H
              have p30002 : 0 ≤ (x11_1 : Int) := of_decide_eq_true (by first | (with_reducible assumption) | assumption)
              have q30002 : x11_1 < (l0.length : Int) := of_decide_eq_true (by first | (with_reducible assumption) | assumption)
              obtain ⟨ad30002, e30002, hx30002_0, hx30002_1, hx30002_2⟩ := at_T47 HR0.out x11_1 p30002 q30002
              cases e30002
              replace hx30002_0 := (HB.out.cell (World.block_lt_of_cell? w _ hx30002_0)).trans hx30002_0
              replace hx30002_1 := (HB.out.cell (World.block_lt_of_cell? w _ hx30002_1)).trans hx30002_1
              replace hx30002_2 := (HB.out.cell (World.block_lt_of_cell? w _ hx30002_2)).trans hx30002_2
              replace p30002 := eq_true p30002
              replace q30002 := eq_true q30002
              go_wp2_with (first | ((with_reducible refine gate_dst (N := 5) rfl ?_); refine box_event ?hg (N := 5) ?hd (cs := #[.int .i64 0, .int .i64 0, .int .i64 0]) (t := 47) ?hr ?_; (case hd => rfl); (case hg => rfl); (case hr => first | (go_simp; done) | (go_simp; rfl)); intro gb30003 hg w8 hbox hb; have n0_ := Aside0.mk (below_step (by repeat (first | (with_reducible first | exact HB.out | apply below_alloc | apply pw_below_drewN | apply below_drew1) | exact HB.out)) hb); have n1_ := Aside0.mk (hbox); have n2_ := Aside0.mk ((by rw [hg]; exact (below_size (by repeat (first | (with_reducible first | exact HB.out | apply below_alloc | apply pw_below_drewN | apply below_drew1) | exact HB.out))) : w.heap.size ≤ gb30003)); have n3_ := Aside0.mk ((by rw [hg]; exact (below_size (by repeat (first | (with_reducible first | exact HB.out | apply below_alloc | apply pw_below_drewN | apply below_drew1) | exact HB.out))) : w.heap.size ≤ gb30003)); clear HB; have HB := n0_; have BK30003 := n1_; have GW30003 := n2_; have GE30003 := n3_; clear n0_ n1_ n2_ n3_; clear hb hbox hg; have hcz9_0 : w8.cell? ⟨gb30003, 0, none⟩ = some (.int .i64 0) := (blk_cell BK30003.out 0).trans rfl; have hcz9_1 : w8.cell? ⟨gb30003, 1, none⟩ = some (.int .i64 0) := (blk_cell BK30003.out 1).trans rfl; have hcz9_2 : w8.cell? ⟨gb30003, 2, none⟩ = some (.int .i64 0) := (blk_cell BK30003.out 2).trans rfl; have hfz9_0 := blk_frozen BK30003.out 0; have hfz9_1 := blk_frozen BK30003.out 1; have hfz9_2 := blk_frozen BK30003.out 2))
              go_roundg k1
              case measure => have := HK1.out; omega
              case rel => exact ⟨(wrap64 (x3_1 + (wrap64 (((rd_T47 l0 x11_1).f2) - ((rd_T47 l0 x11_1).f1))))), (wrap64 (x11_1 + 1)), (by first | rfl | (simp; done) | (simp [*]; done)), (by first | rfl | (simp; done) | (simp [*]; done)), H', ⟨by have := HK1.out; omega⟩, ⟨by repeat (first | (with_reducible first | exact HB.out | apply below_alloc | apply pw_below_drewN | apply below_drew1 | refine below_set ?_ GE30003.out) | exact HB.out)⟩⟩
            · rw [if_neg c7] at H
              exact absurd H (by simp)
          · rw [if_neg c6] at H
            exact absurd H (by simp)
        · rw [if_neg c5] at H
          have c5b0 : decide (x11_1 < (l0.length : Int)) = false := decide_eq_false c5
          clear c5
          obtain rfl := Option.some.inj H
          go_wp2
          go_ret
          exact ⟨by first | rfl | (simp [errW_none, errW_some] <;> rfl) | (simp [*, errW_none, errW_some] <;> rfl), by repeat (first | (with_reducible first | exact HB.out | apply below_alloc | apply pw_below_drewN | apply below_drew1) | exact HB.out)⟩
  · replace c3 := Bool.eq_false_iff.mpr c3
    subst c3
    have H1 : (some (-1)) = some r := by rw [if_neg (show ¬ (false = true) by decide)] at H; exact H
    clear H
    have H := H1
    clear H1
    obtain rfl := Option.some.inj H
    go_enter Try.func29, Try.ntmps29
    go_wp2_with (first | ((with_reducible refine gate_callee (f := 56) rfl ?_); refine goesL_ (some 7) rfl rfl Try.func56 (by kernel_rfl) rfl #[.slice A0 l0.length c0] rfl (by (try simp only [List.map_toArray, List.map_cons, List.map_nil]); first | done | rfl | (simp only [List.length_drop, List.length_take]; rfl)) ?_; (with_reducible refine (impl_isRegion.calls k _ _ l0 false _ ?side1 ?side2 A2.out).mono ?_); (case side1 => repeat (first | exact HR0.out | (with_reducible refine Kd.C_alloc ?_ _) | (with_reducible refine Kd.C_drewN ?_ _) | (with_reducible refine Kd.C_drew ?_))); (case side2 => exact HC0.out); rintro e w10 ⟨rfl, hb⟩; refine ⟨_, rfl, ?_⟩; have n0_ := Aside0.mk (below_step (by repeat (first | (with_reducible first | exact HB.out | apply below_alloc | apply pw_below_drewN | apply below_drew1) | exact HB.out)) hb); clear HB; have HB := n0_; clear n0_; (try clear hb); (try clear hb2); (try clear hk); (try clear hi)))
    go_ret
    exact ⟨by first | rfl | (simp [errW_none, errW_some] <;> rfl) | (simp [*, errW_none, errW_some] <;> rfl), by repeat (first | (with_reducible first | exact HB.out | apply below_alloc | apply pw_below_drewN | apply below_drew1) | exact HB.out)⟩

end Go.Proofs.Ytbgohbinonkhfaa.Q
