/- A part of the proof that the statement FnFloodRegionSaid holds, under no condition of its own: Floods reach similar pixels: the law FnFloodRegion over lists of numbers alone. -/
import Derived.Test.YtbgohbinonkhfaaCFnFloodRegion1
import Derived.Test.YtbgohbinonkhfaaCFnFloodRegion3
import Derived.Test.YtbgohbinonkhfaaCFnFloodRegion2
namespace Go.Proofs.Ytbgohbinonkhfaa.Q
open Go.RowKit Go.Proofs.YtbgohbinonkhfaaW.PrintWords Go.Proofs.YtbgohbinonkhfaaW.PrintLast Go.Proofs.YtbgohbinonkhfaaW.PrintMore
attribute [local go_sem] max2_int min2_int max_two min_two max_three min_three max_four min_four
set_option linter.unusedVariables false
set_option linter.unusedSimpArgs false
/-! ### spec_randomImage: function 100 -/
def spec_randomImage.l0 : Nat → Int → Int → Int → List Int → Int → Int → Int → Int → List Int → Option (Int × Int × Int × List Int × Int)
  | 0, _, _, _, _, _, _, _, _, _ => none
  | k + 1, x6, x7, x8, x1000, x1001, x101019000, x101019001, x101019002, x101019003 => if x8 < (x101019003.length : Int) then (if x6 = 0 then ((spec_reader_pick.f k x1000 x1001 256).bind fun bt101023 => (if 0 ≤ x8 then (spec_randomImage.l0 k x6 bt101023.1 (wrap64 (x8 + 1)) x1000 bt101023.2 x101019000 x101019001 x101019002 (x101019003.set (x8 : Int).toNat bt101023.1)) else (none))) else (if x6 = 1 then ((spec_reader_pick.f k x1000 x1001 5).bind fun bt101026 => (if 0 ≤ x8 then (spec_randomImage.l0 k x6 (Int.tmod (wrap64 ((wrap64 (x7 + bt101026.1)) + 254)) 256) (wrap64 (x8 + 1)) x1000 bt101026.2 x101019000 x101019001 x101019002 (x101019003.set (x8 : Int).toNat (Int.tmod (wrap64 ((wrap64 (x7 + bt101026.1)) + 254)) 256))) else (none))) else (if x6 = 2 then ((spec_reader_pick.f k x1000 x1001 4).bind fun bt101029 => (if 0 ≤ x8 then (spec_randomImage.l0 k x6 (wrap64 (60 * bt101029.1)) (wrap64 (x8 + 1)) x1000 bt101029.2 x101019000 x101019001 x101019002 (x101019003.set (x8 : Int).toNat (wrap64 (60 * bt101029.1)))) else (none))) else (if 0 ≤ x8 then (spec_randomImage.l0 k x6 x7 (wrap64 (x8 + 1)) x1000 x1001 x101019000 x101019001 x101019002 (x101019003.set (x8 : Int).toNat x7)) else (none))))) else (some (x101019000, x101019001, x101019002, x101019003, x1001))
def spec_randomImage.f (k : Nat) (s0_0 : List Int) (s0_1 : Int) (a1 : Int) : Option (Int × Int × Int × List Int × Int) := (spec_reader_one.f k s0_0 s0_1 (([3, 4, 2, 5, 1, 8, 6] : List Int))).bind fun bt101005 => ((spec_reader_one.f k s0_0 bt101005.2 (([3, 2, 4, 1, 5, 8] : List Int))).bind fun bt101010 => ((spec_newImage.f bt101005.1 bt101010.1 a1).bind fun bt101012 => ((spec_reader_pick.f k s0_0 bt101010.2 4).bind fun bt101019 => ((spec_reader_pick.f k s0_0 bt101019.2 256).bind fun bt101021 => (spec_randomImage.l0 k bt101019.1 bt101021.1 0 s0_0 bt101021.2 bt101012.1 bt101012.2.1 bt101012.2.2.1 bt101012.2.2.2)))))
theorem spec_randomImage.mono_l : ∀ k, (∀ y0 y1 y2 y3 y4 y5 y6 y7 y8, LeO (spec_randomImage.l0 k y0 y1 y2 y3 y4 y5 y6 y7 y8) (spec_randomImage.l0 (k + 1) y0 y1 y2 y3 y4 y5 y6 y7 y8))
  | 0 => fun _ _ _ _ _ _ _ _ _ r h => by simp [spec_randomImage.l0] at h
  | k + 1 => by
    have ih0 := spec_randomImage.mono_l k
    · intro y0 y1 y2 y3 y4 y5 y6 y7 y8
      unfold spec_randomImage.l0
      repeat' first
      | (with_reducible exact ih0 _ _ _ _ _ _ _ _ _)
      | (with_reducible exact spec_reader_one.mono _ _ _ _)
      | (with_reducible exact spec_reader_pick.mono _ _ _ _)
      | (with_reducible exact LeO.refl _)
      | (with_reducible exact LeO.none _)
      | (with_reducible refine LeO.ite ?_ ?_)
      | (with_reducible refine LeO.bind ?_ (fun _ => ?_))
      | exact ih0 _ _ _ _ _ _ _ _ _
      | exact spec_reader_one.mono _ _ _ _
      | exact spec_reader_pick.mono _ _ _ _
      | exact LeO.none _
      | refine LeO.ite ?_ ?_
      | refine LeO.bind ?_ (fun _ => ?_)
theorem spec_randomImage.mono : ∀ a0 a1 a2 k, LeO (spec_randomImage.f k a0 a1 a2) (spec_randomImage.f (k + 1) a0 a1 a2) := by
  intro a0 a1 a2 k
  have ih0 := spec_randomImage.mono_l k
  unfold spec_randomImage.f
  repeat' first
      | (with_reducible exact ih0 _ _ _ _ _ _ _ _ _)
      | (with_reducible exact spec_reader_one.mono _ _ _ _)
      | (with_reducible exact spec_reader_pick.mono _ _ _ _)
      | (with_reducible exact LeO.refl _)
      | (with_reducible exact LeO.none _)
      | (with_reducible refine LeO.ite ?_ ?_)
      | (with_reducible refine LeO.bind ?_ (fun _ => ?_))
      | exact ih0 _ _ _ _ _ _ _ _ _
      | exact spec_reader_one.mono _ _ _ _
      | exact spec_reader_pick.mono _ _ _ _
      | exact LeO.none _
      | refine LeO.ite ?_ ?_
      | refine LeO.bind ?_ (fun _ => ?_)
set_option maxHeartbeats 8000000 in
set_option maxRecDepth 100000 in
theorem spec_randomImage.calls (k : Nat) (g : Nat) (s0_0 : List Int) (s0_1 : Int) (a1 : Int) (r1 : Int) (r2 : Int) (r3 : Int) (r4 : List Int) (r5 : Int) (w0 w : World) (hI : IsS100 w0 w g s0_0 s0_1) (hB : Below w0.heap.size w0 w) (h : spec_randomImage.f k s0_0 s0_1 a1 = some (r1, r2, r3, r4, r5)) :
    Calls Try.prog 100 #[.pointer (some ⟨g, 0, none⟩), .int .i64 a1] w fun e w' => ∃ v3_ : Value, e = .returned (.agg #[.int .i64 r1, .int .i64 r2, .int .i64 r3, v3_]) ∧ Kd.R (Kd.int .i64) 3 w' w.heap.size (fun _ => True) v3_ r4 ∧ IsS100 w0 w' g s0_0 r5 ∧ Below w0.heap.size w0 w' ∧ KeepBut w w' g none := by
  have hu28 := Try.underlying28
  have HI0 := Aside0.mk hI
  have HK := Aside0.mk (KeepBut.refl w g none)
  have HL := Aside0.mk hB.size
  clear hI
  have HW0 := Aside0.mk hB.size
  have HB := Aside0.mk hB
  clear hB
  have H : ((spec_reader_one.f k s0_0 s0_1 (([3, 4, 2, 5, 1, 8, 6] : List Int))).bind fun bt101005 => ((spec_reader_one.f k s0_0 bt101005.2 (([3, 2, 4, 1, 5, 8] : List Int))).bind fun bt101010 => ((spec_newImage.f bt101005.1 bt101010.1 a1).bind fun bt101012 => ((spec_reader_pick.f k s0_0 bt101010.2 4).bind fun bt101019 => ((spec_reader_pick.f k s0_0 bt101019.2 256).bind fun bt101021 => (spec_randomImage.l0 k bt101019.1 bt101021.1 0 s0_0 bt101021.2 bt101012.1 bt101012.2.1 bt101012.2.2.1 bt101012.2.2.2)))))) = some (r1, r2, r3, r4, r5) := h
  clear h
  obtain ⟨y101002, hy101002⟩ : ∃ y_ : List Int, y_ = (([3, 4, 2, 5, 1, 8, 6] : List Int)) := ⟨_, rfl⟩
  replace H : ((spec_reader_one.f k s0_0 s0_1 y101002).bind fun bt101005 => ((spec_reader_one.f k s0_0 bt101005.2 (([3, 2, 4, 1, 5, 8] : List Int))).bind fun bt101010 => ((spec_newImage.f bt101005.1 bt101010.1 a1).bind fun bt101012 => ((spec_reader_pick.f k s0_0 bt101010.2 4).bind fun bt101019 => ((spec_reader_pick.f k s0_0 bt101019.2 256).bind fun bt101021 => (spec_randomImage.l0 k bt101019.1 bt101021.1 0 s0_0 bt101021.2 bt101012.1 bt101012.2.1 bt101012.2.2.1 bt101012.2.2.2)))))) = some (r1, r2, r3, r4, r5) := by first | (rw [hy101002]; with_reducible exact H) | (have H2_ := (Option.bind_some _ _).symm.trans H; rw [hy101002]; with_reducible exact H2_) | (have H2_ := (Option.bind_some _ _).symm.trans H; with_reducible exact H2_) | with_reducible exact H | (rw [hy101002]; exact H) | exact H
  have Ny101002 := Aside0.mk hy101002
  clear hy101002
  replace H := Option.bind_eq_some_iff.mp H
  obtain ⟨⟨t101005, t101006⟩, A30, H⟩ := H
  replace H : ((spec_reader_one.f k s0_0 t101006 (([3, 2, 4, 1, 5, 8] : List Int))).bind fun bt101010 => ((spec_newImage.f t101005 bt101010.1 a1).bind fun bt101012 => ((spec_reader_pick.f k s0_0 bt101010.2 4).bind fun bt101019 => ((spec_reader_pick.f k s0_0 bt101019.2 256).bind fun bt101021 => (spec_randomImage.l0 k bt101019.1 bt101021.1 0 s0_0 bt101021.2 bt101012.1 bt101012.2.1 bt101012.2.2.1 bt101012.2.2.2))))) = some (r1, r2, r3, r4, r5) := H
  have A3 := Aside0.mk A30
  clear A30
  obtain ⟨y101007, hy101007⟩ : ∃ y_ : List Int, y_ = (([3, 2, 4, 1, 5, 8] : List Int)) := ⟨_, rfl⟩
  replace H : ((spec_reader_one.f k s0_0 t101006 y101007).bind fun bt101010 => ((spec_newImage.f t101005 bt101010.1 a1).bind fun bt101012 => ((spec_reader_pick.f k s0_0 bt101010.2 4).bind fun bt101019 => ((spec_reader_pick.f k s0_0 bt101019.2 256).bind fun bt101021 => (spec_randomImage.l0 k bt101019.1 bt101021.1 0 s0_0 bt101021.2 bt101012.1 bt101012.2.1 bt101012.2.2.1 bt101012.2.2.2))))) = some (r1, r2, r3, r4, r5) := by first | (rw [hy101007]; with_reducible exact H) | (have H2_ := (Option.bind_some _ _).symm.trans H; rw [hy101007]; with_reducible exact H2_) | (have H2_ := (Option.bind_some _ _).symm.trans H; with_reducible exact H2_) | with_reducible exact H | (rw [hy101007]; exact H) | exact H
  have Ny101007 := Aside0.mk hy101007
  clear hy101007
  replace H := Option.bind_eq_some_iff.mp H
  obtain ⟨⟨t101010, t101011⟩, A40, H⟩ := H
  replace H : ((spec_newImage.f t101005 t101010 a1).bind fun bt101012 => ((spec_reader_pick.f k s0_0 t101011 4).bind fun bt101019 => ((spec_reader_pick.f k s0_0 bt101019.2 256).bind fun bt101021 => (spec_randomImage.l0 k bt101019.1 bt101021.1 0 s0_0 bt101021.2 bt101012.1 bt101012.2.1 bt101012.2.2.1 bt101012.2.2.2)))) = some (r1, r2, r3, r4, r5) := H
  have A4 := Aside0.mk A40
  clear A40
  replace H := Option.bind_eq_some_iff.mp H
  obtain ⟨⟨t101012, t101013, t101014, t101015⟩, A50, H⟩ := H
  replace H : ((spec_reader_pick.f k s0_0 t101011 4).bind fun bt101019 => ((spec_reader_pick.f k s0_0 bt101019.2 256).bind fun bt101021 => (spec_randomImage.l0 k bt101019.1 bt101021.1 0 s0_0 bt101021.2 t101012 t101013 t101014 t101015))) = some (r1, r2, r3, r4, r5) := H
  have A5 := Aside0.mk A50
  clear A50
  replace H := Option.bind_eq_some_iff.mp H
  obtain ⟨⟨t101019, t101020⟩, A60, H⟩ := H
  replace H : ((spec_reader_pick.f k s0_0 t101020 256).bind fun bt101021 => (spec_randomImage.l0 k t101019 bt101021.1 0 s0_0 bt101021.2 t101012 t101013 t101014 t101015)) = some (r1, r2, r3, r4, r5) := H
  have A6 := Aside0.mk A60
  clear A60
  replace H := Option.bind_eq_some_iff.mp H
  obtain ⟨⟨t101021, t101022⟩, A70, H⟩ := H
  replace H : (spec_randomImage.l0 k t101019 t101021 0 s0_0 t101022 t101012 t101013 t101014 t101015) = some (r1, r2, r3, r4, r5) := H
  have A7 := Aside0.mk A70
  clear A70
  have H' := Aside0.mk H
  clear H
  go_enter Try.func100, Try.ntmps100
  go_wp2_with (first | ((with_reducible refine gate_dst (N := 4) rfl ?_); refine box_event ?hg (N := 4) ?hd (cs := #[.int .i64 0, .int .i64 0, .int .i64 0, .slice none 0 0]) (t := 28) ?hr ?_; (case hd => rfl); (case hg => rfl); (case hr => first | (go_simp; done) | (go_simp; rfl)); intro gb101001 hg w8 hbox hb; have n0_ := Aside0.mk (IsS100.below (by repeat (first | (with_reducible first | exact HI0.out | apply IsS100.alloc | apply IsS100.drewN | apply IsS100.drew | apply IsS100.set_1) | exact HI0.out)) hb); have n1_ := Aside0.mk (KeepBut.trans (by repeat (first | (with_reducible first | exact HK.out | apply KeepBut.set_ | apply keep_drewN | apply keep_drew | apply keep_alloc) | exact HK.out)) (KeepBut.of_below hb g none) (.inl rfl)); have n2_ := Aside0.mk (below_step (by repeat (first | (with_reducible first | exact HB.out | apply below_alloc | apply pw_below_drewN | apply below_drew1 | refine below_set ?_ (IsS100.ge HI0.out)) | exact HB.out)) hb); have n3_ := Aside0.mk (hbox); have n4_ := Aside0.mk ((by rw [hg]; exact (keep_size (w := w) (g := g) (row := none) (by repeat (first | (with_reducible first | exact HK.out | apply KeepBut.set_ | apply keep_drewN | apply keep_drew | apply keep_alloc) | exact HK.out))) : w.heap.size ≤ gb101001)); have n5_ := Aside0.mk ((Nat.le_trans HW0.out (by rw [hg]; exact (keep_size (w := w) (g := g) (row := none) (by repeat (first | (with_reducible first | exact HK.out | apply KeepBut.set_ | apply keep_drewN | apply keep_drew | apply keep_alloc) | exact HK.out))) : w.heap.size ≤ gb101001) : w0.heap.size ≤ gb101001)); have n6_ := Aside0.mk ((by rw [hg]; exact Nat.ne_of_lt (IsS100.lt (show IsS100 w0 _ g s0_0 s0_1 from by repeat (first | (with_reducible first | exact HI0.out | apply IsS100.alloc | apply IsS100.drewN | apply IsS100.drew | apply IsS100.set_1) | exact HI0.out))) : g ≠ gb101001)); have n7_ := Aside0.mk ((by rw [hg]; exact Nat.ne_of_gt (IsS100.lt (show IsS100 w0 _ g s0_0 s0_1 from by repeat (first | (with_reducible first | exact HI0.out | apply IsS100.alloc | apply IsS100.drewN | apply IsS100.drew | apply IsS100.set_1) | exact HI0.out))) : gb101001 ≠ g)); clear HI0; clear HK; clear HB; have HI0 := n0_; have HK := n1_; have HB := n2_; have BK101001 := n3_; have GW101001 := n4_; have GE101001 := n5_; have NB0_101001 := n6_; have NB101001_0 := n7_; clear n0_ n1_ n2_ n3_ n4_ n5_ n6_ n7_; clear hb hbox hg) | ((with_reducible refine gate_dst (N := 10) rfl ?_); refine Kd.R_lit (Kd.int .i64) _ 3 ?hg (N := 10) ?hd (xs := ([3, 4, 2, 5, 1, 8, 6] : List Int)) (inner := [.int .i64 3, .int .i64 4, .int .i64 2, .int .i64 5, .int .i64 1, .int .i64 8, .int .i64 6]) (ok := fun _ => True) (okp := fun _ => True) ?hr ?hp (fun _ hk => hk) trivial (Below.refl _ _) (Nat.le_refl _) (by simp) ?_; (case hd => rfl); (case hg => rfl); (case hr => first | (go_simp; done) | (go_simp; rfl)); (case hp => exact (Reps.one (show Kd.M (Kd.int .i64) _ _ _ 3 [.int .i64 3] from rfl) (Reps.one (show Kd.M (Kd.int .i64) _ _ _ 4 [.int .i64 4] from rfl) (Reps.one (show Kd.M (Kd.int .i64) _ _ _ 2 [.int .i64 2] from rfl) (Reps.one (show Kd.M (Kd.int .i64) _ _ _ 5 [.int .i64 5] from rfl) (Reps.one (show Kd.M (Kd.int .i64) _ _ _ 1 [.int .i64 1] from rfl) (Reps.one (show Kd.M (Kd.int .i64) _ _ _ 8 [.int .i64 8] from rfl) (Reps.one (show Kd.M (Kd.int .i64) _ _ _ 6 [.int .i64 6] from rfl) (Reps.none _ _))))))))); intro v101003 w9 ho10 hb hg_ hnew_; clear hg_ hnew_; (first | rw [← Ny101002.out] at ho10 | (simp only [Int.reduceToNat] at ho10; rw [← Ny101002.out] at ho10)); have n0_ := Aside0.mk (Kd.R_lower ho10 (keep_size (w := w) (g := g) (row := none) (by repeat (first | (with_reducible first | exact HK.out | apply KeepBut.set_ | apply keep_drewN | apply keep_drew | apply keep_alloc | refine keep_far ?_ GW101001.out _) | exact HK.out)))); have n1_ := Aside0.mk (IsS100.below (by repeat (first | (with_reducible first | exact HI0.out | apply IsS100.alloc | apply IsS100.drewN | apply IsS100.drew | apply IsS100.set_1 | refine IsS100.far ?_ NB0_101001.out _) | exact HI0.out)) hb); have n2_ := Aside0.mk (blk_below (g := gb101001) (o := .cells #[.int .i64 0, .int .i64 0, .int .i64 0, .slice none 0 0] 28 (0, 0)) (by (with_reducible repeat (first | refine blk_drewN ?_ _ | refine blk_drew ?_ | refine blk_alloc ?_ _)); exact BK101001.out) hb); have n3_ := Aside0.mk (KeepBut.trans (by repeat (first | (with_reducible first | exact HK.out | apply KeepBut.set_ | apply keep_drewN | apply keep_drew | apply keep_alloc | refine keep_far ?_ GW101001.out _) | exact HK.out)) (KeepBut.of_below hb g none) (.inl rfl)); have n4_ := Aside0.mk (below_step (by repeat (first | (with_reducible first | exact HB.out | apply below_alloc | apply pw_below_drewN | apply below_drew1 | refine below_set ?_ (IsS100.ge HI0.out) | refine below_set ?_ GE101001.out) | exact HB.out)) hb); clear HI0; clear BK101001; clear HK; clear HB; have HO101004 := n0_; have HI0 := n1_; have BK101001 := n2_; have HK := n3_; have HB := n4_; clear n0_ n1_ n2_ n3_ n4_; clear hb ho10; obtain ⟨Ao11, co11, eo11⟩ := Kd.R_slice HO101004.out; subst eo11) | ((with_reducible refine gate_callee (f := 73) rfl ?_); refine goesL_ (some 11) rfl rfl Try.func73 (by kernel_rfl) rfl #[.pointer (some ⟨g, 0, none⟩), .slice Ao11 y101002.length co11] rfl (by (try simp only [List.map_toArray, List.map_cons, List.map_nil]); first | done | rfl | (simp only [List.length_drop, List.length_take]; rfl)) ?_; (with_reducible refine (spec_reader_one.calls k g s0_0 s0_1 _ _ y101002 t101005 t101006 w0 _ ?side1 ?side2 ?side3 ?side4 ?side5 A3.out).mono ?_); (case side1 => repeat (first | (with_reducible first | exact HI0.out | apply IsS100.alloc | apply IsS100.drewN | apply IsS100.drew | apply IsS100.set_1 | refine IsS100.far ?_ NB0_101001.out _) | exact HI0.out)); (case side2 => repeat (first | (with_reducible first | exact HB.out | apply below_alloc | apply pw_below_drewN | apply below_drew1 | refine below_set ?_ (IsS100.ge HI0.out) | refine below_set ?_ GE101001.out) | exact HB.out)); (case side3 => repeat (first | exact (Kd.R_reads' HO101004.out).2.2 | (with_reducible refine Kd.C_alloc ?_ _) | (with_reducible refine Kd.C_drewN ?_ _) | (with_reducible refine Kd.C_drew ?_))); (case side4 => exact (Kd.R_reads' HO101004.out).2.1); (case side5 => exact far_slice (IsS100.own_ne HI0.out HO101004.out (by decide))); rintro e w12 ⟨rfl, hi, hb, hk⟩; refine ⟨_, rfl, ?_⟩; have n0_ := Aside0.mk (KeepBut.blk hk (g' := gb101001) (o := .cells #[.int .i64 0, .int .i64 0, .int .i64 0, .slice none 0 0] 28 (0, 0)) (by (with_reducible repeat (first | refine blk_drewN ?_ _ | refine blk_drew ?_ | refine blk_alloc ?_ _)); exact BK101001.out) NB101001_0.out (by simp)); have n1_ := Aside0.mk (Kd.R_mono (Kd.R_keep (IsS100.apart (show IsS100 w0 _ g s0_0 s0_1 from by repeat (first | (with_reducible first | exact HI0.out | apply IsS100.alloc | apply IsS100.drewN | apply IsS100.drew | apply IsS100.set_1 | refine IsS100.far ?_ NB0_101001.out _) | exact HI0.out)) (by (with_reducible repeat (first | apply Kd.R_alloc | apply Kd.R_drewN | apply Kd.R_drew)); exact HO101004.out) (by decide)) hk (fun _ h => h.2)) (fun _ h => h.1)); have n2_ := Aside0.mk (KeepBut.trans (by repeat (first | (with_reducible first | exact HK.out | apply KeepBut.set_ | apply keep_drewN | apply keep_drew | apply keep_alloc | refine keep_far ?_ GW101001.out _) | exact HK.out)) hk (.inl rfl)); have n3_ := Aside0.mk (hb); have n4_ := Aside0.mk (hi); clear BK101001; clear HO101004; clear HK; clear HB; clear HI0; have BK101001 := n0_; have HO101004 := n1_; have HK := n2_; have HB := n3_; have HI0 := n4_; clear n0_ n1_ n2_ n3_ n4_; (try clear hb); (try clear hb2); (try clear hk); (try clear hi)) | ((with_reducible refine gate_dst (N := 13) rfl ?_); refine Kd.R_lit (Kd.int .i64) _ 3 ?hg (N := 13) ?hd (xs := ([3, 2, 4, 1, 5, 8] : List Int)) (inner := [.int .i64 3, .int .i64 2, .int .i64 4, .int .i64 1, .int .i64 5, .int .i64 8]) (ok := fun _ => True) (okp := fun _ => True) ?hr ?hp (fun _ hk => hk) trivial (Below.refl _ _) (Nat.le_refl _) (by simp) ?_; (case hd => rfl); (case hg => rfl); (case hr => first | (go_simp; done) | (go_simp; rfl)); (case hp => exact (Reps.one (show Kd.M (Kd.int .i64) _ _ _ 3 [.int .i64 3] from rfl) (Reps.one (show Kd.M (Kd.int .i64) _ _ _ 2 [.int .i64 2] from rfl) (Reps.one (show Kd.M (Kd.int .i64) _ _ _ 4 [.int .i64 4] from rfl) (Reps.one (show Kd.M (Kd.int .i64) _ _ _ 1 [.int .i64 1] from rfl) (Reps.one (show Kd.M (Kd.int .i64) _ _ _ 5 [.int .i64 5] from rfl) (Reps.one (show Kd.M (Kd.int .i64) _ _ _ 8 [.int .i64 8] from rfl) (Reps.none _ _)))))))); intro v101008 w13 ho14 hb hg_ hnew_; clear hg_ hnew_; (first | rw [← Ny101007.out] at ho14 | (simp only [Int.reduceToNat] at ho14; rw [← Ny101007.out] at ho14)); have n0_ := Aside0.mk (Kd.R_elder' (by (with_reducible repeat (first | apply Kd.R_alloc | apply Kd.R_drewN | apply Kd.R_drew)); exact HO101004.out) (Kd.R_base ho14) hb); have n1_ := Aside0.mk (Kd.R_lower (Kd.R_new' ho14 (Kd.R_lt (by (with_reducible repeat (first | apply Kd.R_alloc | apply Kd.R_drewN | apply Kd.R_drew)); exact HO101004.out))) (keep_size (w := w) (g := g) (row := none) (by repeat (first | (with_reducible first | exact HK.out | apply KeepBut.set_ | apply keep_drewN | apply keep_drew | apply keep_alloc | refine keep_far ?_ GW101001.out _) | exact HK.out)))); have n2_ := Aside0.mk (IsS100.below (by repeat (first | (with_reducible first | exact HI0.out | apply IsS100.alloc | apply IsS100.drewN | apply IsS100.drew | apply IsS100.set_1 | refine IsS100.far ?_ NB0_101001.out _) | exact HI0.out)) hb); have n3_ := Aside0.mk (blk_below (g := gb101001) (o := .cells #[.int .i64 0, .int .i64 0, .int .i64 0, .slice none 0 0] 28 (0, 0)) (by (with_reducible repeat (first | refine blk_drewN ?_ _ | refine blk_drew ?_ | refine blk_alloc ?_ _)); exact BK101001.out) hb); have n4_ := Aside0.mk (KeepBut.trans (by repeat (first | (with_reducible first | exact HK.out | apply KeepBut.set_ | apply keep_drewN | apply keep_drew | apply keep_alloc | refine keep_far ?_ GW101001.out _) | exact HK.out)) (KeepBut.of_below hb g none) (.inl rfl)); have n5_ := Aside0.mk (below_step (by repeat (first | (with_reducible first | exact HB.out | apply below_alloc | apply pw_below_drewN | apply below_drew1 | refine below_set ?_ (IsS100.ge HI0.out) | refine below_set ?_ GE101001.out) | exact HB.out)) hb); clear HO101004; clear HI0; clear BK101001; clear HK; clear HB; have HO101004 := n0_; have HO101009 := n1_; have HI0 := n2_; have BK101001 := n3_; have HK := n4_; have HB := n5_; clear n0_ n1_ n2_ n3_ n4_ n5_; clear hb ho14; obtain ⟨Ao15, co15, eo15⟩ := Kd.R_slice HO101009.out; subst eo15) | ((with_reducible refine gate_callee (f := 73) rfl ?_); refine goesL_ (some 14) rfl rfl Try.func73 (by kernel_rfl) rfl #[.pointer (some ⟨g, 0, none⟩), .slice Ao15 y101007.length co15] rfl (by (try simp only [List.map_toArray, List.map_cons, List.map_nil]); first | done | rfl | (simp only [List.length_drop, List.length_take]; rfl)) ?_; (with_reducible refine (spec_reader_one.calls k g s0_0 t101006 _ _ y101007 t101010 t101011 w0 _ ?side1 ?side2 ?side3 ?side4 ?side5 A4.out).mono ?_); (case side1 => repeat (first | (with_reducible first | exact HI0.out | apply IsS100.alloc | apply IsS100.drewN | apply IsS100.drew | apply IsS100.set_1 | refine IsS100.far ?_ NB0_101001.out _) | exact HI0.out)); (case side2 => repeat (first | (with_reducible first | exact HB.out | apply below_alloc | apply pw_below_drewN | apply below_drew1 | refine below_set ?_ (IsS100.ge HI0.out) | refine below_set ?_ GE101001.out) | exact HB.out)); (case side3 => repeat (first | exact (Kd.R_reads' HO101009.out).2.2 | (with_reducible refine Kd.C_alloc ?_ _) | (with_reducible refine Kd.C_drewN ?_ _) | (with_reducible refine Kd.C_drew ?_))); (case side4 => exact (Kd.R_reads' HO101009.out).2.1); (case side5 => exact far_slice (IsS100.own_ne HI0.out HO101009.out (by decide))); rintro e w16 ⟨rfl, hi, hb, hk⟩; refine ⟨_, rfl, ?_⟩; have n0_ := Aside0.mk (KeepBut.blk hk (g' := gb101001) (o := .cells #[.int .i64 0, .int .i64 0, .int .i64 0, .slice none 0 0] 28 (0, 0)) (by (with_reducible repeat (first | refine blk_drewN ?_ _ | refine blk_drew ?_ | refine blk_alloc ?_ _)); exact BK101001.out) NB101001_0.out (by simp)); have n1_ := Aside0.mk (Kd.R_mono (Kd.R_keep (IsS100.apart (show IsS100 w0 _ g s0_0 t101006 from by repeat (first | (with_reducible first | exact HI0.out | apply IsS100.alloc | apply IsS100.drewN | apply IsS100.drew | apply IsS100.set_1 | refine IsS100.far ?_ NB0_101001.out _) | exact HI0.out)) (by (with_reducible repeat (first | apply Kd.R_alloc | apply Kd.R_drewN | apply Kd.R_drew)); exact HO101004.out) (by decide)) hk (fun _ h => h.2)) (fun _ h => h.1)); have n2_ := Aside0.mk (Kd.R_mono (Kd.R_keep (IsS100.apart (show IsS100 w0 _ g s0_0 t101006 from by repeat (first | (with_reducible first | exact HI0.out | apply IsS100.alloc | apply IsS100.drewN | apply IsS100.drew | apply IsS100.set_1 | refine IsS100.far ?_ NB0_101001.out _) | exact HI0.out)) (by (with_reducible repeat (first | apply Kd.R_alloc | apply Kd.R_drewN | apply Kd.R_drew)); exact HO101009.out) (by decide)) hk (fun _ h => h.2)) (fun _ h => h.1)); have n3_ := Aside0.mk (KeepBut.trans (by repeat (first | (with_reducible first | exact HK.out | apply KeepBut.set_ | apply keep_drewN | apply keep_drew | apply keep_alloc | refine keep_far ?_ GW101001.out _) | exact HK.out)) hk (.inl rfl)); have n4_ := Aside0.mk (hb); have n5_ := Aside0.mk (hi); clear BK101001; clear HO101004; clear HO101009; clear HK; clear HB; clear HI0; have BK101001 := n0_; have HO101004 := n1_; have HO101009 := n2_; have HK := n3_; have HB := n4_; have HI0 := n5_; clear n0_ n1_ n2_ n3_ n4_ n5_; (try clear hb); (try clear hb2); (try clear hk); (try clear hi)) | ((with_reducible refine gate_callee (f := 107) rfl ?_); refine goesL_ (some 16) rfl rfl Try.func107 (by kernel_rfl) rfl #[.int .i64 t101005, .int .i64 t101010, .int .i64 a1] rfl (by (try simp only [List.map_toArray, List.map_cons, List.map_nil]); first | done | rfl | (simp only [List.length_drop, List.length_take]; rfl)) ?_; (with_reducible refine (spec_newImage.calls t101005 t101010 a1 t101012 t101013 t101014 t101015 _ A5.out).mono ?_); rintro e w17 ⟨v101016, rfl, ho0, hb⟩; refine ⟨_, rfl, ?_⟩; have n0_ := Aside0.mk (Kd.R_elder' (by (with_reducible repeat (first | apply Kd.R_alloc | apply Kd.R_drewN | apply Kd.R_drew)); exact HO101004.out) (Kd.R_base ho0) hb); have n1_ := Aside0.mk (Kd.R_elder' (by (with_reducible repeat (first | apply Kd.R_alloc | apply Kd.R_drewN | apply Kd.R_drew)); exact HO101009.out) (Kd.R_base ho0) hb); have n2_ := Aside0.mk (Kd.R_lower (Kd.R_new' (Kd.R_new' ho0 (Kd.R_lt (by (with_reducible repeat (first | apply Kd.R_alloc | apply Kd.R_drewN | apply Kd.R_drew)); exact HO101004.out))) (Kd.R_lt (by (with_reducible repeat (first | apply Kd.R_alloc | apply Kd.R_drewN | apply Kd.R_drew)); exact HO101009.out))) (keep_size (w := w) (g := g) (row := none) (by repeat (first | (with_reducible first | exact HK.out | apply KeepBut.set_ | apply keep_drewN | apply keep_drew | apply keep_alloc | refine keep_far ?_ GW101001.out _) | exact HK.out)))); have n3_ := Aside0.mk (IsS100.below (by repeat (first | (with_reducible first | exact HI0.out | apply IsS100.alloc | apply IsS100.drewN | apply IsS100.drew | apply IsS100.set_1 | refine IsS100.far ?_ NB0_101001.out _) | exact HI0.out)) hb); have n4_ := Aside0.mk (blk_below (g := gb101001) (o := .cells #[.int .i64 0, .int .i64 0, .int .i64 0, .slice none 0 0] 28 (0, 0)) (by (with_reducible repeat (first | refine blk_drewN ?_ _ | refine blk_drew ?_ | refine blk_alloc ?_ _)); exact BK101001.out) hb); have n5_ := Aside0.mk (KeepBut.trans (by repeat (first | (with_reducible first | exact HK.out | apply KeepBut.set_ | apply keep_drewN | apply keep_drew | apply keep_alloc | refine keep_far ?_ GW101001.out _) | exact HK.out)) (KeepBut.of_below hb g none) (.inl rfl)); have n6_ := Aside0.mk (below_step (by repeat (first | (with_reducible first | exact HB.out | apply below_alloc | apply pw_below_drewN | apply below_drew1 | refine below_set ?_ (IsS100.ge HI0.out) | refine below_set ?_ GE101001.out) | exact HB.out)) hb); clear HO101004; clear HO101009; clear HI0; clear BK101001; clear HK; clear HB; have HO101004 := n0_; have HO101009 := n1_; have HO101017 := n2_; have HI0 := n3_; have BK101001 := n4_; have HK := n5_; have HB := n6_; clear n0_ n1_ n2_ n3_ n4_ n5_ n6_; (try clear hb); (try clear hb2); (try clear hk); (try clear hi); (try clear ho0)) | ((with_reducible refine gate_dst (N := 5) rfl ?_); refine box_event ?hg (N := 5) ?hd (cs := #[.int .i64 0, .int .i64 0, .int .i64 0, .slice none 0 0]) (t := 28) ?hr ?_; (case hd => rfl); (case hg => rfl); (case hr => first | (go_simp; done) | (go_simp; rfl)); intro gb101018 hg w18 hbox hb; have n0_ := Aside0.mk (Kd.R_below (by (with_reducible repeat (first | apply Kd.R_alloc | apply Kd.R_drewN | apply Kd.R_drew)); exact HO101004.out) hb); have n1_ := Aside0.mk (Kd.R_below (by (with_reducible repeat (first | apply Kd.R_alloc | apply Kd.R_drewN | apply Kd.R_drew)); exact HO101009.out) hb); have n2_ := Aside0.mk (Kd.R_below (by (with_reducible repeat (first | apply Kd.R_alloc | apply Kd.R_drewN | apply Kd.R_drew)); exact HO101017.out) hb); have n3_ := Aside0.mk (IsS100.below (by repeat (first | (with_reducible first | exact HI0.out | apply IsS100.alloc | apply IsS100.drewN | apply IsS100.drew | apply IsS100.set_1 | refine IsS100.far ?_ NB0_101001.out _) | exact HI0.out)) hb); have n4_ := Aside0.mk (blk_below (g := gb101001) (o := .cells #[.int .i64 0, .int .i64 0, .int .i64 0, .slice none 0 0] 28 (0, 0)) (by (with_reducible repeat (first | refine blk_drewN ?_ _ | refine blk_drew ?_ | refine blk_alloc ?_ _)); exact BK101001.out) hb); have n5_ := Aside0.mk (KeepBut.trans (by repeat (first | (with_reducible first | exact HK.out | apply KeepBut.set_ | apply keep_drewN | apply keep_drew | apply keep_alloc | refine keep_far ?_ GW101001.out _) | exact HK.out)) (KeepBut.of_below hb g none) (.inl rfl)); have n6_ := Aside0.mk (below_step (by repeat (first | (with_reducible first | exact HB.out | apply below_alloc | apply pw_below_drewN | apply below_drew1 | refine below_set ?_ (IsS100.ge HI0.out) | refine below_set ?_ GE101001.out) | exact HB.out)) hb); have n7_ := Aside0.mk (hbox); have n8_ := Aside0.mk ((by rw [hg]; exact (keep_size (w := w) (g := g) (row := none) (by repeat (first | (with_reducible first | exact HK.out | apply KeepBut.set_ | apply keep_drewN | apply keep_drew | apply keep_alloc | refine keep_far ?_ GW101001.out _) | exact HK.out))) : w.heap.size ≤ gb101018)); have n9_ := Aside0.mk ((Nat.le_trans HW0.out (by rw [hg]; exact (keep_size (w := w) (g := g) (row := none) (by repeat (first | (with_reducible first | exact HK.out | apply KeepBut.set_ | apply keep_drewN | apply keep_drew | apply keep_alloc | refine keep_far ?_ GW101001.out _) | exact HK.out))) : w.heap.size ≤ gb101018) : w0.heap.size ≤ gb101018)); have n10_ := Aside0.mk ((by rw [hg]; exact Nat.ne_of_lt (blk_lt (g := gb101001) (o := .cells #[.int .i64 0, .int .i64 0, .int .i64 0, .slice none 0 0] 28 (0, 0)) (by (with_reducible repeat (first | refine blk_drewN ?_ _ | refine blk_drew ?_ | refine blk_alloc ?_ _)); exact BK101001.out)) : gb101001 ≠ gb101018)); have n11_ := Aside0.mk ((by rw [hg]; exact Nat.ne_of_gt (blk_lt (g := gb101001) (o := .cells #[.int .i64 0, .int .i64 0, .int .i64 0, .slice none 0 0] 28 (0, 0)) (by (with_reducible repeat (first | refine blk_drewN ?_ _ | refine blk_drew ?_ | refine blk_alloc ?_ _)); exact BK101001.out)) : gb101018 ≠ gb101001)); have n12_ := Aside0.mk ((by rw [hg]; exact Nat.ne_of_lt (IsS100.lt (show IsS100 w0 _ g s0_0 t101011 from by repeat (first | (with_reducible first | exact HI0.out | apply IsS100.alloc | apply IsS100.drewN | apply IsS100.drew | apply IsS100.set_1 | refine IsS100.far ?_ NB0_101001.out _) | exact HI0.out))) : g ≠ gb101018)); have n13_ := Aside0.mk ((by rw [hg]; exact Nat.ne_of_gt (IsS100.lt (show IsS100 w0 _ g s0_0 t101011 from by repeat (first | (with_reducible first | exact HI0.out | apply IsS100.alloc | apply IsS100.drewN | apply IsS100.drew | apply IsS100.set_1 | refine IsS100.far ?_ NB0_101001.out _) | exact HI0.out))) : gb101018 ≠ g)); clear HO101004; clear HO101009; clear HO101017; clear HI0; clear BK101001; clear HK; clear HB; have HO101004 := n0_; have HO101009 := n1_; have HO101017 := n2_; have HI0 := n3_; have BK101001 := n4_; have HK := n5_; have HB := n6_; have BK101018 := n7_; have GW101018 := n8_; have GE101018 := n9_; have NB101001_101018 := n10_; have NB101018_101001 := n11_; have NB0_101018 := n12_; have NB101018_0 := n13_; clear n0_ n1_ n2_ n3_ n4_ n5_ n6_ n7_ n8_ n9_ n10_ n11_ n12_ n13_; clear hb hbox hg; have hnb19 := NB101018_101001.out; have hnc19 := NB101001_101018.out; have hnb20 := NB101018_0.out; have hnc20 := NB0_101018.out; have hcz21_0 : w18.cell? ⟨gb101018, 0, none⟩ = some (.int .i64 0) := (blk_cell BK101018.out 0).trans rfl; have hcz21_1 : w18.cell? ⟨gb101018, 1, none⟩ = some (.int .i64 0) := (blk_cell BK101018.out 1).trans rfl; have hcz21_2 : w18.cell? ⟨gb101018, 2, none⟩ = some (.int .i64 0) := (blk_cell BK101018.out 2).trans rfl; have hcz21_3 : w18.cell? ⟨gb101018, 3, none⟩ = some (.slice none 0 0) := (blk_cell BK101018.out 3).trans rfl; have hfz21_0 := blk_frozen BK101018.out 0; have hfz21_1 := blk_frozen BK101018.out 1; have hfz21_2 := blk_frozen BK101018.out 2; have hfz21_3 := blk_frozen BK101018.out 3; obtain ⟨Ao22, co22, eo22⟩ := Kd.R_slice HO101017.out; subst eo22) | ((with_reducible refine gate_callee (f := 82) rfl ?_); refine goesL_ (some 18) rfl rfl Try.func82 (by kernel_rfl) rfl #[.pointer (some ⟨g, 0, none⟩), .int .i64 4] rfl (by (try simp only [List.map_toArray, List.map_cons, List.map_nil]); first | done | rfl | (simp only [List.length_drop, List.length_take]; rfl)) ?_; (with_reducible refine (spec_reader_pick.calls k g s0_0 t101011 4 t101019 t101020 w0 _ ?side1 ?side2 A6.out).mono ?_); (case side1 => repeat (first | (with_reducible first | exact HI0.out | apply IsS100.alloc | apply IsS100.drewN | apply IsS100.drew | apply IsS100.set_1 | refine IsS100.far ?_ NB0_101001.out _ | refine IsS100.far ?_ NB0_101018.out _) | exact HI0.out)); (case side2 => repeat (first | (with_reducible first | exact HB.out | apply below_alloc | apply pw_below_drewN | apply below_drew1 | refine below_set ?_ (IsS100.ge HI0.out) | refine below_set ?_ GE101001.out | refine below_set ?_ GE101018.out) | exact HB.out)); rintro e w23 ⟨rfl, hi, hb, hk⟩; refine ⟨_, rfl, ?_⟩; have n0_ := Aside0.mk (KeepBut.blk hk (g' := gb101001) (o := .cells #[.int .i64 0, .int .i64 0, .int .i64 0, .slice none 0 0] 28 (0, 0)) (by (with_reducible repeat (first | refine blk_drewN ?_ _ | refine blk_drew ?_ | refine blk_alloc ?_ _)); refine blk_far ?_ NB101001_101018.out _; (with_reducible repeat (first | refine blk_drewN ?_ _ | refine blk_drew ?_ | refine blk_alloc ?_ _)); refine blk_far ?_ NB101001_101018.out _; (with_reducible repeat (first | refine blk_drewN ?_ _ | refine blk_drew ?_ | refine blk_alloc ?_ _)); refine blk_far ?_ NB101001_101018.out _; (with_reducible repeat (first | refine blk_drewN ?_ _ | refine blk_drew ?_ | refine blk_alloc ?_ _)); refine blk_far ?_ NB101001_101018.out _; (with_reducible repeat (first | refine blk_drewN ?_ _ | refine blk_drew ?_ | refine blk_alloc ?_ _)); exact BK101001.out) NB101001_0.out (by simp)); have n1_ := Aside0.mk (Kd.R_mono (Kd.R_keep (IsS100.apart (show IsS100 w0 _ g s0_0 t101011 from by repeat (first | (with_reducible first | exact HI0.out | apply IsS100.alloc | apply IsS100.drewN | apply IsS100.drew | apply IsS100.set_1 | refine IsS100.far ?_ NB0_101001.out _ | refine IsS100.far ?_ NB0_101018.out _) | exact HI0.out)) (by (with_reducible repeat (first | apply Kd.R_alloc | apply Kd.R_drewN | apply Kd.R_drew)); exact (Kd.R_mono (Kd.R_far (p := ⟨gb101018, 3, none⟩) (Kd.R_far (p := ⟨gb101018, 2, none⟩) (Kd.R_far (p := ⟨gb101018, 1, none⟩) (Kd.R_far (p := ⟨gb101018, 0, none⟩) (Kd.R_types HO101004.out BK101018.out (by decide)) (fun _ hk => hk.2) (.int .i64 t101012)) (fun _ hk => hk.2) (.int .i64 t101013)) (fun _ hk => hk.2) (.int .i64 t101014)) (fun _ hk => hk.2) (.slice Ao22 t101015.length co22)) (fun _ h_ => h_.1))) (by decide)) hk (fun _ h => h.2)) (fun _ h => h.1)); have n2_ := Aside0.mk (Kd.R_mono (Kd.R_keep (IsS100.apart (show IsS100 w0 _ g s0_0 t101011 from by repeat (first | (with_reducible first | exact HI0.out | apply IsS100.alloc | apply IsS100.drewN | apply IsS100.drew | apply IsS100.set_1 | refine IsS100.far ?_ NB0_101001.out _ | refine IsS100.far ?_ NB0_101018.out _) | exact HI0.out)) (by (with_reducible repeat (first | apply Kd.R_alloc | apply Kd.R_drewN | apply Kd.R_drew)); exact (Kd.R_mono (Kd.R_far (p := ⟨gb101018, 3, none⟩) (Kd.R_far (p := ⟨gb101018, 2, none⟩) (Kd.R_far (p := ⟨gb101018, 1, none⟩) (Kd.R_far (p := ⟨gb101018, 0, none⟩) (Kd.R_types HO101009.out BK101018.out (by decide)) (fun _ hk => hk.2) (.int .i64 t101012)) (fun _ hk => hk.2) (.int .i64 t101013)) (fun _ hk => hk.2) (.int .i64 t101014)) (fun _ hk => hk.2) (.slice Ao22 t101015.length co22)) (fun _ h_ => h_.1))) (by decide)) hk (fun _ h => h.2)) (fun _ h => h.1)); have n3_ := Aside0.mk (Kd.R_mono (Kd.R_keep (IsS100.apart (show IsS100 w0 _ g s0_0 t101011 from by repeat (first | (with_reducible first | exact HI0.out | apply IsS100.alloc | apply IsS100.drewN | apply IsS100.drew | apply IsS100.set_1 | refine IsS100.far ?_ NB0_101001.out _ | refine IsS100.far ?_ NB0_101018.out _) | exact HI0.out)) (by (with_reducible repeat (first | apply Kd.R_alloc | apply Kd.R_drewN | apply Kd.R_drew)); exact (Kd.R_mono (Kd.R_far (p := ⟨gb101018, 3, none⟩) (Kd.R_far (p := ⟨gb101018, 2, none⟩) (Kd.R_far (p := ⟨gb101018, 1, none⟩) (Kd.R_far (p := ⟨gb101018, 0, none⟩) (Kd.R_types HO101017.out BK101018.out (by decide)) (fun _ hk => hk.2) (.int .i64 t101012)) (fun _ hk => hk.2) (.int .i64 t101013)) (fun _ hk => hk.2) (.int .i64 t101014)) (fun _ hk => hk.2) (.slice Ao22 t101015.length co22)) (fun _ h_ => h_.1))) (by decide)) hk (fun _ h => h.2)) (fun _ h => h.1)); have n4_ := Aside0.mk (KeepBut.blk hk (g' := gb101018) (o := .cells #[.int .i64 t101012, .int .i64 t101013, .int .i64 t101014, .slice Ao22 t101015.length co22] 28 (0, 0)) (by (with_reducible repeat (first | refine blk_drewN ?_ _ | refine blk_drew ?_ | refine blk_alloc ?_ _)); refine blk_put (cs := #[.int .i64 t101012, .int .i64 t101013, .int .i64 t101014, .slice none 0 0]) ?_ 3 _ rfl; (with_reducible repeat (first | refine blk_drewN ?_ _ | refine blk_drew ?_ | refine blk_alloc ?_ _)); refine blk_put (cs := #[.int .i64 t101012, .int .i64 t101013, .int .i64 0, .slice none 0 0]) ?_ 2 _ rfl; (with_reducible repeat (first | refine blk_drewN ?_ _ | refine blk_drew ?_ | refine blk_alloc ?_ _)); refine blk_put (cs := #[.int .i64 t101012, .int .i64 0, .int .i64 0, .slice none 0 0]) ?_ 1 _ rfl; (with_reducible repeat (first | refine blk_drewN ?_ _ | refine blk_drew ?_ | refine blk_alloc ?_ _)); refine blk_put (cs := #[.int .i64 0, .int .i64 0, .int .i64 0, .slice none 0 0]) ?_ 0 _ rfl; (with_reducible repeat (first | refine blk_drewN ?_ _ | refine blk_drew ?_ | refine blk_alloc ?_ _)); exact BK101018.out) NB101018_0.out (by simp)); have n5_ := Aside0.mk (KeepBut.trans (by repeat (first | (with_reducible first | exact HK.out | apply KeepBut.set_ | apply keep_drewN | apply keep_drew | apply keep_alloc | refine keep_far ?_ GW101001.out _ | refine keep_far ?_ GW101018.out _) | exact HK.out)) hk (.inl rfl)); have n6_ := Aside0.mk (hb); have n7_ := Aside0.mk (hi); clear BK101001; clear HO101004; clear HO101009; clear HO101017; clear BK101018; clear HK; clear HB; clear HI0; have BK101001 := n0_; have HO101004 := n1_; have HO101009 := n2_; have HO101017 := n3_; have BK101018 := n4_; have HK := n5_; have HB := n6_; have HI0 := n7_; clear n0_ n1_ n2_ n3_ n4_ n5_ n6_ n7_; (try clear hb); (try clear hb2); (try clear hk); (try clear hi)) | ((with_reducible refine gate_callee (f := 82) rfl ?_); refine goesL_ (some 20) rfl rfl Try.func82 (by kernel_rfl) rfl #[.pointer (some ⟨g, 0, none⟩), .int .i64 256] rfl (by (try simp only [List.map_toArray, List.map_cons, List.map_nil]); first | done | rfl | (simp only [List.length_drop, List.length_take]; rfl)) ?_; (with_reducible refine (spec_reader_pick.calls k g s0_0 t101020 256 t101021 t101022 w0 _ ?side1 ?side2 A7.out).mono ?_); (case side1 => repeat (first | (with_reducible first | exact HI0.out | apply IsS100.alloc | apply IsS100.drewN | apply IsS100.drew | apply IsS100.set_1 | refine IsS100.far ?_ NB0_101001.out _ | refine IsS100.far ?_ NB0_101018.out _) | exact HI0.out)); (case side2 => repeat (first | (with_reducible first | exact HB.out | apply below_alloc | apply pw_below_drewN | apply below_drew1 | refine below_set ?_ (IsS100.ge HI0.out) | refine below_set ?_ GE101001.out | refine below_set ?_ GE101018.out) | exact HB.out)); rintro e w24 ⟨rfl, hi, hb, hk⟩; refine ⟨_, rfl, ?_⟩; have n0_ := Aside0.mk (KeepBut.blk hk (g' := gb101001) (o := .cells #[.int .i64 0, .int .i64 0, .int .i64 0, .slice none 0 0] 28 (0, 0)) (by (with_reducible repeat (first | refine blk_drewN ?_ _ | refine blk_drew ?_ | refine blk_alloc ?_ _)); exact BK101001.out) NB101001_0.out (by simp)); have n1_ := Aside0.mk (Kd.R_mono (Kd.R_keep (IsS100.apart (show IsS100 w0 _ g s0_0 t101020 from by repeat (first | (with_reducible first | exact HI0.out | apply IsS100.alloc | apply IsS100.drewN | apply IsS100.drew | apply IsS100.set_1 | refine IsS100.far ?_ NB0_101001.out _ | refine IsS100.far ?_ NB0_101018.out _) | exact HI0.out)) (by (with_reducible repeat (first | apply Kd.R_alloc | apply Kd.R_drewN | apply Kd.R_drew)); exact HO101004.out) (by decide)) hk (fun _ h => h.2)) (fun _ h => h.1)); have n2_ := Aside0.mk (Kd.R_mono (Kd.R_keep (IsS100.apart (show IsS100 w0 _ g s0_0 t101020 from by repeat (first | (with_reducible first | exact HI0.out | apply IsS100.alloc | apply IsS100.drewN | apply IsS100.drew | apply IsS100.set_1 | refine IsS100.far ?_ NB0_101001.out _ | refine IsS100.far ?_ NB0_101018.out _) | exact HI0.out)) (by (with_reducible repeat (first | apply Kd.R_alloc | apply Kd.R_drewN | apply Kd.R_drew)); exact HO101009.out) (by decide)) hk (fun _ h => h.2)) (fun _ h => h.1)); have n3_ := Aside0.mk (Kd.R_mono (Kd.R_keep (IsS100.apart (show IsS100 w0 _ g s0_0 t101020 from by repeat (first | (with_reducible first | exact HI0.out | apply IsS100.alloc | apply IsS100.drewN | apply IsS100.drew | apply IsS100.set_1 | refine IsS100.far ?_ NB0_101001.out _ | refine IsS100.far ?_ NB0_101018.out _) | exact HI0.out)) (by (with_reducible repeat (first | apply Kd.R_alloc | apply Kd.R_drewN | apply Kd.R_drew)); exact HO101017.out) (by decide)) hk (fun _ h => h.2)) (fun _ h => h.1)); have n4_ := Aside0.mk (KeepBut.blk hk (g' := gb101018) (o := .cells #[.int .i64 t101012, .int .i64 t101013, .int .i64 t101014, .slice Ao22 t101015.length co22] 28 (0, 0)) (by (with_reducible repeat (first | refine blk_drewN ?_ _ | refine blk_drew ?_ | refine blk_alloc ?_ _)); exact BK101018.out) NB101018_0.out (by simp)); have n5_ := Aside0.mk (KeepBut.trans (by repeat (first | (with_reducible first | exact HK.out | apply KeepBut.set_ | apply keep_drewN | apply keep_drew | apply keep_alloc | refine keep_far ?_ GW101001.out _ | refine keep_far ?_ GW101018.out _) | exact HK.out)) hk (.inl rfl)); have n6_ := Aside0.mk (hb); have n7_ := Aside0.mk (hi); clear BK101001; clear HO101004; clear HO101009; clear HO101017; clear BK101018; clear HK; clear HB; clear HI0; have BK101001 := n0_; have HO101004 := n1_; have HO101009 := n2_; have HO101017 := n3_; have BK101018 := n4_; have HK := n5_; have HB := n6_; have HI0 := n7_; clear n0_ n1_ n2_ n3_ n4_ n5_ n6_ n7_; (try clear hb); (try clear hb2); (try clear hk); (try clear hi)))
  go_loopg [7, 8] k (fun kq v7 v8 w' => ∃ (x7_1 : Int) (x8_1 : Int) (x1001_1 : Int) (x101019003_1 : List Int) (u101019003 : Value), v7 = .int .i64 x7_1 ∧ v8 = .int .i64 x8_1 ∧ Aside0 (spec_randomImage.l0 kq t101019 x7_1 x8_1 s0_0 x1001_1 t101012 t101013 t101014 x101019003_1 = some (r1, r2, r3, r4, r5)) ∧ Aside0 (kq ≤ k) ∧ Aside0 (Kd.R (Kd.int .i64) 3 w' w.heap.size (fun _ => True) u101019003 x101019003_1) ∧ Aside0 (w'.heap[gb101001]? = some (.cells #[.int .i64 0, .int .i64 0, .int .i64 0, (.slice none 0 0)] 28 (0, 0))) ∧ Aside0 (w'.heap[gb101018]? = some (.cells #[.int .i64 t101012, .int .i64 t101013, .int .i64 t101014, u101019003] 28 (0, 0))) ∧ Aside0 (IsS100 w0 w' g s0_0 x1001_1) ∧ Aside0 (KeepBut w w' g none) ∧ Aside0 (Below w0.heap.size w0 w'))
  case atStart => exact ⟨(t101021), (0), (t101022), (t101015), (.slice Ao22 t101015.length co22), (by first | rfl | (simp; done) | (simp [*]; done)), (by first | rfl | (simp; done) | (simp [*]; done)), H', ⟨Nat.le_refl _⟩, ⟨by (with_reducible repeat (first | apply Kd.R_alloc | apply Kd.R_drewN | apply Kd.R_drew)); exact Kd.R_mono HO101017.out (fun _ hk => trivial)⟩, ⟨by (with_reducible repeat (first | refine blk_drewN ?_ _ | refine blk_drew ?_ | refine blk_alloc ?_ _)); exact BK101001.out⟩, ⟨by (with_reducible repeat (first | refine blk_drewN ?_ _ | refine blk_drew ?_ | refine blk_alloc ?_ _)); exact BK101018.out⟩, ⟨by repeat (first | (with_reducible first | exact HI0.out | apply IsS100.alloc | apply IsS100.drewN | apply IsS100.drew | apply IsS100.set_1 | refine IsS100.far ?_ NB0_101001.out _ | refine IsS100.far ?_ NB0_101018.out _) | exact HI0.out)⟩, ⟨by repeat (first | (with_reducible first | exact HK.out | apply KeepBut.set_ | apply keep_drewN | apply keep_drew | apply keep_alloc | refine keep_far ?_ GW101001.out _ | refine keep_far ?_ GW101018.out _) | exact HK.out)⟩, ⟨by repeat (first | (with_reducible first | exact HB.out | apply below_alloc | apply pw_below_drewN | apply below_drew1 | refine below_set ?_ (IsS100.ge HI0.out) | refine below_set ?_ GE101001.out | refine below_set ?_ GE101018.out) | exact HB.out)⟩⟩
  case round =>
    clear H'
    try clear c1
    try clear c2
    try clear p2
    try clear c7
    try clear c8
    try clear c10
    try clear c19
    try clear c20
    try clear hcz21_0
    try clear hcz21_1
    try clear hcz21_2
    try clear hcz21_3
    try clear hfz21_0
    try clear hfz21_1
    try clear hfz21_2
    try clear hfz21_3
    obtain ⟨x7_1, x8_1, x1001_1, x101019003_1, u101019003, rfl, rfl, HA, HK1, HO_101019003, BK101001, BK101018, HI0, HK, HB⟩ := hrel
    cases gk with
    | zero => exact absurd HA.out (by simp [spec_randomImage.l0])
    | succ k1 =>
      have H := HA.out
      clear HA
      simp only [spec_randomImage.l0] at H
      by_cases c25 : x8_1 < (x101019003_1.length : Int)
      · rw [if_pos c25] at H
        have c25b0 : decide (x8_1 < (x101019003_1.length : Int)) = true := decide_eq_true c25
        clear c25
        by_cases c26 : t101019 = 0
        · rw [if_pos c26] at H
          have c26b0 : (t101019 == 0) = true := beq_iff_eq.mpr c26
          have c26b1 : (t101019 != 0) = false := bne_eq_false_iff_eq.mpr c26
          clear c26
          replace H := Option.bind_eq_some_iff.mp H
          obtain ⟨⟨t101023, t101024⟩, A270, H⟩ := H
          replace H : (if 0 ≤ x8_1 then (spec_randomImage.l0 k1 t101019 t101023 (wrap64 (x8_1 + 1)) s0_0 t101024 t101012 t101013 t101014 (x101019003_1.set (x8_1 : Int).toNat t101023)) else (none)) = some (r1, r2, r3, r4, r5) := H
          have A27 := Aside0.mk A270
          clear A270
          by_cases c28 : 0 ≤ x8_1
          · rw [if_pos c28] at H
            have c28b0 : decide (0 ≤ x8_1) = true := decide_eq_true c28
            clear c28
            obtain ⟨y101025, hy101025⟩ : ∃ y_ : List Int, y_ = (x101019003_1.set (x8_1 : Int).toNat t101023) := ⟨_, rfl⟩
            replace H : (spec_randomImage.l0 k1 t101019 t101023 (wrap64 (x8_1 + 1)) s0_0 t101024 t101012 t101013 t101014 y101025) = some (r1, r2, r3, r4, r5) := by first | (rw [hy101025]; with_reducible exact H) | (have H2_ := (Option.bind_some _ _).symm.trans H; rw [hy101025]; with_reducible exact H2_) | (have H2_ := (Option.bind_some _ _).symm.trans H; with_reducible exact H2_) | with_reducible exact H | (rw [hy101025]; exact H) | exact H
            have Ny101025 := Aside0.mk hy101025
            clear hy101025
            have H' := Aside0.mk H
            clear H
            have hnb30 := NB101018_101001.out
            have hnc30 := NB101001_101018.out
            have hnb31 := NB101018_0.out
            have hnc31 := NB0_101018.out
            have hcz32_0 : wr.cell? ⟨gb101018, 0, none⟩ = some (.int .i64 t101012) := (blk_cell BK101018.out 0).trans rfl
            have hcz32_1 : wr.cell? ⟨gb101018, 1, none⟩ = some (.int .i64 t101013) := (blk_cell BK101018.out 1).trans rfl
            have hcz32_2 : wr.cell? ⟨gb101018, 2, none⟩ = some (.int .i64 t101014) := (blk_cell BK101018.out 2).trans rfl
            have hcz32_3 : wr.cell? ⟨gb101018, 3, none⟩ = some (u101019003) := (blk_cell BK101018.out 3).trans rfl
            have hfz32_0 := blk_frozen BK101018.out 0
            have hfz32_1 := blk_frozen BK101018.out 1
            have hfz32_2 := blk_frozen BK101018.out 2
            have hfz32_3 := blk_frozen BK101018.out 3
            obtain ⟨Ao33, co33, eo33⟩ := Kd.R_slice HO_101019003.out
            subst eo33
            go_wp2_with (first | ((with_reducible refine gate_callee (f := 82) rfl ?_); refine goesL_ (some 32) rfl rfl Try.func82 (by kernel_rfl) rfl #[.pointer (some ⟨g, 0, none⟩), .int .i64 256] rfl (by (try simp only [List.map_toArray, List.map_cons, List.map_nil]); first | done | rfl | (simp only [List.length_drop, List.length_take]; rfl)) ?_; (with_reducible refine (spec_reader_pick.calls k1 g s0_0 x1001_1 256 t101023 t101024 w0 _ ?side1 ?side2 A27.out).mono ?_); (case side1 => repeat (first | (with_reducible first | exact HI0.out | apply IsS100.alloc | apply IsS100.drewN | apply IsS100.drew | apply IsS100.set_1 | refine IsS100.far ?_ NB0_101001.out _ | refine IsS100.far ?_ NB0_101018.out _) | exact HI0.out)); (case side2 => repeat (first | (with_reducible first | exact HB.out | apply below_alloc | apply pw_below_drewN | apply below_drew1 | refine below_set ?_ (IsS100.ge HI0.out) | refine below_set ?_ GE101001.out | refine below_set ?_ GE101018.out) | exact HB.out)); rintro e w34 ⟨rfl, hi, hb, hk⟩; refine ⟨_, rfl, ?_⟩; have n0_ := Aside0.mk (Kd.R_mono (Kd.R_keep (IsS100.apart (show IsS100 w0 _ g s0_0 x1001_1 from by repeat (first | (with_reducible first | exact HI0.out | apply IsS100.alloc | apply IsS100.drewN | apply IsS100.drew | apply IsS100.set_1 | refine IsS100.far ?_ NB0_101001.out _ | refine IsS100.far ?_ NB0_101018.out _) | exact HI0.out)) (by (with_reducible repeat (first | apply Kd.R_alloc | apply Kd.R_drewN | apply Kd.R_drew)); exact HO_101019003.out) (by decide)) hk (fun _ h => h.2)) (fun _ h => h.1)); have n1_ := Aside0.mk (KeepBut.blk hk (g' := gb101001) (o := .cells #[.int .i64 0, .int .i64 0, .int .i64 0, .slice none 0 0] 28 (0, 0)) (by (with_reducible repeat (first | refine blk_drewN ?_ _ | refine blk_drew ?_ | refine blk_alloc ?_ _)); exact BK101001.out) NB101001_0.out (by simp)); have n2_ := Aside0.mk (KeepBut.blk hk (g' := gb101018) (o := .cells #[.int .i64 t101012, .int .i64 t101013, .int .i64 t101014, .slice Ao33 x101019003_1.length co33] 28 (0, 0)) (by (with_reducible repeat (first | refine blk_drewN ?_ _ | refine blk_drew ?_ | refine blk_alloc ?_ _)); exact BK101018.out) NB101018_0.out (by simp)); have n3_ := Aside0.mk (KeepBut.trans (by repeat (first | (with_reducible first | exact HK.out | apply KeepBut.set_ | apply keep_drewN | apply keep_drew | apply keep_alloc | refine keep_far ?_ GW101001.out _ | refine keep_far ?_ GW101018.out _) | exact HK.out)) hk (.inl rfl)); have n4_ := Aside0.mk (hb); have n5_ := Aside0.mk (hi); clear HO_101019003; clear BK101001; clear BK101018; clear HK; clear HB; clear HI0; have HO_101019003 := n0_; have BK101001 := n1_; have BK101018 := n2_; have HK := n3_; have HB := n4_; have HI0 := n5_; clear n0_ n1_ n2_ n3_ n4_ n5_; (try clear hb); (try clear hb2); (try clear hk); (try clear hi); have hcz35_0 : w34.cell? ⟨gb101018, 0, none⟩ = some (.int .i64 t101012) := (blk_cell BK101018.out 0).trans rfl; have hcz35_1 : w34.cell? ⟨gb101018, 1, none⟩ = some (.int .i64 t101013) := (blk_cell BK101018.out 1).trans rfl; have hcz35_2 : w34.cell? ⟨gb101018, 2, none⟩ = some (.int .i64 t101014) := (blk_cell BK101018.out 2).trans rfl; have hcz35_3 : w34.cell? ⟨gb101018, 3, none⟩ = some (.slice Ao33 x101019003_1.length co33) := (blk_cell BK101018.out 3).trans rfl; have hfz35_0 := blk_frozen BK101018.out 0; have hfz35_1 := blk_frozen BK101018.out 1; have hfz35_2 := blk_frozen BK101018.out 2; have hfz35_3 := blk_frozen BK101018.out 3; have p29 : 0 ≤ (x8_1 : Int) := of_decide_eq_true (by first | (with_reducible assumption) | assumption); have q29 : (x8_1 : Int) < ((x101019003_1.length : Int) : Int) := of_decide_eq_true (by first | (with_reducible assumption) | assumption); obtain ⟨go29, co29, eo29, gb29, gl29, cl29, HG29⟩ := Kd.R_form HO_101019003.out (by omega); (first | cases eo29 | (injection eo29 with ea_ en_ ec_; (first | subst ea_ | (injection ea_ with ea_; subst ea_)); subst ec_; clear en_)); have GB29 := Aside0.mk gb29; have GG29 := Aside0.mk HG29; clear gb29 gl29 HG29; obtain ⟨hx29_0, hf29_0⟩ := Kd.R_celln 0 HO_101019003.out (x8_1 : Int) p29 q29; replace p29 := eq_true p29; replace q29 := eq_true q29; obtain ⟨hy36_, hz36_⟩ := Kd.R_celln 0 HO_101019003.out (x8_1 : Int) (of_decide_eq_true (by first | (with_reducible assumption) | assumption)) (of_decide_eq_true (by first | (with_reducible assumption) | assumption)); have HP36 := Kd.R_putg HO_101019003.out (x8_1 : Int) t101023) | ((with_reducible refine gate_store (t := 3) (p := 50) rfl ?_); refine store_event (t := 3) (p := 50) (v := ?vo_w37) (w1 := (w34.setCell ⟨go29, (x8_1 : Int).toNat, none⟩ (.int .i64 t101023))) ?hg ?ho ?hn ?hr ?_; (case ho => rfl); (case hg => rfl); (case hn => rfl); (case hr => first | (go_simp; done) | (go_simp; rfl)); intro w37 hw; have hg : w34.grownBy w37 (some go29) := (by rw [hw]; exact HP36.2); have hp_ : Kd.R (Kd.int .i64) 3 w37 w.heap.size (fun _ => True) (.slice (some ⟨go29, 0, none⟩) x101019003_1.length co33) y101025 := (by rw [hw, Ny101025.out]; exact HP36.1); clear HP36; have n0_ := Aside0.mk (hp_); have n1_ := Aside0.mk (blk_grown (g := gb101001) (o := .cells #[.int .i64 0, .int .i64 0, .int .i64 0, .slice none 0 0] 28 (0, 0)) (by (with_reducible repeat (first | refine blk_drewN ?_ _ | refine blk_drew ?_ | refine blk_alloc ?_ _)); exact BK101001.out) hg (Kd.R_ne HO_101019003.out BK101001.out (by decide))); have n2_ := Aside0.mk (blk_grown (g := gb101018) (o := .cells #[.int .i64 t101012, .int .i64 t101013, .int .i64 t101014, .slice (some ⟨go29, 0, none⟩) x101019003_1.length co33] 28 (0, 0)) (by (with_reducible repeat (first | refine blk_drewN ?_ _ | refine blk_drew ?_ | refine blk_alloc ?_ _)); exact BK101018.out) hg (Kd.R_ne HO_101019003.out BK101018.out (by decide))); have n3_ := Aside0.mk (IsS100.grown (by repeat (first | (with_reducible first | exact HI0.out | apply IsS100.alloc | apply IsS100.drewN | apply IsS100.drew | apply IsS100.set_1 | refine IsS100.far ?_ NB0_101001.out _ | refine IsS100.far ?_ NB0_101018.out _) | exact HI0.out)) hg (IsS100.own_ne HI0.out HO_101019003.out (by decide))); have n4_ := Aside0.mk ((by rw [hw]; exact below_set (HB.out) (Nat.le_trans HL.out GB29.out) : Below w0.heap.size w0 w37)); have n5_ := Aside0.mk (KeepBut.trans (by repeat (first | (with_reducible first | exact HK.out | apply KeepBut.set_ | apply keep_drewN | apply keep_drew | apply keep_alloc | refine keep_far ?_ GW101001.out _ | refine keep_far ?_ GW101018.out _) | exact HK.out)) (KeepBut.of_grown hg g) (Kd.R_base2 HO_101019003.out)); clear HO_101019003; clear BK101001; clear BK101018; clear HI0; clear HB; clear HK; have HO_101019003 := n0_; have BK101001 := n1_; have BK101018 := n2_; have HI0 := n3_; have HB := n4_; have HK := n5_; clear n0_ n1_ n2_ n3_ n4_ n5_; clear hg hw hp_))
            go_roundg k1
            case measure => have := HK1.out; omega
            case rel => exact ⟨(t101023), (wrap64 (x8_1 + 1)), (t101024), (y101025), (.slice (some ⟨go29, 0, none⟩) x101019003_1.length co33), (by first | rfl | (simp; done) | (simp [*]; done)), (by first | rfl | (simp; done) | (simp [*]; done)), H', ⟨by have := HK1.out; omega⟩, ⟨by (with_reducible repeat (first | apply Kd.R_alloc | apply Kd.R_drewN | apply Kd.R_drew)); exact HO_101019003.out⟩, ⟨by (with_reducible repeat (first | refine blk_drewN ?_ _ | refine blk_drew ?_ | refine blk_alloc ?_ _)); exact BK101001.out⟩, ⟨by (with_reducible repeat (first | refine blk_drewN ?_ _ | refine blk_drew ?_ | refine blk_alloc ?_ _)); exact BK101018.out⟩, ⟨by repeat (first | (with_reducible first | exact HI0.out | apply IsS100.alloc | apply IsS100.drewN | apply IsS100.drew | apply IsS100.set_1 | refine IsS100.far ?_ NB0_101001.out _ | refine IsS100.far ?_ NB0_101018.out _) | exact HI0.out)⟩, ⟨by repeat (first | (with_reducible first | exact HK.out | apply KeepBut.set_ | apply keep_drewN | apply keep_drew | apply keep_alloc | refine keep_far ?_ GW101001.out _ | refine keep_far ?_ GW101018.out _) | exact HK.out)⟩, ⟨by repeat (first | (with_reducible first | exact HB.out | apply below_alloc | apply pw_below_drewN | apply below_drew1 | refine below_set ?_ (IsS100.ge HI0.out) | refine below_set ?_ GE101001.out | refine below_set ?_ GE101018.out) | exact HB.out)⟩⟩
          · rw [if_neg c28] at H
            exact absurd H (by simp)
        · rw [if_neg c26] at H
          have c26b0 : (t101019 == 0) = false := beq_eq_false_iff_ne.mpr c26
          have c26b1 : (t101019 != 0) = true := bne_iff_ne.mpr c26
          by_cases c38 : t101019 = 1
          · rw [if_pos c38] at H
            have c38b0 : (t101019 == 1) = true := beq_iff_eq.mpr c38
            have c38b1 : (t101019 != 1) = false := bne_eq_false_iff_eq.mpr c38
            clear c38
            replace H := Option.bind_eq_some_iff.mp H
            obtain ⟨⟨t101026, t101027⟩, A390, H⟩ := H
            replace H : (if 0 ≤ x8_1 then (spec_randomImage.l0 k1 t101019 (Int.tmod (wrap64 ((wrap64 (x7_1 + t101026)) + 254)) 256) (wrap64 (x8_1 + 1)) s0_0 t101027 t101012 t101013 t101014 (x101019003_1.set (x8_1 : Int).toNat (Int.tmod (wrap64 ((wrap64 (x7_1 + t101026)) + 254)) 256))) else (none)) = some (r1, r2, r3, r4, r5) := H
            have A39 := Aside0.mk A390
            clear A390
            by_cases c40 : 0 ≤ x8_1
            · rw [if_pos c40] at H
              have c40b0 : decide (0 ≤ x8_1) = true := decide_eq_true c40
              clear c40
              obtain ⟨y101028, hy101028⟩ : ∃ y_ : List Int, y_ = (x101019003_1.set (x8_1 : Int).toNat (Int.tmod (wrap64 ((wrap64 (x7_1 + t101026)) + 254)) 256)) := ⟨_, rfl⟩
              replace H : (spec_randomImage.l0 k1 t101019 (Int.tmod (wrap64 ((wrap64 (x7_1 + t101026)) + 254)) 256) (wrap64 (x8_1 + 1)) s0_0 t101027 t101012 t101013 t101014 y101028) = some (r1, r2, r3, r4, r5) := by first | (rw [hy101028]; with_reducible exact H) | (have H2_ := (Option.bind_some _ _).symm.trans H; rw [hy101028]; with_reducible exact H2_) | (have H2_ := (Option.bind_some _ _).symm.trans H; with_reducible exact H2_) | with_reducible exact H | (rw [hy101028]; exact H) | exact H
              have Ny101028 := Aside0.mk hy101028
              clear hy101028
              have H' := Aside0.mk H
              clear H
              have hnb42 := NB101018_101001.out
              have hnc42 := NB101001_101018.out
              have hnb43 := NB101018_0.out
              have hnc43 := NB0_101018.out
              have hcz44_0 : wr.cell? ⟨gb101018, 0, none⟩ = some (.int .i64 t101012) := (blk_cell BK101018.out 0).trans rfl
              have hcz44_1 : wr.cell? ⟨gb101018, 1, none⟩ = some (.int .i64 t101013) := (blk_cell BK101018.out 1).trans rfl
              have hcz44_2 : wr.cell? ⟨gb101018, 2, none⟩ = some (.int .i64 t101014) := (blk_cell BK101018.out 2).trans rfl
              have hcz44_3 : wr.cell? ⟨gb101018, 3, none⟩ = some (u101019003) := (blk_cell BK101018.out 3).trans rfl
              have hfz44_0 := blk_frozen BK101018.out 0
              have hfz44_1 := blk_frozen BK101018.out 1
              have hfz44_2 := blk_frozen BK101018.out 2
              have hfz44_3 := blk_frozen BK101018.out 3
              obtain ⟨Ao45, co45, eo45⟩ := Kd.R_slice HO_101019003.out
              subst eo45
              go_wp2_with (first | ((with_reducible refine gate_callee (f := 82) rfl ?_); refine goesL_ (some 37) rfl rfl Try.func82 (by kernel_rfl) rfl #[.pointer (some ⟨g, 0, none⟩), .int .i64 5] rfl (by (try simp only [List.map_toArray, List.map_cons, List.map_nil]); first | done | rfl | (simp only [List.length_drop, List.length_take]; rfl)) ?_; (with_reducible refine (spec_reader_pick.calls k1 g s0_0 x1001_1 5 t101026 t101027 w0 _ ?side1 ?side2 A39.out).mono ?_); (case side1 => repeat (first | (with_reducible first | exact HI0.out | apply IsS100.alloc | apply IsS100.drewN | apply IsS100.drew | apply IsS100.set_1 | refine IsS100.far ?_ NB0_101001.out _ | refine IsS100.far ?_ NB0_101018.out _) | exact HI0.out)); (case side2 => repeat (first | (with_reducible first | exact HB.out | apply below_alloc | apply pw_below_drewN | apply below_drew1 | refine below_set ?_ (IsS100.ge HI0.out) | refine below_set ?_ GE101001.out | refine below_set ?_ GE101018.out) | exact HB.out)); rintro e w46 ⟨rfl, hi, hb, hk⟩; refine ⟨_, rfl, ?_⟩; have n0_ := Aside0.mk (Kd.R_mono (Kd.R_keep (IsS100.apart (show IsS100 w0 _ g s0_0 x1001_1 from by repeat (first | (with_reducible first | exact HI0.out | apply IsS100.alloc | apply IsS100.drewN | apply IsS100.drew | apply IsS100.set_1 | refine IsS100.far ?_ NB0_101001.out _ | refine IsS100.far ?_ NB0_101018.out _) | exact HI0.out)) (by (with_reducible repeat (first | apply Kd.R_alloc | apply Kd.R_drewN | apply Kd.R_drew)); exact HO_101019003.out) (by decide)) hk (fun _ h => h.2)) (fun _ h => h.1)); have n1_ := Aside0.mk (KeepBut.blk hk (g' := gb101001) (o := .cells #[.int .i64 0, .int .i64 0, .int .i64 0, .slice none 0 0] 28 (0, 0)) (by (with_reducible repeat (first | refine blk_drewN ?_ _ | refine blk_drew ?_ | refine blk_alloc ?_ _)); exact BK101001.out) NB101001_0.out (by simp)); have n2_ := Aside0.mk (KeepBut.blk hk (g' := gb101018) (o := .cells #[.int .i64 t101012, .int .i64 t101013, .int .i64 t101014, .slice Ao45 x101019003_1.length co45] 28 (0, 0)) (by (with_reducible repeat (first | refine blk_drewN ?_ _ | refine blk_drew ?_ | refine blk_alloc ?_ _)); exact BK101018.out) NB101018_0.out (by simp)); have n3_ := Aside0.mk (KeepBut.trans (by repeat (first | (with_reducible first | exact HK.out | apply KeepBut.set_ | apply keep_drewN | apply keep_drew | apply keep_alloc | refine keep_far ?_ GW101001.out _ | refine keep_far ?_ GW101018.out _) | exact HK.out)) hk (.inl rfl)); have n4_ := Aside0.mk (hb); have n5_ := Aside0.mk (hi); clear HO_101019003; clear BK101001; clear BK101018; clear HK; clear HB; clear HI0; have HO_101019003 := n0_; have BK101001 := n1_; have BK101018 := n2_; have HK := n3_; have HB := n4_; have HI0 := n5_; clear n0_ n1_ n2_ n3_ n4_ n5_; (try clear hb); (try clear hb2); (try clear hk); (try clear hi); have hcz47_0 : w46.cell? ⟨gb101018, 0, none⟩ = some (.int .i64 t101012) := (blk_cell BK101018.out 0).trans rfl; have hcz47_1 : w46.cell? ⟨gb101018, 1, none⟩ = some (.int .i64 t101013) := (blk_cell BK101018.out 1).trans rfl; have hcz47_2 : w46.cell? ⟨gb101018, 2, none⟩ = some (.int .i64 t101014) := (blk_cell BK101018.out 2).trans rfl; have hcz47_3 : w46.cell? ⟨gb101018, 3, none⟩ = some (.slice Ao45 x101019003_1.length co45) := (blk_cell BK101018.out 3).trans rfl; have hfz47_0 := blk_frozen BK101018.out 0; have hfz47_1 := blk_frozen BK101018.out 1; have hfz47_2 := blk_frozen BK101018.out 2; have hfz47_3 := blk_frozen BK101018.out 3; have p41 : 0 ≤ (x8_1 : Int) := of_decide_eq_true (by first | (with_reducible assumption) | assumption); have q41 : (x8_1 : Int) < ((x101019003_1.length : Int) : Int) := of_decide_eq_true (by first | (with_reducible assumption) | assumption); obtain ⟨go41, co41, eo41, gb41, gl41, cl41, HG41⟩ := Kd.R_form HO_101019003.out (by omega); (first | cases eo41 | (injection eo41 with ea_ en_ ec_; (first | subst ea_ | (injection ea_ with ea_; subst ea_)); subst ec_; clear en_)); have GB41 := Aside0.mk gb41; have GG41 := Aside0.mk HG41; clear gb41 gl41 HG41; obtain ⟨hx41_0, hf41_0⟩ := Kd.R_celln 0 HO_101019003.out (x8_1 : Int) p41 q41; replace p41 := eq_true p41; replace q41 := eq_true q41; obtain ⟨hy48_, hz48_⟩ := Kd.R_celln 0 HO_101019003.out (x8_1 : Int) (of_decide_eq_true (by first | (with_reducible assumption) | assumption)) (of_decide_eq_true (by first | (with_reducible assumption) | assumption)); have HP48 := Kd.R_putg HO_101019003.out (x8_1 : Int) (Int.tmod (wrap64 ((wrap64 (x7_1 + t101026)) + 254)) 256)) | ((with_reducible refine gate_store (t := 3) (p := 50) rfl ?_); refine store_event (t := 3) (p := 50) (v := ?vo_w49) (w1 := (w46.setCell ⟨go41, (x8_1 : Int).toNat, none⟩ (.int .i64 (Int.tmod (wrap64 ((wrap64 (x7_1 + t101026)) + 254)) 256)))) ?hg ?ho ?hn ?hr ?_; (case ho => rfl); (case hg => rfl); (case hn => rfl); (case hr => first | (go_simp; done) | (go_simp; rfl)); intro w49 hw; have hg : w46.grownBy w49 (some go41) := (by rw [hw]; exact HP48.2); have hp_ : Kd.R (Kd.int .i64) 3 w49 w.heap.size (fun _ => True) (.slice (some ⟨go41, 0, none⟩) x101019003_1.length co45) y101028 := (by rw [hw, Ny101028.out]; exact HP48.1); clear HP48; have n0_ := Aside0.mk (hp_); have n1_ := Aside0.mk (blk_grown (g := gb101001) (o := .cells #[.int .i64 0, .int .i64 0, .int .i64 0, .slice none 0 0] 28 (0, 0)) (by (with_reducible repeat (first | refine blk_drewN ?_ _ | refine blk_drew ?_ | refine blk_alloc ?_ _)); exact BK101001.out) hg (Kd.R_ne HO_101019003.out BK101001.out (by decide))); have n2_ := Aside0.mk (blk_grown (g := gb101018) (o := .cells #[.int .i64 t101012, .int .i64 t101013, .int .i64 t101014, .slice (some ⟨go41, 0, none⟩) x101019003_1.length co45] 28 (0, 0)) (by (with_reducible repeat (first | refine blk_drewN ?_ _ | refine blk_drew ?_ | refine blk_alloc ?_ _)); exact BK101018.out) hg (Kd.R_ne HO_101019003.out BK101018.out (by decide))); have n3_ := Aside0.mk (IsS100.grown (by repeat (first | (with_reducible first | exact HI0.out | apply IsS100.alloc | apply IsS100.drewN | apply IsS100.drew | apply IsS100.set_1 | refine IsS100.far ?_ NB0_101001.out _ | refine IsS100.far ?_ NB0_101018.out _) | exact HI0.out)) hg (IsS100.own_ne HI0.out HO_101019003.out (by decide))); have n4_ := Aside0.mk ((by rw [hw]; exact below_set (HB.out) (Nat.le_trans HL.out GB41.out) : Below w0.heap.size w0 w49)); have n5_ := Aside0.mk (KeepBut.trans (by repeat (first | (with_reducible first | exact HK.out | apply KeepBut.set_ | apply keep_drewN | apply keep_drew | apply keep_alloc | refine keep_far ?_ GW101001.out _ | refine keep_far ?_ GW101018.out _) | exact HK.out)) (KeepBut.of_grown hg g) (Kd.R_base2 HO_101019003.out)); clear HO_101019003; clear BK101001; clear BK101018; clear HI0; clear HB; clear HK; have HO_101019003 := n0_; have BK101001 := n1_; have BK101018 := n2_; have HI0 := n3_; have HB := n4_; have HK := n5_; clear n0_ n1_ n2_ n3_ n4_ n5_; clear hg hw hp_))
              go_roundg k1
              case measure => have := HK1.out; omega
              case rel => exact ⟨(Int.tmod (wrap64 ((wrap64 (x7_1 + t101026)) + 254)) 256), (wrap64 (x8_1 + 1)), (t101027), (y101028), (.slice (some ⟨go41, 0, none⟩) x101019003_1.length co45), (by first | rfl | (simp; done) | (simp [*]; done)), (by first | rfl | (simp; done) | (simp [*]; done)), H', ⟨by have := HK1.out; omega⟩, ⟨by (with_reducible repeat (first | apply Kd.R_alloc | apply Kd.R_drewN | apply Kd.R_drew)); exact HO_101019003.out⟩, ⟨by (with_reducible repeat (first | refine blk_drewN ?_ _ | refine blk_drew ?_ | refine blk_alloc ?_ _)); exact BK101001.out⟩, ⟨by (with_reducible repeat (first | refine blk_drewN ?_ _ | refine blk_drew ?_ | refine blk_alloc ?_ _)); exact BK101018.out⟩, ⟨by repeat (first | (with_reducible first | exact HI0.out | apply IsS100.alloc | apply IsS100.drewN | apply IsS100.drew | apply IsS100.set_1 | refine IsS100.far ?_ NB0_101001.out _ | refine IsS100.far ?_ NB0_101018.out _) | exact HI0.out)⟩, ⟨by repeat (first | (with_reducible first | exact HK.out | apply KeepBut.set_ | apply keep_drewN | apply keep_drew | apply keep_alloc | refine keep_far ?_ GW101001.out _ | refine keep_far ?_ GW101018.out _) | exact HK.out)⟩, ⟨by repeat (first | (with_reducible first | exact HB.out | apply below_alloc | apply pw_below_drewN | apply below_drew1 | refine below_set ?_ (IsS100.ge HI0.out) | refine below_set ?_ GE101001.out | refine below_set ?_ GE101018.out) | exact HB.out)⟩⟩
            · rw [if_neg c40] at H
              exact absurd H (by simp)
          · rw [if_neg c38] at H
            have c38b0 : (t101019 == 1) = false := beq_eq_false_iff_ne.mpr c38
            have c38b1 : (t101019 != 1) = true := bne_iff_ne.mpr c38
            by_cases c50 : t101019 = 2
            · rw [if_pos c50] at H
              have c50b0 : (t101019 == 2) = true := beq_iff_eq.mpr c50
              have c50b1 : (t101019 != 2) = false := bne_eq_false_iff_eq.mpr c50
              clear c50
              replace H := Option.bind_eq_some_iff.mp H
              obtain ⟨⟨t101029, t101030⟩, A510, H⟩ := H
              replace H : (if 0 ≤ x8_1 then (spec_randomImage.l0 k1 t101019 (wrap64 (60 * t101029)) (wrap64 (x8_1 + 1)) s0_0 t101030 t101012 t101013 t101014 (x101019003_1.set (x8_1 : Int).toNat (wrap64 (60 * t101029)))) else (none)) = some (r1, r2, r3, r4, r5) := H
              have A51 := Aside0.mk A510
              clear A510
              by_cases c52 : 0 ≤ x8_1
              · rw [if_pos c52] at H
                have c52b0 : decide (0 ≤ x8_1) = true := decide_eq_true c52
                clear c52
                obtain ⟨y101031, hy101031⟩ : ∃ y_ : List Int, y_ = (x101019003_1.set (x8_1 : Int).toNat (wrap64 (60 * t101029))) := ⟨_, rfl⟩
                replace H : (spec_randomImage.l0 k1 t101019 (wrap64 (60 * t101029)) (wrap64 (x8_1 + 1)) s0_0 t101030 t101012 t101013 t101014 y101031) = some (r1, r2, r3, r4, r5) := by first | (rw [hy101031]; with_reducible exact H) | (have H2_ := (Option.bind_some _ _).symm.trans H; rw [hy101031]; with_reducible exact H2_) | (have H2_ := (Option.bind_some _ _).symm.trans H; with_reducible exact H2_) | with_reducible exact H | (rw [hy101031]; exact H) | exact H
                have Ny101031 := Aside0.mk hy101031
                clear hy101031
                have H' := Aside0.mk H
                clear H
                have hnb54 := NB101018_101001.out
                have hnc54 := NB101001_101018.out
                have hnb55 := NB101018_0.out
                have hnc55 := NB0_101018.out
                have hcz56_0 : wr.cell? ⟨gb101018, 0, none⟩ = some (.int .i64 t101012) := (blk_cell BK101018.out 0).trans rfl
                have hcz56_1 : wr.cell? ⟨gb101018, 1, none⟩ = some (.int .i64 t101013) := (blk_cell BK101018.out 1).trans rfl
                have hcz56_2 : wr.cell? ⟨gb101018, 2, none⟩ = some (.int .i64 t101014) := (blk_cell BK101018.out 2).trans rfl
                have hcz56_3 : wr.cell? ⟨gb101018, 3, none⟩ = some (u101019003) := (blk_cell BK101018.out 3).trans rfl
                have hfz56_0 := blk_frozen BK101018.out 0
                have hfz56_1 := blk_frozen BK101018.out 1
                have hfz56_2 := blk_frozen BK101018.out 2
                have hfz56_3 := blk_frozen BK101018.out 3
                obtain ⟨Ao57, co57, eo57⟩ := Kd.R_slice HO_101019003.out
                subst eo57
                go_wp2_with (first | ((with_reducible refine gate_callee (f := 82) rfl ?_); refine goesL_ (some 44) rfl rfl Try.func82 (by kernel_rfl) rfl #[.pointer (some ⟨g, 0, none⟩), .int .i64 4] rfl (by (try simp only [List.map_toArray, List.map_cons, List.map_nil]); first | done | rfl | (simp only [List.length_drop, List.length_take]; rfl)) ?_; (with_reducible refine (spec_reader_pick.calls k1 g s0_0 x1001_1 4 t101029 t101030 w0 _ ?side1 ?side2 A51.out).mono ?_); (case side1 => repeat (first | (with_reducible first | exact HI0.out | apply IsS100.alloc | apply IsS100.drewN | apply IsS100.drew | apply IsS100.set_1 | refine IsS100.far ?_ NB0_101001.out _ | refine IsS100.far ?_ NB0_101018.out _) | exact HI0.out)); (case side2 => repeat (first | (with_reducible first | exact HB.out | apply below_alloc | apply pw_below_drewN | apply below_drew1 | refine below_set ?_ (IsS100.ge HI0.out) | refine below_set ?_ GE101001.out | refine below_set ?_ GE101018.out) | exact HB.out)); rintro e w58 ⟨rfl, hi, hb, hk⟩; refine ⟨_, rfl, ?_⟩; have n0_ := Aside0.mk (Kd.R_mono (Kd.R_keep (IsS100.apart (show IsS100 w0 _ g s0_0 x1001_1 from by repeat (first | (with_reducible first | exact HI0.out | apply IsS100.alloc | apply IsS100.drewN | apply IsS100.drew | apply IsS100.set_1 | refine IsS100.far ?_ NB0_101001.out _ | refine IsS100.far ?_ NB0_101018.out _) | exact HI0.out)) (by (with_reducible repeat (first | apply Kd.R_alloc | apply Kd.R_drewN | apply Kd.R_drew)); exact HO_101019003.out) (by decide)) hk (fun _ h => h.2)) (fun _ h => h.1)); have n1_ := Aside0.mk (KeepBut.blk hk (g' := gb101001) (o := .cells #[.int .i64 0, .int .i64 0, .int .i64 0, .slice none 0 0] 28 (0, 0)) (by (with_reducible repeat (first | refine blk_drewN ?_ _ | refine blk_drew ?_ | refine blk_alloc ?_ _)); exact BK101001.out) NB101001_0.out (by simp)); have n2_ := Aside0.mk (KeepBut.blk hk (g' := gb101018) (o := .cells #[.int .i64 t101012, .int .i64 t101013, .int .i64 t101014, .slice Ao57 x101019003_1.length co57] 28 (0, 0)) (by (with_reducible repeat (first | refine blk_drewN ?_ _ | refine blk_drew ?_ | refine blk_alloc ?_ _)); exact BK101018.out) NB101018_0.out (by simp)); have n3_ := Aside0.mk (KeepBut.trans (by repeat (first | (with_reducible first | exact HK.out | apply KeepBut.set_ | apply keep_drewN | apply keep_drew | apply keep_alloc | refine keep_far ?_ GW101001.out _ | refine keep_far ?_ GW101018.out _) | exact HK.out)) hk (.inl rfl)); have n4_ := Aside0.mk (hb); have n5_ := Aside0.mk (hi); clear HO_101019003; clear BK101001; clear BK101018; clear HK; clear HB; clear HI0; have HO_101019003 := n0_; have BK101001 := n1_; have BK101018 := n2_; have HK := n3_; have HB := n4_; have HI0 := n5_; clear n0_ n1_ n2_ n3_ n4_ n5_; (try clear hb); (try clear hb2); (try clear hk); (try clear hi); have hcz59_0 : w58.cell? ⟨gb101018, 0, none⟩ = some (.int .i64 t101012) := (blk_cell BK101018.out 0).trans rfl; have hcz59_1 : w58.cell? ⟨gb101018, 1, none⟩ = some (.int .i64 t101013) := (blk_cell BK101018.out 1).trans rfl; have hcz59_2 : w58.cell? ⟨gb101018, 2, none⟩ = some (.int .i64 t101014) := (blk_cell BK101018.out 2).trans rfl; have hcz59_3 : w58.cell? ⟨gb101018, 3, none⟩ = some (.slice Ao57 x101019003_1.length co57) := (blk_cell BK101018.out 3).trans rfl; have hfz59_0 := blk_frozen BK101018.out 0; have hfz59_1 := blk_frozen BK101018.out 1; have hfz59_2 := blk_frozen BK101018.out 2; have hfz59_3 := blk_frozen BK101018.out 3; have p53 : 0 ≤ (x8_1 : Int) := of_decide_eq_true (by first | (with_reducible assumption) | assumption); have q53 : (x8_1 : Int) < ((x101019003_1.length : Int) : Int) := of_decide_eq_true (by first | (with_reducible assumption) | assumption); obtain ⟨go53, co53, eo53, gb53, gl53, cl53, HG53⟩ := Kd.R_form HO_101019003.out (by omega); (first | cases eo53 | (injection eo53 with ea_ en_ ec_; (first | subst ea_ | (injection ea_ with ea_; subst ea_)); subst ec_; clear en_)); have GB53 := Aside0.mk gb53; have GG53 := Aside0.mk HG53; clear gb53 gl53 HG53; obtain ⟨hx53_0, hf53_0⟩ := Kd.R_celln 0 HO_101019003.out (x8_1 : Int) p53 q53; replace p53 := eq_true p53; replace q53 := eq_true q53; obtain ⟨hy60_, hz60_⟩ := Kd.R_celln 0 HO_101019003.out (x8_1 : Int) (of_decide_eq_true (by first | (with_reducible assumption) | assumption)) (of_decide_eq_true (by first | (with_reducible assumption) | assumption)); have HP60 := Kd.R_putg HO_101019003.out (x8_1 : Int) (wrap64 (60 * t101029))) | ((with_reducible refine gate_store (t := 3) (p := 50) rfl ?_); refine store_event (t := 3) (p := 50) (v := ?vo_w61) (w1 := (w58.setCell ⟨go53, (x8_1 : Int).toNat, none⟩ (.int .i64 (wrap64 (60 * t101029))))) ?hg ?ho ?hn ?hr ?_; (case ho => rfl); (case hg => rfl); (case hn => rfl); (case hr => first | (go_simp; done) | (go_simp; rfl)); intro w61 hw; have hg : w58.grownBy w61 (some go53) := (by rw [hw]; exact HP60.2); have hp_ : Kd.R (Kd.int .i64) 3 w61 w.heap.size (fun _ => True) (.slice (some ⟨go53, 0, none⟩) x101019003_1.length co57) y101031 := (by rw [hw, Ny101031.out]; exact HP60.1); clear HP60; have n0_ := Aside0.mk (hp_); have n1_ := Aside0.mk (blk_grown (g := gb101001) (o := .cells #[.int .i64 0, .int .i64 0, .int .i64 0, .slice none 0 0] 28 (0, 0)) (by (with_reducible repeat (first | refine blk_drewN ?_ _ | refine blk_drew ?_ | refine blk_alloc ?_ _)); exact BK101001.out) hg (Kd.R_ne HO_101019003.out BK101001.out (by decide))); have n2_ := Aside0.mk (blk_grown (g := gb101018) (o := .cells #[.int .i64 t101012, .int .i64 t101013, .int .i64 t101014, .slice (some ⟨go53, 0, none⟩) x101019003_1.length co57] 28 (0, 0)) (by (with_reducible repeat (first | refine blk_drewN ?_ _ | refine blk_drew ?_ | refine blk_alloc ?_ _)); exact BK101018.out) hg (Kd.R_ne HO_101019003.out BK101018.out (by decide))); have n3_ := Aside0.mk (IsS100.grown (by repeat (first | (with_reducible first | exact HI0.out | apply IsS100.alloc | apply IsS100.drewN | apply IsS100.drew | apply IsS100.set_1 | refine IsS100.far ?_ NB0_101001.out _ | refine IsS100.far ?_ NB0_101018.out _) | exact HI0.out)) hg (IsS100.own_ne HI0.out HO_101019003.out (by decide))); have n4_ := Aside0.mk ((by rw [hw]; exact below_set (HB.out) (Nat.le_trans HL.out GB53.out) : Below w0.heap.size w0 w61)); have n5_ := Aside0.mk (KeepBut.trans (by repeat (first | (with_reducible first | exact HK.out | apply KeepBut.set_ | apply keep_drewN | apply keep_drew | apply keep_alloc | refine keep_far ?_ GW101001.out _ | refine keep_far ?_ GW101018.out _) | exact HK.out)) (KeepBut.of_grown hg g) (Kd.R_base2 HO_101019003.out)); clear HO_101019003; clear BK101001; clear BK101018; clear HI0; clear HB; clear HK; have HO_101019003 := n0_; have BK101001 := n1_; have BK101018 := n2_; have HI0 := n3_; have HB := n4_; have HK := n5_; clear n0_ n1_ n2_ n3_ n4_ n5_; clear hg hw hp_))
                go_roundg k1
                case measure => have := HK1.out; omega
                case rel => exact ⟨(wrap64 (60 * t101029)), (wrap64 (x8_1 + 1)), (t101030), (y101031), (.slice (some ⟨go53, 0, none⟩) x101019003_1.length co57), (by first | rfl | (simp; done) | (simp [*]; done)), (by first | rfl | (simp; done) | (simp [*]; done)), H', ⟨by have := HK1.out; omega⟩, ⟨by (with_reducible repeat (first | apply Kd.R_alloc | apply Kd.R_drewN | apply Kd.R_drew)); exact HO_101019003.out⟩, ⟨by (with_reducible repeat (first | refine blk_drewN ?_ _ | refine blk_drew ?_ | refine blk_alloc ?_ _)); exact BK101001.out⟩, ⟨by (with_reducible repeat (first | refine blk_drewN ?_ _ | refine blk_drew ?_ | refine blk_alloc ?_ _)); exact BK101018.out⟩, ⟨by repeat (first | (with_reducible first | exact HI0.out | apply IsS100.alloc | apply IsS100.drewN | apply IsS100.drew | apply IsS100.set_1 | refine IsS100.far ?_ NB0_101001.out _ | refine IsS100.far ?_ NB0_101018.out _) | exact HI0.out)⟩, ⟨by repeat (first | (with_reducible first | exact HK.out | apply KeepBut.set_ | apply keep_drewN | apply keep_drew | apply keep_alloc | refine keep_far ?_ GW101001.out _ | refine keep_far ?_ GW101018.out _) | exact HK.out)⟩, ⟨by repeat (first | (with_reducible first | exact HB.out | apply below_alloc | apply pw_below_drewN | apply below_drew1 | refine below_set ?_ (IsS100.ge HI0.out) | refine below_set ?_ GE101001.out | refine below_set ?_ GE101018.out) | exact HB.out)⟩⟩
              · rw [if_neg c52] at H
                exact absurd H (by simp)
            · rw [if_neg c50] at H
              have c50b0 : (t101019 == 2) = false := beq_eq_false_iff_ne.mpr c50
              have c50b1 : (t101019 != 2) = true := bne_iff_ne.mpr c50
              by_cases c62 : 0 ≤ x8_1
              · rw [if_pos c62] at H
                have c62b0 : decide (0 ≤ x8_1) = true := decide_eq_true c62
                clear c62
                obtain ⟨y101032, hy101032⟩ : ∃ y_ : List Int, y_ = (x101019003_1.set (x8_1 : Int).toNat x7_1) := ⟨_, rfl⟩
                replace H : (spec_randomImage.l0 k1 t101019 x7_1 (wrap64 (x8_1 + 1)) s0_0 x1001_1 t101012 t101013 t101014 y101032) = some (r1, r2, r3, r4, r5) := by first | (rw [hy101032]; with_reducible exact H) | (have H2_ := (Option.bind_some _ _).symm.trans H; rw [hy101032]; with_reducible exact H2_) | (have H2_ := (Option.bind_some _ _).symm.trans H; with_reducible exact H2_) | with_reducible exact H | (rw [hy101032]; exact H) | exact H
                have Ny101032 := Aside0.mk hy101032
                clear hy101032
                have H' := Aside0.mk H
                clear H
                have hnb64 := NB101018_101001.out
                have hnc64 := NB101001_101018.out
                have hnb65 := NB101018_0.out
                have hnc65 := NB0_101018.out
                have hcz66_0 : wr.cell? ⟨gb101018, 0, none⟩ = some (.int .i64 t101012) := (blk_cell BK101018.out 0).trans rfl
                have hcz66_1 : wr.cell? ⟨gb101018, 1, none⟩ = some (.int .i64 t101013) := (blk_cell BK101018.out 1).trans rfl
                have hcz66_2 : wr.cell? ⟨gb101018, 2, none⟩ = some (.int .i64 t101014) := (blk_cell BK101018.out 2).trans rfl
                have hcz66_3 : wr.cell? ⟨gb101018, 3, none⟩ = some (u101019003) := (blk_cell BK101018.out 3).trans rfl
                have hfz66_0 := blk_frozen BK101018.out 0
                have hfz66_1 := blk_frozen BK101018.out 1
                have hfz66_2 := blk_frozen BK101018.out 2
                have hfz66_3 := blk_frozen BK101018.out 3
                obtain ⟨Ao67, co67, eo67⟩ := Kd.R_slice HO_101019003.out
                subst eo67
                have p63 : 0 ≤ (x8_1 : Int) := of_decide_eq_true (by first | (with_reducible assumption) | assumption)
                have q63 : (x8_1 : Int) < ((x101019003_1.length : Int) : Int) := of_decide_eq_true (by first | (with_reducible assumption) | assumption)
                obtain ⟨go63, co63, eo63, gb63, gl63, cl63, HG63⟩ := Kd.R_form HO_101019003.out (by omega)
                (first | cases eo63 | (injection eo63 with ea_ en_ ec_; (first | subst ea_ | (injection ea_ with ea_; subst ea_)); subst ec_; clear en_))
                have GB63 := Aside0.mk gb63
                have GG63 := Aside0.mk HG63
                clear gb63 gl63 HG63
                obtain ⟨hx63_0, hf63_0⟩ := Kd.R_celln 0 HO_101019003.out (x8_1 : Int) p63 q63
                replace p63 := eq_true p63
                replace q63 := eq_true q63
                have HP68 := Kd.R_putg HO_101019003.out (x8_1 : Int) x7_1
                go_wp2_with (first | ((with_reducible refine gate_store (t := 3) (p := 50) rfl ?_); refine store_event (t := 3) (p := 50) (v := ?vo_w69) (w1 := (wr.setCell ⟨go63, (x8_1 : Int).toNat, none⟩ (.int .i64 x7_1))) ?hg ?ho ?hn ?hr ?_; (case ho => rfl); (case hg => rfl); (case hn => rfl); (case hr => first | (go_simp; done) | (go_simp; rfl)); intro w69 hw; have hg : wr.grownBy w69 (some go63) := (by rw [hw]; exact HP68.2); have hp_ : Kd.R (Kd.int .i64) 3 w69 w.heap.size (fun _ => True) (.slice (some ⟨go63, 0, none⟩) x101019003_1.length co67) y101032 := (by rw [hw, Ny101032.out]; exact HP68.1); clear HP68; have n0_ := Aside0.mk (hp_); have n1_ := Aside0.mk (blk_grown (g := gb101001) (o := .cells #[.int .i64 0, .int .i64 0, .int .i64 0, .slice none 0 0] 28 (0, 0)) (by (with_reducible repeat (first | refine blk_drewN ?_ _ | refine blk_drew ?_ | refine blk_alloc ?_ _)); exact BK101001.out) hg (Kd.R_ne HO_101019003.out BK101001.out (by decide))); have n2_ := Aside0.mk (blk_grown (g := gb101018) (o := .cells #[.int .i64 t101012, .int .i64 t101013, .int .i64 t101014, .slice (some ⟨go63, 0, none⟩) x101019003_1.length co67] 28 (0, 0)) (by (with_reducible repeat (first | refine blk_drewN ?_ _ | refine blk_drew ?_ | refine blk_alloc ?_ _)); exact BK101018.out) hg (Kd.R_ne HO_101019003.out BK101018.out (by decide))); have n3_ := Aside0.mk (IsS100.grown (by repeat (first | (with_reducible first | exact HI0.out | apply IsS100.alloc | apply IsS100.drewN | apply IsS100.drew | apply IsS100.set_1 | refine IsS100.far ?_ NB0_101001.out _ | refine IsS100.far ?_ NB0_101018.out _) | exact HI0.out)) hg (IsS100.own_ne HI0.out HO_101019003.out (by decide))); have n4_ := Aside0.mk ((by rw [hw]; exact below_set (HB.out) (Nat.le_trans HL.out GB63.out) : Below w0.heap.size w0 w69)); have n5_ := Aside0.mk (KeepBut.trans (by repeat (first | (with_reducible first | exact HK.out | apply KeepBut.set_ | apply keep_drewN | apply keep_drew | apply keep_alloc | refine keep_far ?_ GW101001.out _ | refine keep_far ?_ GW101018.out _) | exact HK.out)) (KeepBut.of_grown hg g) (Kd.R_base2 HO_101019003.out)); clear HO_101019003; clear BK101001; clear BK101018; clear HI0; clear HB; clear HK; have HO_101019003 := n0_; have BK101001 := n1_; have BK101018 := n2_; have HI0 := n3_; have HB := n4_; have HK := n5_; clear n0_ n1_ n2_ n3_ n4_ n5_; clear hg hw hp_))
                go_roundg k1
                case measure => have := HK1.out; omega
                case rel => exact ⟨(x7_1), (wrap64 (x8_1 + 1)), (x1001_1), (y101032), (.slice (some ⟨go63, 0, none⟩) x101019003_1.length co67), (by first | rfl | (simp; done) | (simp [*]; done)), (by first | rfl | (simp; done) | (simp [*]; done)), H', ⟨by have := HK1.out; omega⟩, ⟨by (with_reducible repeat (first | apply Kd.R_alloc | apply Kd.R_drewN | apply Kd.R_drew)); exact HO_101019003.out⟩, ⟨by (with_reducible repeat (first | refine blk_drewN ?_ _ | refine blk_drew ?_ | refine blk_alloc ?_ _)); exact BK101001.out⟩, ⟨by (with_reducible repeat (first | refine blk_drewN ?_ _ | refine blk_drew ?_ | refine blk_alloc ?_ _)); exact BK101018.out⟩, ⟨by repeat (first | (with_reducible first | exact HI0.out | apply IsS100.alloc | apply IsS100.drewN | apply IsS100.drew | apply IsS100.set_1 | refine IsS100.far ?_ NB0_101001.out _ | refine IsS100.far ?_ NB0_101018.out _) | exact HI0.out)⟩, ⟨by repeat (first | (with_reducible first | exact HK.out | apply KeepBut.set_ | apply keep_drewN | apply keep_drew | apply keep_alloc | refine keep_far ?_ GW101001.out _ | refine keep_far ?_ GW101018.out _) | exact HK.out)⟩, ⟨by repeat (first | (with_reducible first | exact HB.out | apply below_alloc | apply pw_below_drewN | apply below_drew1 | refine below_set ?_ (IsS100.ge HI0.out) | refine below_set ?_ GE101001.out | refine below_set ?_ GE101018.out) | exact HB.out)⟩⟩
              · rw [if_neg c62] at H
                exact absurd H (by simp)
      · rw [if_neg c25] at H
        have c25b0 : decide (x8_1 < (x101019003_1.length : Int)) = false := decide_eq_false c25
        clear c25
        simp only [Option.some.injEq, Prod.mk.injEq] at H
        obtain ⟨rfl, rfl, rfl, rfl, rfl⟩ := H
        have hnb70 := NB101018_101001.out
        have hnc70 := NB101001_101018.out
        have hnb71 := NB101018_0.out
        have hnc71 := NB0_101018.out
        have hcz72_0 : wr.cell? ⟨gb101018, 0, none⟩ = some (.int .i64 t101012) := (blk_cell BK101018.out 0).trans rfl
        have hcz72_1 : wr.cell? ⟨gb101018, 1, none⟩ = some (.int .i64 t101013) := (blk_cell BK101018.out 1).trans rfl
        have hcz72_2 : wr.cell? ⟨gb101018, 2, none⟩ = some (.int .i64 t101014) := (blk_cell BK101018.out 2).trans rfl
        have hcz72_3 : wr.cell? ⟨gb101018, 3, none⟩ = some (u101019003) := (blk_cell BK101018.out 3).trans rfl
        have hfz72_0 := blk_frozen BK101018.out 0
        have hfz72_1 := blk_frozen BK101018.out 1
        have hfz72_2 := blk_frozen BK101018.out 2
        have hfz72_3 := blk_frozen BK101018.out 3
        obtain ⟨Ao73, co73, eo73⟩ := Kd.R_slice HO_101019003.out
        subst eo73
        have hnb74 := NB101001_0.out
        have hnc74 := NB0_101001.out
        have hcz75_0 : wr.cell? ⟨gb101001, 0, none⟩ = some (.int .i64 0) := (blk_cell BK101001.out 0).trans rfl
        have hcz75_1 : wr.cell? ⟨gb101001, 1, none⟩ = some (.int .i64 0) := (blk_cell BK101001.out 1).trans rfl
        have hcz75_2 : wr.cell? ⟨gb101001, 2, none⟩ = some (.int .i64 0) := (blk_cell BK101001.out 2).trans rfl
        have hcz75_3 : wr.cell? ⟨gb101001, 3, none⟩ = some (.slice none 0 0) := (blk_cell BK101001.out 3).trans rfl
        have hfz75_0 := blk_frozen BK101001.out 0
        have hfz75_1 := blk_frozen BK101001.out 1
        have hfz75_2 := blk_frozen BK101001.out 2
        have hfz75_3 := blk_frozen BK101001.out 3
        go_wp2
        refine bodyPost_ret (results_cell_row rfl _ _ gb101001 28 #[.int .i64 t101012, .int .i64 t101013, .int .i64 t101014, .slice Ao73 x101019003_1.length co73] (0, 0) _ rfl (by (with_reducible repeat (first | refine blk_drewN ?_ _ | refine blk_drew ?_ | refine blk_alloc ?_ _)); refine blk_put (cs := #[.int .i64 t101012, .int .i64 t101013, .int .i64 t101014, .slice none 0 0]) ?_ 3 _ rfl; (with_reducible repeat (first | refine blk_drewN ?_ _ | refine blk_drew ?_ | refine blk_alloc ?_ _)); refine blk_put (cs := #[.int .i64 t101012, .int .i64 t101013, .int .i64 0, .slice none 0 0]) ?_ 2 _ rfl; (with_reducible repeat (first | refine blk_drewN ?_ _ | refine blk_drew ?_ | refine blk_alloc ?_ _)); refine blk_put (cs := #[.int .i64 t101012, .int .i64 0, .int .i64 0, .slice none 0 0]) ?_ 1 _ rfl; (with_reducible repeat (first | refine blk_drewN ?_ _ | refine blk_drew ?_ | refine blk_alloc ?_ _)); refine blk_put (cs := #[.int .i64 0, .int .i64 0, .int .i64 0, .slice none 0 0]) ?_ 0 _ rfl; (with_reducible repeat (first | refine blk_drewN ?_ _ | refine blk_drew ?_ | refine blk_alloc ?_ _)); exact BK101001.out) Try.underlying28 rfl (by kernel_rfl)) rfl ?_
        exact ⟨_, by first | rfl | (simp [errW_none, errW_some] <;> rfl) | (simp [*, errW_none, errW_some] <;> rfl), by (with_reducible repeat (first | apply Kd.R_alloc | apply Kd.R_drewN | apply Kd.R_drew)); exact Kd.R_mono (Kd.R_far (p := ⟨gb101001, 3, none⟩) (Kd.R_far (p := ⟨gb101001, 2, none⟩) (Kd.R_far (p := ⟨gb101001, 1, none⟩) (Kd.R_far (p := ⟨gb101001, 0, none⟩) (Kd.R_types HO_101019003.out BK101001.out (by decide)) (fun _ hk => hk.2) (.int .i64 t101012)) (fun _ hk => hk.2) (.int .i64 t101013)) (fun _ hk => hk.2) (.int .i64 t101014)) (fun _ hk => hk.2) (.slice Ao73 x101019003_1.length co73)) (fun _ hk => trivial), by repeat (first | (with_reducible first | exact HI0.out | apply IsS100.alloc | apply IsS100.drewN | apply IsS100.drew | apply IsS100.set_1 | refine IsS100.far ?_ NB0_101001.out _ | refine IsS100.far ?_ NB0_101018.out _) | exact HI0.out), by repeat (first | (with_reducible first | exact HB.out | apply below_alloc | apply pw_below_drewN | apply below_drew1 | refine below_set ?_ (IsS100.ge HI0.out) | refine below_set ?_ GE101001.out | refine below_set ?_ GE101018.out) | exact HB.out), by repeat (first | (with_reducible first | exact HK.out | apply KeepBut.set_ | apply keep_drewN | apply keep_drew | apply keep_alloc | refine keep_far ?_ GW101001.out _ | refine keep_far ?_ GW101018.out _) | exact HK.out)⟩

end Go.Proofs.Ytbgohbinonkhfaa.Q

namespace Go.Proofs.Ytbgohbinonkhfaa.Q
open Go.RowKit Go.Proofs.YtbgohbinonkhfaaW.PrintWords Go.Proofs.YtbgohbinonkhfaaW.PrintLast Go.Proofs.YtbgohbinonkhfaaW.PrintMore
attribute [local go_sem] max2_int min2_int max_two min_two max_three min_three max_four min_four
set_option linter.unusedVariables false
set_option linter.unusedSimpArgs false
/-! ### spec_anyPlanes: function 101 -/
def spec_anyPlanes.f (k : Nat) (s0_0 : List Int) (s0_1 : Int) : Option (Int × Int) := (spec_reader_one.f k s0_0 s0_1 (([1, 3, 1, 4, 2] : List Int))).bind fun bt102004 => (some (bt102004.1, bt102004.2))
theorem spec_anyPlanes.mono : ∀ a0 a1 k, LeO (spec_anyPlanes.f k a0 a1) (spec_anyPlanes.f (k + 1) a0 a1) := by
  intro a0 a1 k
  unfold spec_anyPlanes.f
  repeat' first
      | (with_reducible exact spec_reader_one.mono _ _ _ _)
      | (with_reducible exact LeO.refl _)
      | (with_reducible exact LeO.none _)
      | (with_reducible refine LeO.ite ?_ ?_)
      | (with_reducible refine LeO.bind ?_ (fun _ => ?_))
      | exact spec_reader_one.mono _ _ _ _
      | exact LeO.none _
      | refine LeO.ite ?_ ?_
      | refine LeO.bind ?_ (fun _ => ?_)
set_option maxHeartbeats 8000000 in
set_option maxRecDepth 100000 in
theorem spec_anyPlanes.calls (k : Nat) (g : Nat) (s0_0 : List Int) (s0_1 : Int) (r1 : Int) (r2 : Int) (w0 w : World) (hI : IsS100 w0 w g s0_0 s0_1) (hB : Below w0.heap.size w0 w) (h : spec_anyPlanes.f k s0_0 s0_1 = some (r1, r2)) :
    Calls Try.prog 101 #[.pointer (some ⟨g, 0, none⟩)] w fun e w' => e = .returned (.int .i64 r1) ∧ IsS100 w0 w' g s0_0 r2 ∧ Below w0.heap.size w0 w' ∧ KeepBut w w' g none := by
  have HI0 := Aside0.mk hI
  have HK := Aside0.mk (KeepBut.refl w g none)
  have HL := Aside0.mk hB.size
  clear hI
  have HW0 := Aside0.mk hB.size
  have HB := Aside0.mk hB
  clear hB
  have H : ((spec_reader_one.f k s0_0 s0_1 (([1, 3, 1, 4, 2] : List Int))).bind fun bt102004 => (some (bt102004.1, bt102004.2))) = some (r1, r2) := h
  clear h
  obtain ⟨y102001, hy102001⟩ : ∃ y_ : List Int, y_ = (([1, 3, 1, 4, 2] : List Int)) := ⟨_, rfl⟩
  replace H : ((spec_reader_one.f k s0_0 s0_1 y102001).bind fun bt102004 => (some (bt102004.1, bt102004.2))) = some (r1, r2) := by first | (rw [hy102001]; with_reducible exact H) | (have H2_ := (Option.bind_some _ _).symm.trans H; rw [hy102001]; with_reducible exact H2_) | (have H2_ := (Option.bind_some _ _).symm.trans H; with_reducible exact H2_) | with_reducible exact H | (rw [hy102001]; exact H) | exact H
  have Ny102001 := Aside0.mk hy102001
  clear hy102001
  replace H := Option.bind_eq_some_iff.mp H
  obtain ⟨⟨t102004, t102005⟩, A20, H⟩ := H
  replace H : (some (t102004, t102005)) = some (r1, r2) := H
  have A2 := Aside0.mk A20
  clear A20
  simp only [Option.some.injEq, Prod.mk.injEq] at H
  obtain ⟨rfl, rfl⟩ := H
  go_enter Try.func101, Try.ntmps101
  go_wp2_with (first | ((with_reducible refine gate_dst (N := 4) rfl ?_); refine Kd.R_lit (Kd.int .i64) _ 3 ?hg (N := 4) ?hd (xs := ([1, 3, 1, 4, 2] : List Int)) (inner := [.int .i64 1, .int .i64 3, .int .i64 1, .int .i64 4, .int .i64 2]) (ok := fun _ => True) (okp := fun _ => True) ?hr ?hp (fun _ hk => hk) trivial (Below.refl _ _) (Nat.le_refl _) (by simp) ?_; (case hd => rfl); (case hg => rfl); (case hr => first | (go_simp; done) | (go_simp; rfl)); (case hp => exact (Reps.one (show Kd.M (Kd.int .i64) _ _ _ 1 [.int .i64 1] from rfl) (Reps.one (show Kd.M (Kd.int .i64) _ _ _ 3 [.int .i64 3] from rfl) (Reps.one (show Kd.M (Kd.int .i64) _ _ _ 1 [.int .i64 1] from rfl) (Reps.one (show Kd.M (Kd.int .i64) _ _ _ 4 [.int .i64 4] from rfl) (Reps.one (show Kd.M (Kd.int .i64) _ _ _ 2 [.int .i64 2] from rfl) (Reps.none _ _))))))); intro v102002 w3 ho4 hb hg_ hnew_; clear hg_ hnew_; (first | rw [← Ny102001.out] at ho4 | (simp only [Int.reduceToNat] at ho4; rw [← Ny102001.out] at ho4)); have n0_ := Aside0.mk (Kd.R_lower ho4 (keep_size (w := w) (g := g) (row := none) (by repeat (first | (with_reducible first | exact HK.out | apply KeepBut.set_ | apply keep_drewN | apply keep_drew | apply keep_alloc) | exact HK.out)))); have n1_ := Aside0.mk (IsS100.below (by repeat (first | (with_reducible first | exact HI0.out | apply IsS100.alloc | apply IsS100.drewN | apply IsS100.drew | apply IsS100.set_1) | exact HI0.out)) hb); have n2_ := Aside0.mk (KeepBut.trans (by repeat (first | (with_reducible first | exact HK.out | apply KeepBut.set_ | apply keep_drewN | apply keep_drew | apply keep_alloc) | exact HK.out)) (KeepBut.of_below hb g none) (.inl rfl)); have n3_ := Aside0.mk (below_step (by repeat (first | (with_reducible first | exact HB.out | apply below_alloc | apply pw_below_drewN | apply below_drew1 | refine below_set ?_ (IsS100.ge HI0.out)) | exact HB.out)) hb); clear HI0; clear HK; clear HB; have HO102003 := n0_; have HI0 := n1_; have HK := n2_; have HB := n3_; clear n0_ n1_ n2_ n3_; clear hb ho4; obtain ⟨Ao5, co5, eo5⟩ := Kd.R_slice HO102003.out; subst eo5) | ((with_reducible refine gate_callee (f := 73) rfl ?_); refine goesL_ (some 5) rfl rfl Try.func73 (by kernel_rfl) rfl #[.pointer (some ⟨g, 0, none⟩), .slice Ao5 y102001.length co5] rfl (by (try simp only [List.map_toArray, List.map_cons, List.map_nil]); first | done | rfl | (simp only [List.length_drop, List.length_take]; rfl)) ?_; (with_reducible refine (spec_reader_one.calls k g s0_0 s0_1 _ _ y102001 t102004 t102005 w0 _ ?side1 ?side2 ?side3 ?side4 ?side5 A2.out).mono ?_); (case side1 => repeat (first | (with_reducible first | exact HI0.out | apply IsS100.alloc | apply IsS100.drewN | apply IsS100.drew | apply IsS100.set_1) | exact HI0.out)); (case side2 => repeat (first | (with_reducible first | exact HB.out | apply below_alloc | apply pw_below_drewN | apply below_drew1 | refine below_set ?_ (IsS100.ge HI0.out)) | exact HB.out)); (case side3 => repeat (first | exact (Kd.R_reads' HO102003.out).2.2 | (with_reducible refine Kd.C_alloc ?_ _) | (with_reducible refine Kd.C_drewN ?_ _) | (with_reducible refine Kd.C_drew ?_))); (case side4 => exact (Kd.R_reads' HO102003.out).2.1); (case side5 => exact far_slice (IsS100.own_ne HI0.out HO102003.out (by decide))); rintro e w6 ⟨rfl, hi, hb, hk⟩; refine ⟨_, rfl, ?_⟩; have n0_ := Aside0.mk (Kd.R_mono (Kd.R_keep (IsS100.apart (show IsS100 w0 _ g s0_0 s0_1 from by repeat (first | (with_reducible first | exact HI0.out | apply IsS100.alloc | apply IsS100.drewN | apply IsS100.drew | apply IsS100.set_1) | exact HI0.out)) (by (with_reducible repeat (first | apply Kd.R_alloc | apply Kd.R_drewN | apply Kd.R_drew)); exact HO102003.out) (by decide)) hk (fun _ h => h.2)) (fun _ h => h.1)); have n1_ := Aside0.mk (KeepBut.trans (by repeat (first | (with_reducible first | exact HK.out | apply KeepBut.set_ | apply keep_drewN | apply keep_drew | apply keep_alloc) | exact HK.out)) hk (.inl rfl)); have n2_ := Aside0.mk (hb); have n3_ := Aside0.mk (hi); clear HO102003; clear HK; clear HB; clear HI0; have HO102003 := n0_; have HK := n1_; have HB := n2_; have HI0 := n3_; clear n0_ n1_ n2_ n3_; (try clear hb); (try clear hb2); (try clear hk); (try clear hi)))
  go_ret
  exact ⟨by first | rfl | (simp [errW_none, errW_some] <;> rfl) | (simp [*, errW_none, errW_some] <;> rfl), by repeat (first | (with_reducible first | exact HI0.out | apply IsS100.alloc | apply IsS100.drewN | apply IsS100.drew | apply IsS100.set_1) | exact HI0.out), by repeat (first | (with_reducible first | exact HB.out | apply below_alloc | apply pw_below_drewN | apply below_drew1 | refine below_set ?_ (IsS100.ge HI0.out)) | exact HB.out), by repeat (first | (with_reducible first | exact HK.out | apply KeepBut.set_ | apply keep_drewN | apply keep_drew | apply keep_alloc) | exact HK.out)⟩

end Go.Proofs.Ytbgohbinonkhfaa.Q

/- A row that may begin inside its block, and whose block is younger than was told. -/
namespace Go.Proofs.Ytbgohbinonkhfaa.Q
open Go.RowKit Go.Proofs.YtbgohbinonkhfaaW.PrintWords Go.Proofs.YtbgohbinonkhfaaW.PrintLast Go.Proofs.YtbgohbinonkhfaaW.PrintMore
attribute [local go_sem] max2_int min2_int max_two min_two max_three min_three max_four min_four
set_option linter.unusedVariables false
set_option linter.unusedSimpArgs false

theorem qraise {α : Type} {d : Kd α} {e : Nat} {W : World} {b b' : Nat} {ok : Nat → Prop} {v : Value} {xs : List α} (hM : ∀ w ok x cs, d.M w b ok x cs → d.M w b' ok x cs) (h : d.Q e W b ok v xs) (hb : ∀ k, v.ownBlock = some k → b' ≤ k) : d.Q e W b' ok v xs := by
  obtain ⟨h0, inner, ho, hr⟩ := h
  refine ⟨h0, inner, ?_, hr.imp_ (fun _ _ hp => hM _ _ _ _ hp)⟩
  obtain ⟨h1, h2⟩ := ho
  refine ⟨h1, ?_⟩
  rcases h2 with ⟨hz, A, rfl, hA⟩ | ⟨g, off, cap, cur, rfl, _, r⟩
  · refine .inl ⟨hz, A, rfl, fun a ha => ⟨?_, (hA a ha).2⟩⟩
    subst ha
    exact hb a.block (by simp [Value.ownBlock])
  · exact .inr ⟨g, off, cap, cur, rfl, hb g (by simp [Value.ownBlock]), r⟩
end Go.Proofs.Ytbgohbinonkhfaa.Q

namespace Go.Proofs.Ytbgohbinonkhfaa.Q
open Go.RowKit Go.Proofs.YtbgohbinonkhfaaW.PrintWords Go.Proofs.YtbgohbinonkhfaaW.PrintLast Go.Proofs.YtbgohbinonkhfaaW.PrintMore
attribute [local go_sem] max2_int min2_int max_two min_two max_three min_three max_four min_four
set_option linter.unusedVariables false
set_option linter.unusedSimpArgs false
/-! ### spec_anyImage: function 72 -/
def spec_anyImage.f (k : Nat) (s0_0 : List Int) (s0_1 : Int) : Option (Int × Int × Int × List Int × Int) := (spec_anyPlanes.f k s0_0 s0_1).bind fun bt73002 => ((spec_randomImage.f k s0_0 bt73002.2 bt73002.1).bind fun bt73004 => ((spec_spoilImage.f k s0_0 bt73004.2.2.2.2 bt73004.1 bt73004.2.1 bt73004.2.2.1 bt73004.2.2.2.1).bind fun bt73011 => (some (bt73011.1, bt73011.2.1, bt73011.2.2.1, bt73011.2.2.2.1, bt73011.2.2.2.2))))
theorem spec_anyImage.mono : ∀ a0 a1 k, LeO (spec_anyImage.f k a0 a1) (spec_anyImage.f (k + 1) a0 a1) := by
  intro a0 a1 k
  unfold spec_anyImage.f
  repeat' first
      | (with_reducible exact spec_anyPlanes.mono _ _ _)
      | (with_reducible exact spec_randomImage.mono _ _ _ _)
      | (with_reducible exact spec_spoilImage.mono _ _ _ _ _ _ _)
      | (with_reducible exact LeO.refl _)
      | (with_reducible exact LeO.none _)
      | (with_reducible refine LeO.ite ?_ ?_)
      | (with_reducible refine LeO.bind ?_ (fun _ => ?_))
      | exact spec_anyPlanes.mono _ _ _
      | exact spec_randomImage.mono _ _ _ _
      | exact spec_spoilImage.mono _ _ _ _ _ _ _
      | exact LeO.none _
      | refine LeO.ite ?_ ?_
      | refine LeO.bind ?_ (fun _ => ?_)
set_option maxHeartbeats 8000000 in
set_option maxRecDepth 100000 in
theorem spec_anyImage.calls (k : Nat) (g : Nat) (s0_0 : List Int) (s0_1 : Int) (r1 : Int) (r2 : Int) (r3 : Int) (r4 : List Int) (r5 : Int) (w0 w : World) (hI : IsS100 w0 w g s0_0 s0_1) (hB : Below w0.heap.size w0 w) (h : spec_anyImage.f k s0_0 s0_1 = some (r1, r2, r3, r4, r5)) :
    Calls Try.prog 72 #[.pointer (some ⟨g, 0, none⟩)] w fun e w' => ∃ v3_ : Value, e = .returned (.agg #[.int .i64 r1, .int .i64 r2, .int .i64 r3, v3_]) ∧ Kd.Q (Kd.int .i64) 3 w' w.heap.size (fun _ => True) v3_ r4 ∧ IsS100 w0 w' g s0_0 r5 ∧ Below w0.heap.size w0 w' ∧ KeepBut w w' g none := by
  have hu28 := Try.underlying28
  have HI0 := Aside0.mk hI
  have HK := Aside0.mk (KeepBut.refl w g none)
  have HL := Aside0.mk hB.size
  clear hI
  have HW0 := Aside0.mk hB.size
  have HB := Aside0.mk hB
  clear hB
  have H : ((spec_anyPlanes.f k s0_0 s0_1).bind fun bt73002 => ((spec_randomImage.f k s0_0 bt73002.2 bt73002.1).bind fun bt73004 => ((spec_spoilImage.f k s0_0 bt73004.2.2.2.2 bt73004.1 bt73004.2.1 bt73004.2.2.1 bt73004.2.2.2.1).bind fun bt73011 => (some (bt73011.1, bt73011.2.1, bt73011.2.2.1, bt73011.2.2.2.1, bt73011.2.2.2.2))))) = some (r1, r2, r3, r4, r5) := h
  clear h
  replace H := Option.bind_eq_some_iff.mp H
  obtain ⟨⟨t73002, t73003⟩, A20, H⟩ := H
  replace H : ((spec_randomImage.f k s0_0 t73003 t73002).bind fun bt73004 => ((spec_spoilImage.f k s0_0 bt73004.2.2.2.2 bt73004.1 bt73004.2.1 bt73004.2.2.1 bt73004.2.2.2.1).bind fun bt73011 => (some (bt73011.1, bt73011.2.1, bt73011.2.2.1, bt73011.2.2.2.1, bt73011.2.2.2.2)))) = some (r1, r2, r3, r4, r5) := H
  have A2 := Aside0.mk A20
  clear A20
  replace H := Option.bind_eq_some_iff.mp H
  obtain ⟨⟨t73004, t73005, t73006, t73007, t73010⟩, A30, H⟩ := H
  replace H : ((spec_spoilImage.f k s0_0 t73010 t73004 t73005 t73006 t73007).bind fun bt73011 => (some (bt73011.1, bt73011.2.1, bt73011.2.2.1, bt73011.2.2.2.1, bt73011.2.2.2.2))) = some (r1, r2, r3, r4, r5) := H
  have A3 := Aside0.mk A30
  clear A30
  replace H := Option.bind_eq_some_iff.mp H
  obtain ⟨⟨t73011, t73012, t73013, t73014, t73017⟩, A40, H⟩ := H
  replace H : (some (t73011, t73012, t73013, t73014, t73017)) = some (r1, r2, r3, r4, r5) := H
  have A4 := Aside0.mk A40
  clear A40
  simp only [Option.some.injEq, Prod.mk.injEq] at H
  obtain ⟨rfl, rfl, rfl, rfl, rfl⟩ := H
  go_enter Try.func72, Try.ntmps72
  go_wp2_with (first | ((with_reducible refine gate_dst (N := 2) rfl ?_); refine box_event ?hg (N := 2) ?hd (cs := #[.int .i64 0, .int .i64 0, .int .i64 0, .slice none 0 0]) (t := 28) ?hr ?_; (case hd => rfl); (case hg => rfl); (case hr => first | (go_simp; done) | (go_simp; rfl)); intro gb73001 hg w5 hbox hb; have n0_ := Aside0.mk (IsS100.below (by repeat (first | (with_reducible first | exact HI0.out | apply IsS100.alloc | apply IsS100.drewN | apply IsS100.drew | apply IsS100.set_1) | exact HI0.out)) hb); have n1_ := Aside0.mk (KeepBut.trans (by repeat (first | (with_reducible first | exact HK.out | apply KeepBut.set_ | apply keep_drewN | apply keep_drew | apply keep_alloc) | exact HK.out)) (KeepBut.of_below hb g none) (.inl rfl)); have n2_ := Aside0.mk (below_step (by repeat (first | (with_reducible first | exact HB.out | apply below_alloc | apply pw_below_drewN | apply below_drew1 | refine below_set ?_ (IsS100.ge HI0.out)) | exact HB.out)) hb); have n3_ := Aside0.mk (hbox); have n4_ := Aside0.mk ((by rw [hg]; exact (keep_size (w := w) (g := g) (row := none) (by repeat (first | (with_reducible first | exact HK.out | apply KeepBut.set_ | apply keep_drewN | apply keep_drew | apply keep_alloc) | exact HK.out))) : w.heap.size ≤ gb73001)); have n5_ := Aside0.mk ((Nat.le_trans HW0.out (by rw [hg]; exact (keep_size (w := w) (g := g) (row := none) (by repeat (first | (with_reducible first | exact HK.out | apply KeepBut.set_ | apply keep_drewN | apply keep_drew | apply keep_alloc) | exact HK.out))) : w.heap.size ≤ gb73001) : w0.heap.size ≤ gb73001)); have n6_ := Aside0.mk ((by rw [hg]; exact Nat.ne_of_lt (IsS100.lt (show IsS100 w0 _ g s0_0 s0_1 from by repeat (first | (with_reducible first | exact HI0.out | apply IsS100.alloc | apply IsS100.drewN | apply IsS100.drew | apply IsS100.set_1) | exact HI0.out))) : g ≠ gb73001)); have n7_ := Aside0.mk ((by rw [hg]; exact Nat.ne_of_gt (IsS100.lt (show IsS100 w0 _ g s0_0 s0_1 from by repeat (first | (with_reducible first | exact HI0.out | apply IsS100.alloc | apply IsS100.drewN | apply IsS100.drew | apply IsS100.set_1) | exact HI0.out))) : gb73001 ≠ g)); clear HI0; clear HK; clear HB; have HI0 := n0_; have HK := n1_; have HB := n2_; have BK73001 := n3_; have GW73001 := n4_; have GE73001 := n5_; have NB0_73001 := n6_; have NB73001_0 := n7_; clear n0_ n1_ n2_ n3_ n4_ n5_ n6_ n7_; clear hb hbox hg) | ((with_reducible refine gate_callee (f := 101) rfl ?_); refine goesL_ (some 6) rfl rfl Try.func101 (by kernel_rfl) rfl #[.pointer (some ⟨g, 0, none⟩)] rfl (by (try simp only [List.map_toArray, List.map_cons, List.map_nil]); first | done | rfl | (simp only [List.length_drop, List.length_take]; rfl)) ?_; (with_reducible refine (spec_anyPlanes.calls k g s0_0 s0_1 t73002 t73003 w0 _ ?side1 ?side2 A2.out).mono ?_); (case side1 => repeat (first | (with_reducible first | exact HI0.out | apply IsS100.alloc | apply IsS100.drewN | apply IsS100.drew | apply IsS100.set_1 | refine IsS100.far ?_ NB0_73001.out _) | exact HI0.out)); (case side2 => repeat (first | (with_reducible first | exact HB.out | apply below_alloc | apply pw_below_drewN | apply below_drew1 | refine below_set ?_ (IsS100.ge HI0.out) | refine below_set ?_ GE73001.out) | exact HB.out)); rintro e w6 ⟨rfl, hi, hb, hk⟩; refine ⟨_, rfl, ?_⟩; have n0_ := Aside0.mk (KeepBut.blk hk (g' := gb73001) (o := .cells #[.int .i64 0, .int .i64 0, .int .i64 0, .slice none 0 0] 28 (0, 0)) (by (with_reducible repeat (first | refine blk_drewN ?_ _ | refine blk_drew ?_ | refine blk_alloc ?_ _)); exact BK73001.out) NB73001_0.out (by simp)); have n1_ := Aside0.mk (KeepBut.trans (by repeat (first | (with_reducible first | exact HK.out | apply KeepBut.set_ | apply keep_drewN | apply keep_drew | apply keep_alloc | refine keep_far ?_ GW73001.out _) | exact HK.out)) hk (.inl rfl)); have n2_ := Aside0.mk (hb); have n3_ := Aside0.mk (hi); clear BK73001; clear HK; clear HB; clear HI0; have BK73001 := n0_; have HK := n1_; have HB := n2_; have HI0 := n3_; clear n0_ n1_ n2_ n3_; (try clear hb); (try clear hb2); (try clear hk); (try clear hi)) | ((with_reducible refine gate_callee (f := 100) rfl ?_); refine goesL_ (some 7) rfl rfl Try.func100 (by kernel_rfl) rfl #[.pointer (some ⟨g, 0, none⟩), .int .i64 t73002] rfl (by (try simp only [List.map_toArray, List.map_cons, List.map_nil]); first | done | rfl | (simp only [List.length_drop, List.length_take]; rfl)) ?_; (with_reducible refine (spec_randomImage.calls k g s0_0 t73003 t73002 t73004 t73005 t73006 t73007 t73010 w0 _ ?side1 ?side2 A3.out).mono ?_); (case side1 => repeat (first | (with_reducible first | exact HI0.out | apply IsS100.alloc | apply IsS100.drewN | apply IsS100.drew | apply IsS100.set_1 | refine IsS100.far ?_ NB0_73001.out _) | exact HI0.out)); (case side2 => repeat (first | (with_reducible first | exact HB.out | apply below_alloc | apply pw_below_drewN | apply below_drew1 | refine below_set ?_ (IsS100.ge HI0.out) | refine below_set ?_ GE73001.out) | exact HB.out)); rintro e w7 ⟨v73008, rfl, ho0, hi, hb, hk⟩; refine ⟨_, rfl, ?_⟩; have n0_ := Aside0.mk (KeepBut.blk hk (g' := gb73001) (o := .cells #[.int .i64 0, .int .i64 0, .int .i64 0, .slice none 0 0] 28 (0, 0)) (by (with_reducible repeat (first | refine blk_drewN ?_ _ | refine blk_drew ?_ | refine blk_alloc ?_ _)); exact BK73001.out) NB73001_0.out (by simp)); have n1_ := Aside0.mk (Kd.R_lower ho0 (keep_size (w := w) (g := g) (row := none) (by repeat (first | (with_reducible first | exact HK.out | apply KeepBut.set_ | apply keep_drewN | apply keep_drew | apply keep_alloc | refine keep_far ?_ GW73001.out _) | exact HK.out)))); have n2_ := Aside0.mk (KeepBut.trans (by repeat (first | (with_reducible first | exact HK.out | apply KeepBut.set_ | apply keep_drewN | apply keep_drew | apply keep_alloc | refine keep_far ?_ GW73001.out _) | exact HK.out)) hk (.inl rfl)); have n3_ := Aside0.mk (hb); have n4_ := Aside0.mk (hi); clear BK73001; clear HK; clear HB; clear HI0; have BK73001 := n0_; have HO73009 := n1_; have HK := n2_; have HB := n3_; have HI0 := n4_; clear n0_ n1_ n2_ n3_ n4_; (try clear hb); (try clear hb2); (try clear hk); (try clear hi); (try clear ho0); obtain ⟨Ao8, co8, eo8⟩ := Kd.R_slice HO73009.out; subst eo8) | ((with_reducible refine gate_callee (f := 99) rfl ?_); refine goesL_ (some 8) rfl rfl Try.func99 (by kernel_rfl) rfl #[.pointer (some ⟨g, 0, none⟩), .agg #[.int .i64 t73004, .int .i64 t73005, .int .i64 t73006, .slice Ao8 t73007.length co8]] rfl (by (try simp only [List.map_toArray, List.map_cons, List.map_nil]); first | done | rfl | (simp only [List.length_drop, List.length_take]; rfl)) ?_; (with_reducible refine (spec_spoilImage.calls k g s0_0 t73010 t73004 t73005 t73006 (fun k_ => some k_ = (.slice Ao8 t73007.length co8 : Value).ownBlock) (.slice Ao8 t73007.length co8) t73007 t73011 t73012 t73013 t73014 t73017 w0 _ ?side1 ?side2 ?side3 A4.out).mono ?_); (case side1 => repeat (first | (with_reducible first | exact HI0.out | apply IsS100.alloc | apply IsS100.drewN | apply IsS100.drew | apply IsS100.set_1 | refine IsS100.far ?_ NB0_73001.out _) | exact HI0.out)); (case side2 => repeat (first | (with_reducible first | exact HB.out | apply below_alloc | apply pw_below_drewN | apply below_drew1 | refine below_set ?_ (IsS100.ge HI0.out) | refine below_set ?_ GE73001.out) | exact HB.out)); (case side3 => exact Kd.R_lower (Kd.R_tight rfl HO73009.out) HL.out); rintro e w9 ⟨v73015, rfl, ho0, hi, hb, hkp⟩; refine ⟨_, rfl, ?_⟩; have n0_ := Aside0.mk (hi); have n1_ := Aside0.mk (blk_kept (by (with_reducible repeat (first | refine blk_drewN ?_ _ | refine blk_drew ?_ | refine blk_alloc ?_ _)); exact BK73001.out) hkp (fun hs_ => Or.elim hs_ (fun hs_ => (fun e_ => (Kd.R_ne HO73009.out BK73001.out (by decide)) e_) hs_) (fun e_ => NB73001_0.out e_))); have n2_ := Aside0.mk (Kd.Q_mono (ok' := fun k_ => True) (qraise (d := (Kd.int .i64)) (b := w0.heap.size) (b' := w.heap.size) (fun _ _ _ _ h_ => h_) ho0 (fun k_ e_ => Or.elim (ho0.1 k_ e_) (fun hs_ => (fun e_ => Kd.R_base HO73009.out k_ e_.symm) hs_) (fun hn_ => Nat.le_trans (keep_size (w := w) (g := g) (row := none) (by repeat (first | (with_reducible first | exact HK.out | apply KeepBut.set_ | apply keep_drewN | apply keep_drew | apply keep_alloc | refine keep_far ?_ GW73001.out _) | exact HK.out))) hn_))) (fun k_ hk_ => trivial)); have n3_ := Aside0.mk (Kept.keepG (by repeat (first | (with_reducible first | exact HK.out | apply KeepBut.set_ | apply keep_drewN | apply keep_drew | apply keep_alloc | refine keep_far ?_ GW73001.out _) | exact HK.out)) hkp (fun k_ hs_ => Or.elim hs_ (fun hs_ => (fun e_ => .inr (Kd.R_base HO73009.out k_ e_.symm)) hs_) (fun e_ => .inl e_))); have n4_ := Aside0.mk (hb); clear HI0; clear BK73001; clear HK; clear HB; clear HO73009; have HI0 := n0_; have BK73001 := n1_; have HO73016 := n2_; have HK := n3_; have HB := n4_; clear n0_ n1_ n2_ n3_ n4_; (try clear hb); (try clear hkp); (try clear ho0); have hnb10 := NB73001_0.out; have hnc10 := NB0_73001.out; have hcz11_0 : w9.cell? ⟨gb73001, 0, none⟩ = some (.int .i64 0) := (blk_cell BK73001.out 0).trans rfl; have hcz11_1 : w9.cell? ⟨gb73001, 1, none⟩ = some (.int .i64 0) := (blk_cell BK73001.out 1).trans rfl; have hcz11_2 : w9.cell? ⟨gb73001, 2, none⟩ = some (.int .i64 0) := (blk_cell BK73001.out 2).trans rfl; have hcz11_3 : w9.cell? ⟨gb73001, 3, none⟩ = some (.slice none 0 0) := (blk_cell BK73001.out 3).trans rfl; have hfz11_0 := blk_frozen BK73001.out 0; have hfz11_1 := blk_frozen BK73001.out 1; have hfz11_2 := blk_frozen BK73001.out 2; have hfz11_3 := blk_frozen BK73001.out 3; obtain ⟨Ao12, co12, eo12, _⟩ := Kd.Q_slice HO73016.out; subst eo12))
  refine bodyPost_ret (results_cell_row rfl _ _ gb73001 28 #[.int .i64 t73011, .int .i64 t73012, .int .i64 t73013, .slice Ao12 t73014.length co12] (0, 0) _ rfl (by (with_reducible repeat (first | refine blk_drewN ?_ _ | refine blk_drew ?_ | refine blk_alloc ?_ _)); refine blk_put (cs := #[.int .i64 t73011, .int .i64 t73012, .int .i64 t73013, .slice none 0 0]) ?_ 3 _ rfl; (with_reducible repeat (first | refine blk_drewN ?_ _ | refine blk_drew ?_ | refine blk_alloc ?_ _)); refine blk_put (cs := #[.int .i64 t73011, .int .i64 t73012, .int .i64 0, .slice none 0 0]) ?_ 2 _ rfl; (with_reducible repeat (first | refine blk_drewN ?_ _ | refine blk_drew ?_ | refine blk_alloc ?_ _)); refine blk_put (cs := #[.int .i64 t73011, .int .i64 0, .int .i64 0, .slice none 0 0]) ?_ 1 _ rfl; (with_reducible repeat (first | refine blk_drewN ?_ _ | refine blk_drew ?_ | refine blk_alloc ?_ _)); refine blk_put (cs := #[.int .i64 0, .int .i64 0, .int .i64 0, .slice none 0 0]) ?_ 0 _ rfl; (with_reducible repeat (first | refine blk_drewN ?_ _ | refine blk_drew ?_ | refine blk_alloc ?_ _)); exact BK73001.out) Try.underlying28 rfl (by kernel_rfl)) rfl ?_
  exact ⟨_, by first | rfl | (simp [errW_none, errW_some] <;> rfl) | (simp [*, errW_none, errW_some] <;> rfl), by (with_reducible repeat (first | apply Kd.Q_alloc | apply Kd.Q_drewN | apply Kd.Q_drew)); exact Kd.Q_mono (Kd.Q_far (p := ⟨gb73001, 3, none⟩) (Kd.Q_far (p := ⟨gb73001, 2, none⟩) (Kd.Q_far (p := ⟨gb73001, 1, none⟩) (Kd.Q_far (p := ⟨gb73001, 0, none⟩) (Kd.Q_types HO73016.out BK73001.out (by decide)) (fun _ hk => hk.2) (.int .i64 t73011)) (fun _ hk => hk.2) (.int .i64 t73012)) (fun _ hk => hk.2) (.int .i64 t73013)) (fun _ hk => hk.2) (.slice Ao12 t73014.length co12)) (fun _ hk => trivial), by repeat (first | (with_reducible first | exact HI0.out | apply IsS100.alloc | apply IsS100.drewN | apply IsS100.drew | apply IsS100.set_1 | refine IsS100.far ?_ NB0_73001.out _) | exact HI0.out), by repeat (first | (with_reducible first | exact HB.out | apply below_alloc | apply pw_below_drewN | apply below_drew1 | refine below_set ?_ (IsS100.ge HI0.out) | refine below_set ?_ GE73001.out) | exact HB.out), by repeat (first | (with_reducible first | exact HK.out | apply KeepBut.set_ | apply keep_drewN | apply keep_drew | apply keep_alloc | refine keep_far ?_ GW73001.out _) | exact HK.out)⟩

end Go.Proofs.Ytbgohbinonkhfaa.Q

namespace Go.Proofs.Ytbgohbinonkhfaa.Q
open Go.RowKit Go.Proofs.YtbgohbinonkhfaaW.PrintWords Go.Proofs.YtbgohbinonkhfaaW.PrintLast Go.Proofs.YtbgohbinonkhfaaW.PrintMore
attribute [local go_sem] max2_int min2_int max_two min_two max_three min_three max_four min_four
set_option linter.unusedVariables false
set_option linter.unusedSimpArgs false
/-! ### spec_DrawFloodRegion: function 27 -/
def spec_DrawFloodRegion.f (k : Nat) (l0 : List Int) : Option (Int × Int × Int × List Int × Int × Int × Int) := (spec_newReader.f l0).bind fun bt28002 => ((spec_anyImage.f k bt28002.1 bt28002.2).bind fun bt28005 => ((spec_reader_one.f k bt28002.1 bt28005.2.2.2.2 (([0, 1, 2, (-1), 4] : List Int))).bind fun bt28016 => ((spec_reader_one.f k bt28002.1 bt28016.2 (([0, 1, 2, (-1), 4] : List Int))).bind fun bt28021 => ((spec_reader_one.f k bt28002.1 bt28021.2 (([0, 5, 60, 120, 255, 256, (-1)] : List Int))).bind fun bt28026 => (some (bt28005.1, bt28005.2.1, bt28005.2.2.1, bt28005.2.2.2.1, bt28016.1, bt28021.1, bt28026.1))))))
theorem spec_DrawFloodRegion.mono : ∀ a0 k, LeO (spec_DrawFloodRegion.f k a0) (spec_DrawFloodRegion.f (k + 1) a0) := by
  intro a0 k
  unfold spec_DrawFloodRegion.f
  repeat' first
      | (with_reducible exact spec_anyImage.mono _ _ _)
      | (with_reducible exact spec_reader_one.mono _ _ _ _)
      | (with_reducible exact LeO.refl _)
      | (with_reducible exact LeO.none _)
      | (with_reducible refine LeO.ite ?_ ?_)
      | (with_reducible refine LeO.bind ?_ (fun _ => ?_))
      | exact spec_anyImage.mono _ _ _
      | exact spec_reader_one.mono _ _ _ _
      | exact LeO.none _
      | refine LeO.ite ?_ ?_
      | refine LeO.bind ?_ (fun _ => ?_)
def spec_DrawFloodRegion.T5 : Bool × List (List Nat × List Nat) := (true, [([], []), ([], []), ([], []), ([], []), ([], []), ([3, 4], [3, 4]), ([0, 5, 0], [0]), ([1, 6, 0, 1, 6], [1]), ([2, 7, 0, 1, 2, 6, 7], [2]), ([5, 8, 0, 1, 2, 3, 4, 5, 6, 7, 8], [5])])
def spec_DrawFloodRegion.B5 : List Nat := [0, 0, 0, 0, 0, 24, 57, 123, 255, 511]
theorem spec_DrawFloodRegion.tab5 : rtab .any (opsOf Try.f27 5) = spec_DrawFloodRegion.T5 := by kernel_rfl
theorem spec_DrawFloodRegion.bits5 : waitsOk spec_DrawFloodRegion.T5.2 spec_DrawFloodRegion.B5 = true := by kernel_rfl
set_option maxHeartbeats 8000000 in
set_option maxRecDepth 100000 in
theorem spec_DrawFloodRegion.calls (k : Nat) (A0 : Option Addr) (c0 : Nat) (l0 : List Int) (r1 : Int) (r2 : Int) (r3 : Int) (r4 : List Int) (r5 : Int) (r6 : Int) (r7 : Int) (w : World) (hr0 : Kd.C (Kd.int .u8) w A0 l0.length l0) (hc0 : l0.length ≤ c0) (h : spec_DrawFloodRegion.f k l0 = some (r1, r2, r3, r4, r5, r6, r7)) :
    Calls Try.prog 27 #[.slice A0 l0.length c0] w fun e w' => ∃ v3_ : Value, e = .returned (.tuple #[.agg #[.int .i64 r1, .int .i64 r2, .int .i64 r3, v3_], .int .i64 r5, .int .i64 r6, .int .i64 r7]) ∧ Kd.Q (Kd.int .i64) 3 w' w.heap.size (fun _ => True) v3_ r4 ∧ Below w.heap.size w w' := by
  have hu28 := Try.underlying28
  have HR0 := Aside0.mk hr0
  have HC0 := Aside0.mk hc0
  clear hr0 hc0
  have HB := Aside0.mk (Below.refl w.heap.size w)
  have H : ((spec_newReader.f l0).bind fun bt28002 => ((spec_anyImage.f k bt28002.1 bt28002.2).bind fun bt28005 => ((spec_reader_one.f k bt28002.1 bt28005.2.2.2.2 (([0, 1, 2, (-1), 4] : List Int))).bind fun bt28016 => ((spec_reader_one.f k bt28002.1 bt28016.2 (([0, 1, 2, (-1), 4] : List Int))).bind fun bt28021 => ((spec_reader_one.f k bt28002.1 bt28021.2 (([0, 5, 60, 120, 255, 256, (-1)] : List Int))).bind fun bt28026 => (some (bt28005.1, bt28005.2.1, bt28005.2.2.1, bt28005.2.2.2.1, bt28016.1, bt28021.1, bt28026.1))))))) = some (r1, r2, r3, r4, r5, r6, r7) := h
  clear h
  replace H := Option.bind_eq_some_iff.mp H
  obtain ⟨⟨t28002, t28003⟩, A20, H⟩ := H
  replace H : ((spec_anyImage.f k t28002 t28003).bind fun bt28005 => ((spec_reader_one.f k t28002 bt28005.2.2.2.2 (([0, 1, 2, (-1), 4] : List Int))).bind fun bt28016 => ((spec_reader_one.f k t28002 bt28016.2 (([0, 1, 2, (-1), 4] : List Int))).bind fun bt28021 => ((spec_reader_one.f k t28002 bt28021.2 (([0, 5, 60, 120, 255, 256, (-1)] : List Int))).bind fun bt28026 => (some (bt28005.1, bt28005.2.1, bt28005.2.2.1, bt28005.2.2.2.1, bt28016.1, bt28021.1, bt28026.1)))))) = some (r1, r2, r3, r4, r5, r6, r7) := H
  have A2 := Aside0.mk A20
  clear A20
  replace H := Option.bind_eq_some_iff.mp H
  obtain ⟨⟨t28005, t28006, t28007, t28008, t28011⟩, A30, H⟩ := H
  replace H : ((spec_reader_one.f k t28002 t28011 (([0, 1, 2, (-1), 4] : List Int))).bind fun bt28016 => ((spec_reader_one.f k t28002 bt28016.2 (([0, 1, 2, (-1), 4] : List Int))).bind fun bt28021 => ((spec_reader_one.f k t28002 bt28021.2 (([0, 5, 60, 120, 255, 256, (-1)] : List Int))).bind fun bt28026 => (some (t28005, t28006, t28007, t28008, bt28016.1, bt28021.1, bt28026.1))))) = some (r1, r2, r3, r4, r5, r6, r7) := H
  have A3 := Aside0.mk A30
  clear A30
  obtain ⟨y28013, hy28013⟩ : ∃ y_ : List Int, y_ = (([0, 1, 2, (-1), 4] : List Int)) := ⟨_, rfl⟩
  replace H : ((spec_reader_one.f k t28002 t28011 y28013).bind fun bt28016 => ((spec_reader_one.f k t28002 bt28016.2 (([0, 1, 2, (-1), 4] : List Int))).bind fun bt28021 => ((spec_reader_one.f k t28002 bt28021.2 (([0, 5, 60, 120, 255, 256, (-1)] : List Int))).bind fun bt28026 => (some (t28005, t28006, t28007, t28008, bt28016.1, bt28021.1, bt28026.1))))) = some (r1, r2, r3, r4, r5, r6, r7) := by first | (rw [hy28013]; with_reducible exact H) | (have H2_ := (Option.bind_some _ _).symm.trans H; rw [hy28013]; with_reducible exact H2_) | (have H2_ := (Option.bind_some _ _).symm.trans H; with_reducible exact H2_) | with_reducible exact H | (rw [hy28013]; exact H) | exact H
  have Ny28013 := Aside0.mk hy28013
  clear hy28013
  replace H := Option.bind_eq_some_iff.mp H
  obtain ⟨⟨t28016, t28017⟩, A40, H⟩ := H
  replace H : ((spec_reader_one.f k t28002 t28017 (([0, 1, 2, (-1), 4] : List Int))).bind fun bt28021 => ((spec_reader_one.f k t28002 bt28021.2 (([0, 5, 60, 120, 255, 256, (-1)] : List Int))).bind fun bt28026 => (some (t28005, t28006, t28007, t28008, t28016, bt28021.1, bt28026.1)))) = some (r1, r2, r3, r4, r5, r6, r7) := H
  have A4 := Aside0.mk A40
  clear A40
  obtain ⟨y28018, hy28018⟩ : ∃ y_ : List Int, y_ = (([0, 1, 2, (-1), 4] : List Int)) := ⟨_, rfl⟩
  replace H : ((spec_reader_one.f k t28002 t28017 y28018).bind fun bt28021 => ((spec_reader_one.f k t28002 bt28021.2 (([0, 5, 60, 120, 255, 256, (-1)] : List Int))).bind fun bt28026 => (some (t28005, t28006, t28007, t28008, t28016, bt28021.1, bt28026.1)))) = some (r1, r2, r3, r4, r5, r6, r7) := by first | (rw [hy28018]; with_reducible exact H) | (have H2_ := (Option.bind_some _ _).symm.trans H; rw [hy28018]; with_reducible exact H2_) | (have H2_ := (Option.bind_some _ _).symm.trans H; with_reducible exact H2_) | with_reducible exact H | (rw [hy28018]; exact H) | exact H
  have Ny28018 := Aside0.mk hy28018
  clear hy28018
  replace H := Option.bind_eq_some_iff.mp H
  obtain ⟨⟨t28021, t28022⟩, A50, H⟩ := H
  replace H : ((spec_reader_one.f k t28002 t28022 (([0, 5, 60, 120, 255, 256, (-1)] : List Int))).bind fun bt28026 => (some (t28005, t28006, t28007, t28008, t28016, t28021, bt28026.1))) = some (r1, r2, r3, r4, r5, r6, r7) := H
  have A5 := Aside0.mk A50
  clear A50
  obtain ⟨y28023, hy28023⟩ : ∃ y_ : List Int, y_ = (([0, 5, 60, 120, 255, 256, (-1)] : List Int)) := ⟨_, rfl⟩
  replace H : ((spec_reader_one.f k t28002 t28022 y28023).bind fun bt28026 => (some (t28005, t28006, t28007, t28008, t28016, t28021, bt28026.1))) = some (r1, r2, r3, r4, r5, r6, r7) := by first | (rw [hy28023]; with_reducible exact H) | (have H2_ := (Option.bind_some _ _).symm.trans H; rw [hy28023]; with_reducible exact H2_) | (have H2_ := (Option.bind_some _ _).symm.trans H; with_reducible exact H2_) | with_reducible exact H | (rw [hy28023]; exact H) | exact H
  have Ny28023 := Aside0.mk hy28023
  clear hy28023
  replace H := Option.bind_eq_some_iff.mp H
  obtain ⟨⟨t28026, t28027⟩, A60, H⟩ := H
  replace H : (some (t28005, t28006, t28007, t28008, t28016, t28021, t28026)) = some (r1, r2, r3, r4, r5, r6, r7) := H
  have A6 := Aside0.mk A60
  clear A60
  simp only [Option.some.injEq, Prod.mk.injEq] at H
  obtain ⟨rfl, rfl, rfl, rfl, rfl, rfl, rfl⟩ := H
  go_enter Try.func27, Try.ntmps27
  try go_wp2_with (first | ((with_reducible refine gate_dst (N := 2) rfl ?_); refine box_event ?hg (N := 2) ?hd (cs := #[.int .i64 0, .int .i64 0, .int .i64 0, .slice none 0 0]) (t := 28) ?hr ?_; (case hd => rfl); (case hg => rfl); (case hr => first | (go_simp; done) | (go_simp; rfl)); intro gb28001 hg w7 hbox hb; have n0_ := Aside0.mk (below_step (by repeat (first | (with_reducible first | exact HB.out | apply below_alloc | apply pw_below_drewN | apply below_drew1) | exact HB.out)) hb); have n1_ := Aside0.mk (hbox); have n2_ := Aside0.mk ((by rw [hg]; exact (below_size (by repeat (first | (with_reducible first | exact HB.out | apply below_alloc | apply pw_below_drewN | apply below_drew1) | exact HB.out))) : w.heap.size ≤ gb28001)); have n3_ := Aside0.mk ((by rw [hg]; exact (below_size (by repeat (first | (with_reducible first | exact HB.out | apply below_alloc | apply pw_below_drewN | apply below_drew1) | exact HB.out))) : w.heap.size ≤ gb28001)); clear HB; have HB := n0_; have BK28001 := n1_; have GW28001 := n2_; have GE28001 := n3_; clear n0_ n1_ n2_ n3_; clear hb hbox hg) | ((with_reducible refine gate_callee (f := 55) rfl ?_); refine goesL_ (some 11) rfl rfl Try.func55 (by kernel_rfl) rfl #[.slice A0 l0.length c0] rfl (by (try simp only [List.map_toArray, List.map_cons, List.map_nil]); first | done | rfl | (simp only [List.length_drop, List.length_take]; rfl)) ?_; (with_reducible refine (spec_newReader.calls _ _ l0 t28002 t28003 w _ ?side1 ?side2 ?side3 A2.out).mono ?_); (case side1 => repeat (first | (with_reducible first | exact HB.out | apply below_alloc | apply pw_below_drewN | apply below_drew1 | refine below_set ?_ GE28001.out) | exact HB.out)); (case side2 => exact HR0.out); (case side3 => exact HC0.out); rintro e w8 ⟨g28004, rfl, hi, hb, hb2⟩; refine ⟨_, rfl, ?_⟩; have n0_ := Aside0.mk (blk_below (g := gb28001) (o := .cells #[.int .i64 0, .int .i64 0, .int .i64 0, .slice none 0 0] 28 (0, 0)) (by (with_reducible repeat (first | refine blk_drewN ?_ _ | refine blk_drew ?_ | refine blk_alloc ?_ _)); exact BK28001.out) hb2); have n1_ := Aside0.mk (hb); have n2_ := Aside0.mk (hi); have n3_ := Aside0.mk (IsS100.ne_blk hi (blk_below (g := gb28001) (o := .cells #[.int .i64 0, .int .i64 0, .int .i64 0, .slice none 0 0] 28 (0, 0)) (by (with_reducible repeat (first | refine blk_drewN ?_ _ | refine blk_drew ?_ | refine blk_alloc ?_ _)); exact BK28001.out) hb2) (by decide)); have n4_ := Aside0.mk (Ne.symm (IsS100.ne_blk hi (blk_below (g := gb28001) (o := .cells #[.int .i64 0, .int .i64 0, .int .i64 0, .slice none 0 0] 28 (0, 0)) (by (with_reducible repeat (first | refine blk_drewN ?_ _ | refine blk_drew ?_ | refine blk_alloc ?_ _)); exact BK28001.out) hb2) (by decide))); clear BK28001; clear HB; have BK28001 := n0_; have HB := n1_; have HI28004 := n2_; have NB28004_28001 := n3_; have NB28001_28004 := n4_; clear n0_ n1_ n2_ n3_ n4_; (try clear hb); (try clear hb2); (try clear hk); (try clear hi)) | ((with_reducible refine gate_callee (f := 72) rfl ?_); refine goesL_ (some 13) rfl rfl Try.func72 (by kernel_rfl) rfl #[.pointer (some ⟨g28004, 0, none⟩)] rfl (by (try simp only [List.map_toArray, List.map_cons, List.map_nil]); first | done | rfl | (simp only [List.length_drop, List.length_take]; rfl)) ?_; (with_reducible refine (spec_anyImage.calls k g28004 t28002 t28003 t28005 t28006 t28007 t28008 t28011 w _ ?side1 ?side2 A3.out).mono ?_); (case side1 => repeat (first | (with_reducible first | exact HI28004.out | apply IsS100.alloc | apply IsS100.drewN | apply IsS100.drew | apply IsS100.set_1 | refine IsS100.far ?_ NB28004_28001.out _) | exact HI28004.out)); (case side2 => repeat (first | (with_reducible first | exact HB.out | apply below_alloc | apply pw_below_drewN | apply below_drew1 | refine below_set ?_ (IsS100.ge HI28004.out) | refine below_set ?_ GE28001.out) | exact HB.out)); rintro e w9 ⟨v28009, rfl, ho0, hi, hb, hk⟩; refine ⟨_, rfl, ?_⟩; have n0_ := Aside0.mk (KeepBut.blk hk (g' := gb28001) (o := .cells #[.int .i64 0, .int .i64 0, .int .i64 0, .slice none 0 0] 28 (0, 0)) (by (with_reducible repeat (first | refine blk_drewN ?_ _ | refine blk_drew ?_ | refine blk_alloc ?_ _)); exact BK28001.out) NB28001_28004.out (by simp)); have n1_ := Aside0.mk (Kd.Q_lower ho0 (below_size (by repeat (first | (with_reducible first | exact HB.out | apply below_alloc | apply pw_below_drewN | apply below_drew1 | refine below_set ?_ (IsS100.ge HI28004.out) | refine below_set ?_ GE28001.out) | exact HB.out)))); have n2_ := Aside0.mk (hb); have n3_ := Aside0.mk (hi); clear BK28001; clear HB; clear HI28004; have BK28001 := n0_; have HO28010 := n1_; have HB := n2_; have HI28004 := n3_; clear n0_ n1_ n2_ n3_; (try clear hb); (try clear hb2); (try clear hk); (try clear hi); (try clear ho0)) | ((with_reducible refine gate_dst (N := 7) rfl ?_); refine box_event ?hg (N := 7) ?hd (cs := #[.int .i64 0, .int .i64 0, .int .i64 0, .slice none 0 0]) (t := 28) ?hr ?_; (case hd => rfl); (case hg => rfl); (case hr => first | (go_simp; done) | (go_simp; rfl)); intro gb28012 hg w10 hbox hb; have n0_ := Aside0.mk (Kd.Q_below (by (with_reducible repeat (first | apply Kd.Q_alloc | apply Kd.Q_drewN | apply Kd.Q_drew)); exact HO28010.out) hb); have n1_ := Aside0.mk (blk_below (g := gb28001) (o := .cells #[.int .i64 0, .int .i64 0, .int .i64 0, .slice none 0 0] 28 (0, 0)) (by (with_reducible repeat (first | refine blk_drewN ?_ _ | refine blk_drew ?_ | refine blk_alloc ?_ _)); exact BK28001.out) hb); have n2_ := Aside0.mk (IsS100.below (by repeat (first | (with_reducible first | exact HI28004.out | apply IsS100.alloc | apply IsS100.drewN | apply IsS100.drew | apply IsS100.set_1 | refine IsS100.far ?_ NB28004_28001.out _) | exact HI28004.out)) hb); have n3_ := Aside0.mk (below_step (by repeat (first | (with_reducible first | exact HB.out | apply below_alloc | apply pw_below_drewN | apply below_drew1 | refine below_set ?_ (IsS100.ge HI28004.out) | refine below_set ?_ GE28001.out) | exact HB.out)) hb); have n4_ := Aside0.mk (hbox); have n5_ := Aside0.mk ((by rw [hg]; exact (below_size (by repeat (first | (with_reducible first | exact HB.out | apply below_alloc | apply pw_below_drewN | apply below_drew1 | refine below_set ?_ (IsS100.ge HI28004.out) | refine below_set ?_ GE28001.out) | exact HB.out))) : w.heap.size ≤ gb28012)); have n6_ := Aside0.mk ((by rw [hg]; exact (below_size (by repeat (first | (with_reducible first | exact HB.out | apply below_alloc | apply pw_below_drewN | apply below_drew1 | refine below_set ?_ (IsS100.ge HI28004.out) | refine below_set ?_ GE28001.out) | exact HB.out))) : w.heap.size ≤ gb28012)); have n7_ := Aside0.mk ((by rw [hg]; exact Nat.ne_of_lt (blk_lt (g := gb28001) (o := .cells #[.int .i64 0, .int .i64 0, .int .i64 0, .slice none 0 0] 28 (0, 0)) (by (with_reducible repeat (first | refine blk_drewN ?_ _ | refine blk_drew ?_ | refine blk_alloc ?_ _)); exact BK28001.out)) : gb28001 ≠ gb28012)); have n8_ := Aside0.mk ((by rw [hg]; exact Nat.ne_of_gt (blk_lt (g := gb28001) (o := .cells #[.int .i64 0, .int .i64 0, .int .i64 0, .slice none 0 0] 28 (0, 0)) (by (with_reducible repeat (first | refine blk_drewN ?_ _ | refine blk_drew ?_ | refine blk_alloc ?_ _)); exact BK28001.out)) : gb28012 ≠ gb28001)); have n9_ := Aside0.mk ((by rw [hg]; exact Nat.ne_of_lt (IsS100.lt (show IsS100 w _ g28004 t28002 t28011 from by repeat (first | (with_reducible first | exact HI28004.out | apply IsS100.alloc | apply IsS100.drewN | apply IsS100.drew | apply IsS100.set_1 | refine IsS100.far ?_ NB28004_28001.out _) | exact HI28004.out))) : g28004 ≠ gb28012)); have n10_ := Aside0.mk ((by rw [hg]; exact Nat.ne_of_gt (IsS100.lt (show IsS100 w _ g28004 t28002 t28011 from by repeat (first | (with_reducible first | exact HI28004.out | apply IsS100.alloc | apply IsS100.drewN | apply IsS100.drew | apply IsS100.set_1 | refine IsS100.far ?_ NB28004_28001.out _) | exact HI28004.out))) : gb28012 ≠ g28004)); clear HO28010; clear BK28001; clear HI28004; clear HB; have HO28010 := n0_; have BK28001 := n1_; have HI28004 := n2_; have HB := n3_; have BK28012 := n4_; have GW28012 := n5_; have GE28012 := n6_; have NB28001_28012 := n7_; have NB28012_28001 := n8_; have NB28004_28012 := n9_; have NB28012_28004 := n10_; clear n0_ n1_ n2_ n3_ n4_ n5_ n6_ n7_ n8_ n9_ n10_; clear hb hbox hg; have hnb11 := NB28012_28001.out; have hnc11 := NB28001_28012.out; have hnb12 := NB28012_28004.out; have hnc12 := NB28004_28012.out; have hcz13_0 : w10.cell? ⟨gb28012, 0, none⟩ = some (.int .i64 0) := (blk_cell BK28012.out 0).trans rfl; have hcz13_1 : w10.cell? ⟨gb28012, 1, none⟩ = some (.int .i64 0) := (blk_cell BK28012.out 1).trans rfl; have hcz13_2 : w10.cell? ⟨gb28012, 2, none⟩ = some (.int .i64 0) := (blk_cell BK28012.out 2).trans rfl; have hcz13_3 : w10.cell? ⟨gb28012, 3, none⟩ = some (.slice none 0 0) := (blk_cell BK28012.out 3).trans rfl; have hfz13_0 := blk_frozen BK28012.out 0; have hfz13_1 := blk_frozen BK28012.out 1; have hfz13_2 := blk_frozen BK28012.out 2; have hfz13_3 := blk_frozen BK28012.out 3; obtain ⟨Ao14, co14, eo14, _⟩ := Kd.Q_slice HO28010.out; subst eo14) | ((with_reducible refine gate_dst (N := 15) rfl ?_); refine Kd.R_lit (Kd.int .i64) _ 3 ?hg (N := 15) ?hd (xs := ([0, 1, 2, (-1), 4] : List Int)) (inner := [.int .i64 0, .int .i64 1, .int .i64 2, .int .i64 (-1), .int .i64 4]) (ok := fun _ => True) (okp := fun _ => True) ?hr ?hp (fun _ hk => hk) trivial (Below.refl _ _) (Nat.le_refl _) (by simp) ?_; (case hd => rfl); (case hg => rfl); (case hr => first | (go_simp; done) | (go_simp; rfl)); (case hp => exact (Reps.one (show Kd.M (Kd.int .i64) _ _ _ 0 [.int .i64 0] from rfl) (Reps.one (show Kd.M (Kd.int .i64) _ _ _ 1 [.int .i64 1] from rfl) (Reps.one (show Kd.M (Kd.int .i64) _ _ _ 2 [.int .i64 2] from rfl) (Reps.one (show Kd.M (Kd.int .i64) _ _ _ (-1) [.int .i64 (-1)] from rfl) (Reps.one (show Kd.M (Kd.int .i64) _ _ _ 4 [.int .i64 4] from rfl) (Reps.none _ _))))))); intro v28014 w15 ho16 hb hg_ hnew_; clear hg_ hnew_; (first | rw [← Ny28013.out] at ho16 | (simp only [Int.reduceToNat] at ho16; rw [← Ny28013.out] at ho16)); have n0_ := Aside0.mk (Kd.Q_elder' (by (with_reducible repeat (first | apply Kd.Q_alloc | apply Kd.Q_drewN | apply Kd.Q_drew)); exact (Kd.Q_mono (Kd.Q_far (p := ⟨gb28012, 3, none⟩) (Kd.Q_far (p := ⟨gb28012, 2, none⟩) (Kd.Q_far (p := ⟨gb28012, 1, none⟩) (Kd.Q_far (p := ⟨gb28012, 0, none⟩) (Kd.Q_types HO28010.out BK28012.out (by decide)) (fun _ hk => hk.2) (.int .i64 t28005)) (fun _ hk => hk.2) (.int .i64 t28006)) (fun _ hk => hk.2) (.int .i64 t28007)) (fun _ hk => hk.2) (.slice Ao14 t28008.length co14)) (fun _ h_ => h_.1))) (Kd.R_base ho16) hb); have n1_ := Aside0.mk (Kd.R_lower (Kd.R_new' ho16 (Kd.Q_lt (by (with_reducible repeat (first | apply Kd.Q_alloc | apply Kd.Q_drewN | apply Kd.Q_drew)); exact (Kd.Q_mono (Kd.Q_far (p := ⟨gb28012, 3, none⟩) (Kd.Q_far (p := ⟨gb28012, 2, none⟩) (Kd.Q_far (p := ⟨gb28012, 1, none⟩) (Kd.Q_far (p := ⟨gb28012, 0, none⟩) (Kd.Q_types HO28010.out BK28012.out (by decide)) (fun _ hk => hk.2) (.int .i64 t28005)) (fun _ hk => hk.2) (.int .i64 t28006)) (fun _ hk => hk.2) (.int .i64 t28007)) (fun _ hk => hk.2) (.slice Ao14 t28008.length co14)) (fun _ h_ => h_.1))))) (below_size (by repeat (first | (with_reducible first | exact HB.out | apply below_alloc | apply pw_below_drewN | apply below_drew1 | refine below_set ?_ (IsS100.ge HI28004.out) | refine below_set ?_ GE28001.out | refine below_set ?_ GE28012.out) | exact HB.out)))); have n2_ := Aside0.mk (blk_below (g := gb28001) (o := .cells #[.int .i64 0, .int .i64 0, .int .i64 0, .slice none 0 0] 28 (0, 0)) (by (with_reducible repeat (first | refine blk_drewN ?_ _ | refine blk_drew ?_ | refine blk_alloc ?_ _)); refine blk_far ?_ NB28001_28012.out _; (with_reducible repeat (first | refine blk_drewN ?_ _ | refine blk_drew ?_ | refine blk_alloc ?_ _)); refine blk_far ?_ NB28001_28012.out _; (with_reducible repeat (first | refine blk_drewN ?_ _ | refine blk_drew ?_ | refine blk_alloc ?_ _)); refine blk_far ?_ NB28001_28012.out _; (with_reducible repeat (first | refine blk_drewN ?_ _ | refine blk_drew ?_ | refine blk_alloc ?_ _)); refine blk_far ?_ NB28001_28012.out _; (with_reducible repeat (first | refine blk_drewN ?_ _ | refine blk_drew ?_ | refine blk_alloc ?_ _)); exact BK28001.out) hb); have n3_ := Aside0.mk (IsS100.below (show IsS100 w ((((w10.setCell ⟨gb28012, 0, none⟩ (.int .i64 t28005)).setCell ⟨gb28012, 1, none⟩ (.int .i64 t28006)).setCell ⟨gb28012, 2, none⟩ (.int .i64 t28007)).setCell ⟨gb28012, 3, none⟩ (.slice Ao14 t28008.length co14)) g28004 t28002 t28011 from by repeat (first | (with_reducible first | exact HI28004.out | apply IsS100.alloc | apply IsS100.drewN | apply IsS100.drew | apply IsS100.set_1 | refine IsS100.far ?_ NB28004_28001.out _ | refine IsS100.far ?_ NB28004_28012.out _) | exact HI28004.out)) hb); have n4_ := Aside0.mk (blk_below (g := gb28012) (o := .cells #[.int .i64 t28005, .int .i64 t28006, .int .i64 t28007, .slice Ao14 t28008.length co14] 28 (0, 0)) (by (with_reducible repeat (first | refine blk_drewN ?_ _ | refine blk_drew ?_ | refine blk_alloc ?_ _)); refine blk_put (cs := #[.int .i64 t28005, .int .i64 t28006, .int .i64 t28007, .slice none 0 0]) ?_ 3 _ rfl; (with_reducible repeat (first | refine blk_drewN ?_ _ | refine blk_drew ?_ | refine blk_alloc ?_ _)); refine blk_put (cs := #[.int .i64 t28005, .int .i64 t28006, .int .i64 0, .slice none 0 0]) ?_ 2 _ rfl; (with_reducible repeat (first | refine blk_drewN ?_ _ | refine blk_drew ?_ | refine blk_alloc ?_ _)); refine blk_put (cs := #[.int .i64 t28005, .int .i64 0, .int .i64 0, .slice none 0 0]) ?_ 1 _ rfl; (with_reducible repeat (first | refine blk_drewN ?_ _ | refine blk_drew ?_ | refine blk_alloc ?_ _)); refine blk_put (cs := #[.int .i64 0, .int .i64 0, .int .i64 0, .slice none 0 0]) ?_ 0 _ rfl; (with_reducible repeat (first | refine blk_drewN ?_ _ | refine blk_drew ?_ | refine blk_alloc ?_ _)); exact BK28012.out) hb); have n5_ := Aside0.mk (below_step (by repeat (first | (with_reducible first | exact HB.out | apply below_alloc | apply pw_below_drewN | apply below_drew1 | refine below_set ?_ (IsS100.ge HI28004.out) | refine below_set ?_ GE28001.out | refine below_set ?_ GE28012.out) | exact HB.out)) hb); clear HO28010; clear BK28001; clear HI28004; clear BK28012; clear HB; have HO28010 := n0_; have HO28015 := n1_; have BK28001 := n2_; have HI28004 := n3_; have BK28012 := n4_; have HB := n5_; clear n0_ n1_ n2_ n3_ n4_ n5_; clear hb ho16; obtain ⟨Ao17, co17, eo17⟩ := Kd.R_slice HO28015.out; subst eo17) | ((with_reducible refine gate_callee (f := 73) rfl ?_); refine goesL_ (some 16) rfl rfl Try.func73 (by kernel_rfl) rfl #[.pointer (some ⟨g28004, 0, none⟩), .slice Ao17 y28013.length co17] rfl (by (try simp only [List.map_toArray, List.map_cons, List.map_nil]); first | done | rfl | (simp only [List.length_drop, List.length_take]; rfl)) ?_; (with_reducible refine (spec_reader_one.calls k g28004 t28002 t28011 _ _ y28013 t28016 t28017 w _ ?side1 ?side2 ?side3 ?side4 ?side5 A4.out).mono ?_); (case side1 => repeat (first | (with_reducible first | exact HI28004.out | apply IsS100.alloc | apply IsS100.drewN | apply IsS100.drew | apply IsS100.set_1 | refine IsS100.far ?_ NB28004_28001.out _ | refine IsS100.far ?_ NB28004_28012.out _) | exact HI28004.out)); (case side2 => repeat (first | (with_reducible first | exact HB.out | apply below_alloc | apply pw_below_drewN | apply below_drew1 | refine below_set ?_ (IsS100.ge HI28004.out) | refine below_set ?_ GE28001.out | refine below_set ?_ GE28012.out) | exact HB.out)); (case side3 => repeat (first | exact (Kd.R_reads' HO28015.out).2.2 | (with_reducible refine Kd.C_alloc ?_ _) | (with_reducible refine Kd.C_drewN ?_ _) | (with_reducible refine Kd.C_drew ?_))); (case side4 => exact (Kd.R_reads' HO28015.out).2.1); (case side5 => exact far_slice (IsS100.own_ne HI28004.out HO28015.out (by decide))); rintro e w18 ⟨rfl, hi, hb, hk⟩; refine ⟨_, rfl, ?_⟩; have n0_ := Aside0.mk (KeepBut.blk hk (g' := gb28001) (o := .cells #[.int .i64 0, .int .i64 0, .int .i64 0, .slice none 0 0] 28 (0, 0)) (by (with_reducible repeat (first | refine blk_drewN ?_ _ | refine blk_drew ?_ | refine blk_alloc ?_ _)); exact BK28001.out) NB28001_28004.out (by simp)); have n1_ := Aside0.mk (Kd.Q_mono (Kd.Q_keep (IsS100.apartQ (show IsS100 w _ g28004 t28002 t28011 from by repeat (first | (with_reducible first | exact HI28004.out | apply IsS100.alloc | apply IsS100.drewN | apply IsS100.drew | apply IsS100.set_1 | refine IsS100.far ?_ NB28004_28001.out _ | refine IsS100.far ?_ NB28004_28012.out _) | exact HI28004.out)) (by (with_reducible repeat (first | apply Kd.Q_alloc | apply Kd.Q_drewN | apply Kd.Q_drew)); exact HO28010.out) (by decide)) hk (fun _ h => h.2)) (fun _ h => h.1)); have n2_ := Aside0.mk (KeepBut.blk hk (g' := gb28012) (o := .cells #[.int .i64 t28005, .int .i64 t28006, .int .i64 t28007, .slice Ao14 t28008.length co14] 28 (0, 0)) (by (with_reducible repeat (first | refine blk_drewN ?_ _ | refine blk_drew ?_ | refine blk_alloc ?_ _)); exact BK28012.out) NB28012_28004.out (by simp)); have n3_ := Aside0.mk (Kd.R_mono (Kd.R_keep (IsS100.apart (show IsS100 w _ g28004 t28002 t28011 from by repeat (first | (with_reducible first | exact HI28004.out | apply IsS100.alloc | apply IsS100.drewN | apply IsS100.drew | apply IsS100.set_1 | refine IsS100.far ?_ NB28004_28001.out _ | refine IsS100.far ?_ NB28004_28012.out _) | exact HI28004.out)) (by (with_reducible repeat (first | apply Kd.R_alloc | apply Kd.R_drewN | apply Kd.R_drew)); exact HO28015.out) (by decide)) hk (fun _ h => h.2)) (fun _ h => h.1)); have n4_ := Aside0.mk (hb); have n5_ := Aside0.mk (hi); clear BK28001; clear HO28010; clear BK28012; clear HO28015; clear HB; clear HI28004; have BK28001 := n0_; have HO28010 := n1_; have BK28012 := n2_; have HO28015 := n3_; have HB := n4_; have HI28004 := n5_; clear n0_ n1_ n2_ n3_ n4_ n5_; (try clear hb); (try clear hb2); (try clear hk); (try clear hi)) | ((with_reducible refine gate_dst (N := 18) rfl ?_); refine Kd.R_lit (Kd.int .i64) _ 3 ?hg (N := 18) ?hd (xs := ([0, 1, 2, (-1), 4] : List Int)) (inner := [.int .i64 0, .int .i64 1, .int .i64 2, .int .i64 (-1), .int .i64 4]) (ok := fun _ => True) (okp := fun _ => True) ?hr ?hp (fun _ hk => hk) trivial (Below.refl _ _) (Nat.le_refl _) (by simp) ?_; (case hd => rfl); (case hg => rfl); (case hr => first | (go_simp; done) | (go_simp; rfl)); (case hp => exact (Reps.one (show Kd.M (Kd.int .i64) _ _ _ 0 [.int .i64 0] from rfl) (Reps.one (show Kd.M (Kd.int .i64) _ _ _ 1 [.int .i64 1] from rfl) (Reps.one (show Kd.M (Kd.int .i64) _ _ _ 2 [.int .i64 2] from rfl) (Reps.one (show Kd.M (Kd.int .i64) _ _ _ (-1) [.int .i64 (-1)] from rfl) (Reps.one (show Kd.M (Kd.int .i64) _ _ _ 4 [.int .i64 4] from rfl) (Reps.none _ _))))))); intro v28019 w19 ho20 hb hg_ hnew_; clear hg_ hnew_; (first | rw [← Ny28018.out] at ho20 | (simp only [Int.reduceToNat] at ho20; rw [← Ny28018.out] at ho20)); have n0_ := Aside0.mk (Kd.Q_elder' (by (with_reducible repeat (first | apply Kd.Q_alloc | apply Kd.Q_drewN | apply Kd.Q_drew)); exact HO28010.out) (Kd.R_base ho20) hb); have n1_ := Aside0.mk (Kd.R_elder' (by (with_reducible repeat (first | apply Kd.R_alloc | apply Kd.R_drewN | apply Kd.R_drew)); exact HO28015.out) (Kd.R_base ho20) hb); have n2_ := Aside0.mk (Kd.R_lower (Kd.R_new' (Kd.R_new' ho20 (Kd.Q_lt (by (with_reducible repeat (first | apply Kd.Q_alloc | apply Kd.Q_drewN | apply Kd.Q_drew)); exact HO28010.out))) (Kd.R_lt (by (with_reducible repeat (first | apply Kd.R_alloc | apply Kd.R_drewN | apply Kd.R_drew)); exact HO28015.out))) (below_size (by repeat (first | (with_reducible first | exact HB.out | apply below_alloc | apply pw_below_drewN | apply below_drew1 | refine below_set ?_ (IsS100.ge HI28004.out) | refine below_set ?_ GE28001.out | refine below_set ?_ GE28012.out) | exact HB.out)))); have n3_ := Aside0.mk (blk_below (g := gb28001) (o := .cells #[.int .i64 0, .int .i64 0, .int .i64 0, .slice none 0 0] 28 (0, 0)) (by (with_reducible repeat (first | refine blk_drewN ?_ _ | refine blk_drew ?_ | refine blk_alloc ?_ _)); exact BK28001.out) hb); have n4_ := Aside0.mk (IsS100.below (by repeat (first | (with_reducible first | exact HI28004.out | apply IsS100.alloc | apply IsS100.drewN | apply IsS100.drew | apply IsS100.set_1 | refine IsS100.far ?_ NB28004_28001.out _ | refine IsS100.far ?_ NB28004_28012.out _) | exact HI28004.out)) hb); have n5_ := Aside0.mk (blk_below (g := gb28012) (o := .cells #[.int .i64 t28005, .int .i64 t28006, .int .i64 t28007, .slice Ao14 t28008.length co14] 28 (0, 0)) (by (with_reducible repeat (first | refine blk_drewN ?_ _ | refine blk_drew ?_ | refine blk_alloc ?_ _)); exact BK28012.out) hb); have n6_ := Aside0.mk (below_step (by repeat (first | (with_reducible first | exact HB.out | apply below_alloc | apply pw_below_drewN | apply below_drew1 | refine below_set ?_ (IsS100.ge HI28004.out) | refine below_set ?_ GE28001.out | refine below_set ?_ GE28012.out) | exact HB.out)) hb); clear HO28010; clear HO28015; clear BK28001; clear HI28004; clear BK28012; clear HB; have HO28010 := n0_; have HO28015 := n1_; have HO28020 := n2_; have BK28001 := n3_; have HI28004 := n4_; have BK28012 := n5_; have HB := n6_; clear n0_ n1_ n2_ n3_ n4_ n5_ n6_; clear hb ho20; obtain ⟨Ao21, co21, eo21⟩ := Kd.R_slice HO28020.out; subst eo21) | ((with_reducible refine gate_callee (f := 73) rfl ?_); refine goesL_ (some 19) rfl rfl Try.func73 (by kernel_rfl) rfl #[.pointer (some ⟨g28004, 0, none⟩), .slice Ao21 y28018.length co21] rfl (by (try simp only [List.map_toArray, List.map_cons, List.map_nil]); first | done | rfl | (simp only [List.length_drop, List.length_take]; rfl)) ?_; (with_reducible refine (spec_reader_one.calls k g28004 t28002 t28017 _ _ y28018 t28021 t28022 w _ ?side1 ?side2 ?side3 ?side4 ?side5 A5.out).mono ?_); (case side1 => repeat (first | (with_reducible first | exact HI28004.out | apply IsS100.alloc | apply IsS100.drewN | apply IsS100.drew | apply IsS100.set_1 | refine IsS100.far ?_ NB28004_28001.out _ | refine IsS100.far ?_ NB28004_28012.out _) | exact HI28004.out)); (case side2 => repeat (first | (with_reducible first | exact HB.out | apply below_alloc | apply pw_below_drewN | apply below_drew1 | refine below_set ?_ (IsS100.ge HI28004.out) | refine below_set ?_ GE28001.out | refine below_set ?_ GE28012.out) | exact HB.out)); (case side3 => repeat (first | exact (Kd.R_reads' HO28020.out).2.2 | (with_reducible refine Kd.C_alloc ?_ _) | (with_reducible refine Kd.C_drewN ?_ _) | (with_reducible refine Kd.C_drew ?_))); (case side4 => exact (Kd.R_reads' HO28020.out).2.1); (case side5 => exact far_slice (IsS100.own_ne HI28004.out HO28020.out (by decide))); rintro e w22 ⟨rfl, hi, hb, hk⟩; refine ⟨_, rfl, ?_⟩; have n0_ := Aside0.mk (KeepBut.blk hk (g' := gb28001) (o := .cells #[.int .i64 0, .int .i64 0, .int .i64 0, .slice none 0 0] 28 (0, 0)) (by (with_reducible repeat (first | refine blk_drewN ?_ _ | refine blk_drew ?_ | refine blk_alloc ?_ _)); exact BK28001.out) NB28001_28004.out (by simp)); have n1_ := Aside0.mk (Kd.Q_mono (Kd.Q_keep (IsS100.apartQ (show IsS100 w _ g28004 t28002 t28017 from by repeat (first | (with_reducible first | exact HI28004.out | apply IsS100.alloc | apply IsS100.drewN | apply IsS100.drew | apply IsS100.set_1 | refine IsS100.far ?_ NB28004_28001.out _ | refine IsS100.far ?_ NB28004_28012.out _) | exact HI28004.out)) (by (with_reducible repeat (first | apply Kd.Q_alloc | apply Kd.Q_drewN | apply Kd.Q_drew)); exact HO28010.out) (by decide)) hk (fun _ h => h.2)) (fun _ h => h.1)); have n2_ := Aside0.mk (KeepBut.blk hk (g' := gb28012) (o := .cells #[.int .i64 t28005, .int .i64 t28006, .int .i64 t28007, .slice Ao14 t28008.length co14] 28 (0, 0)) (by (with_reducible repeat (first | refine blk_drewN ?_ _ | refine blk_drew ?_ | refine blk_alloc ?_ _)); exact BK28012.out) NB28012_28004.out (by simp)); have n3_ := Aside0.mk (Kd.R_mono (Kd.R_keep (IsS100.apart (show IsS100 w _ g28004 t28002 t28017 from by repeat (first | (with_reducible first | exact HI28004.out | apply IsS100.alloc | apply IsS100.drewN | apply IsS100.drew | apply IsS100.set_1 | refine IsS100.far ?_ NB28004_28001.out _ | refine IsS100.far ?_ NB28004_28012.out _) | exact HI28004.out)) (by (with_reducible repeat (first | apply Kd.R_alloc | apply Kd.R_drewN | apply Kd.R_drew)); exact HO28015.out) (by decide)) hk (fun _ h => h.2)) (fun _ h => h.1)); have n4_ := Aside0.mk (Kd.R_mono (Kd.R_keep (IsS100.apart (show IsS100 w _ g28004 t28002 t28017 from by repeat (first | (with_reducible first | exact HI28004.out | apply IsS100.alloc | apply IsS100.drewN | apply IsS100.drew | apply IsS100.set_1 | refine IsS100.far ?_ NB28004_28001.out _ | refine IsS100.far ?_ NB28004_28012.out _) | exact HI28004.out)) (by (with_reducible repeat (first | apply Kd.R_alloc | apply Kd.R_drewN | apply Kd.R_drew)); exact HO28020.out) (by decide)) hk (fun _ h => h.2)) (fun _ h => h.1)); have n5_ := Aside0.mk (hb); have n6_ := Aside0.mk (hi); clear BK28001; clear HO28010; clear BK28012; clear HO28015; clear HO28020; clear HB; clear HI28004; have BK28001 := n0_; have HO28010 := n1_; have BK28012 := n2_; have HO28015 := n3_; have HO28020 := n4_; have HB := n5_; have HI28004 := n6_; clear n0_ n1_ n2_ n3_ n4_ n5_ n6_; (try clear hb); (try clear hb2); (try clear hk); (try clear hi)))
  have n0_ := Aside0.mk (Kd.Q_drew HO28010.out)
  have n1_ := Aside0.mk (Kd.R_drew HO28015.out)
  have n2_ := Aside0.mk (Kd.R_drew HO28020.out)
  have n3_ := Aside0.mk (blk_drew BK28001.out)
  have n4_ := Aside0.mk (blk_drew BK28012.out)
  have n5_ := Aside0.mk (IsS100.drew HI28004.out)
  have n6_ := Aside0.mk (below_drew1 HB.out)
  clear HO28010
  clear HO28015
  clear HO28020
  clear BK28001
  clear BK28012
  clear HI28004
  clear HB
  have HO28010 := n0_
  have HO28015 := n1_
  have HO28020 := n2_
  have BK28001 := n3_
  have BK28012 := n4_
  have HI28004 := n5_
  have HB := n6_
  clear n0_ n1_ n2_ n3_ n4_ n5_ n6_
  refine start_ (n := 10) (S := fun w' => w'.cell? ⟨gb28012, 0, none⟩ = some (.int .i64 t28005) ∧ w'.cell? ⟨gb28012, 1, none⟩ = some (.int .i64 t28006) ∧ w'.cell? ⟨gb28012, 2, none⟩ = some (.int .i64 t28007) ∧ w'.cell? ⟨gb28012, 3, none⟩ = some (.slice Ao14 t28008.length co14)) (ds := []) #[false, false, false, false, false, false, false, false, false, false] (by kernel_rfl) rfl rfl ⟨(blk_cell BK28012.out 0).trans rfl, (blk_cell BK28012.out 1).trans rfl, (blk_cell BK28012.out 2).trans rfl, (blk_cell BK28012.out 3).trans rfl⟩ (fun hHeld => ?_); refine with_tabW spec_DrawFloodRegion.tab5 spec_DrawFloodRegion.bits5 (fun HT_ HW_ => ?_)
  generalize w22.drew = w23 at HO28010 HO28015 HO28020 BK28001 BK28012 HI28004 HB hHeld ⊢
  refine pure_ (i := 1) (N := some 21) (v := ?_) (a' := ?_) #[false, true, false, false, false, false, false, false, false, false] rfl rfl (any_of HT_.out (by kernel_rfl)) (fun _ _ _ h => h) (Or.inl ⟨by rfl, ?_⟩) ?_ ?_
  rotate_left
  · intro w'
    go_simp
    with_reducible rfl
  rotate_left
  · simp only [Act.put, List.setIfInBounds_toArray, List.set_cons_zero, List.set_cons_succ, i64_w, i32_w]
    rfl
  refine pure_ (i := 2) (N := some 22) (v := ?_) (a' := ?_) #[false, true, true, false, false, false, false, false, false, false] rfl rfl (any_of HT_.out (by kernel_rfl)) (fun _ _ _ h => h) (Or.inl ⟨by rfl, ?_⟩) ?_ ?_
  rotate_left
  · intro w'
    go_simp
    with_reducible rfl
  rotate_left
  · simp only [Act.put, List.setIfInBounds_toArray, List.set_cons_zero, List.set_cons_succ, i64_w, i32_w]
    rfl
  refine pure_ (i := 3) (N := some 23) (v := ?_) (a' := ?_) #[false, true, true, true, false, false, false, false, false, false] rfl rfl (any_of HT_.out (by kernel_rfl)) (fun _ _ _ h => h) (Or.inl ⟨by rfl, ?_⟩) ?_ ?_
  rotate_left
  · intro w'
    go_simp
    with_reducible rfl
  rotate_left
  · simp only [Act.put, List.setIfInBounds_toArray, List.set_cons_zero, List.set_cons_succ, i64_w, i32_w]
    rfl
  refine take_ (i := 0) (N := some 20) (v := ?_) (a' := ?_) #[true, true, true, true, false, false, false, false, false, false] rfl rfl (take_ofW HT_.out HW_.out (by kernel_rfl)) (fun _ _ _ h => h) (Or.inl ⟨by rfl, ?_⟩) hHeld ?_ ?_
  rotate_left
  · rintro w' ⟨s0, s1, s2, s3⟩
    go_simp
    with_reducible rfl
  rotate_left
  · simp only [Act.put, List.setIfInBounds_toArray, List.set_cons_zero, List.set_cons_succ, i64_w, i32_w]
    rfl
  refine one_ (i := 4) (N := some 24) #[true, true, true, true, true, false, false, false, false, false] rfl rfl (one_of HT_.out (by kernel_rfl)) (by decide) (fun K hK => ?_)
  refine Kd.R_lit_step (Kd.int .i64) _ 3 ?hg (N := 24) ?hd (xs := ([0, 5, 60, 120, 255, 256, (-1)] : List Int)) (inner := [.int .i64 0, .int .i64 5, .int .i64 60, .int .i64 120, .int .i64 255, .int .i64 256, .int .i64 (-1)]) (ok := fun _ => True) (okp := fun _ => True) ?hr ?hp (fun _ hk => hk) trivial (Below.refl _ _) (Nat.le_refl _) (by simp) ?_; (case hd => rfl); (case hg => rfl); (case hr => first | (go_simp; done) | (go_simp; rfl)); (case hp => exact (Reps.one (show Kd.M (Kd.int .i64) _ _ _ 0 [.int .i64 0] from rfl) (Reps.one (show Kd.M (Kd.int .i64) _ _ _ 5 [.int .i64 5] from rfl) (Reps.one (show Kd.M (Kd.int .i64) _ _ _ 60 [.int .i64 60] from rfl) (Reps.one (show Kd.M (Kd.int .i64) _ _ _ 120 [.int .i64 120] from rfl) (Reps.one (show Kd.M (Kd.int .i64) _ _ _ 255 [.int .i64 255] from rfl) (Reps.one (show Kd.M (Kd.int .i64) _ _ _ 256 [.int .i64 256] from rfl) (Reps.one (show Kd.M (Kd.int .i64) _ _ _ (-1) [.int .i64 (-1)] from rfl) (Reps.none _ _)))))))))
  intro v28024 w24 ho25 hb hg_ hnew_
  clear hg_ hnew_
  (first | rw [← Ny28023.out] at ho25 | (simp only [Int.reduceToNat] at ho25; rw [← Ny28023.out] at ho25))
  have n0_ := Aside0.mk (Kd.Q_elder' (by (with_reducible repeat (first | apply Kd.Q_alloc | apply Kd.Q_drewN | apply Kd.Q_drew)); exact HO28010.out) (Kd.R_base ho25) hb)
  have n1_ := Aside0.mk (Kd.R_elder' (by (with_reducible repeat (first | apply Kd.R_alloc | apply Kd.R_drewN | apply Kd.R_drew)); exact HO28015.out) (Kd.R_base ho25) hb)
  have n2_ := Aside0.mk (Kd.R_elder' (by (with_reducible repeat (first | apply Kd.R_alloc | apply Kd.R_drewN | apply Kd.R_drew)); exact HO28020.out) (Kd.R_base ho25) hb)
  have n3_ := Aside0.mk (Kd.R_lower (Kd.R_new' (Kd.R_new' (Kd.R_new' ho25 (Kd.Q_lt (by (with_reducible repeat (first | apply Kd.Q_alloc | apply Kd.Q_drewN | apply Kd.Q_drew)); exact HO28010.out))) (Kd.R_lt (by (with_reducible repeat (first | apply Kd.R_alloc | apply Kd.R_drewN | apply Kd.R_drew)); exact HO28015.out))) (Kd.R_lt (by (with_reducible repeat (first | apply Kd.R_alloc | apply Kd.R_drewN | apply Kd.R_drew)); exact HO28020.out))) (below_size (by repeat (first | (with_reducible first | exact HB.out | apply below_alloc | apply pw_below_drewN | apply below_drew1 | refine below_set ?_ (IsS100.ge HI28004.out) | refine below_set ?_ GE28001.out | refine below_set ?_ GE28012.out) | exact HB.out))))
  have n4_ := Aside0.mk (blk_below (g := gb28001) (o := .cells #[.int .i64 0, .int .i64 0, .int .i64 0, .slice none 0 0] 28 (0, 0)) (by (with_reducible repeat (first | refine blk_drewN ?_ _ | refine blk_drew ?_ | refine blk_alloc ?_ _)); exact BK28001.out) hb)
  have n5_ := Aside0.mk (IsS100.below (by repeat (first | (with_reducible first | exact HI28004.out | apply IsS100.alloc | apply IsS100.drewN | apply IsS100.drew | apply IsS100.set_1 | refine IsS100.far ?_ NB28004_28001.out _ | refine IsS100.far ?_ NB28004_28012.out _) | exact HI28004.out)) hb)
  have n6_ := Aside0.mk (blk_below (g := gb28012) (o := .cells #[.int .i64 t28005, .int .i64 t28006, .int .i64 t28007, .slice Ao14 t28008.length co14] 28 (0, 0)) (by (with_reducible repeat (first | refine blk_drewN ?_ _ | refine blk_drew ?_ | refine blk_alloc ?_ _)); exact BK28012.out) hb)
  have n7_ := Aside0.mk (below_step (by repeat (first | (with_reducible first | exact HB.out | apply below_alloc | apply pw_below_drewN | apply below_drew1 | refine below_set ?_ (IsS100.ge HI28004.out) | refine below_set ?_ GE28001.out | refine below_set ?_ GE28012.out) | exact HB.out)) hb)
  clear HO28010
  clear HO28015
  clear HO28020
  clear BK28001
  clear HI28004
  clear BK28012
  clear HB
  have HO28010 := n0_
  have HO28015 := n1_
  have HO28020 := n2_
  have HO28025 := n3_
  have BK28001 := n4_
  have HI28004 := n5_
  have BK28012 := n6_
  have HB := n7_
  clear n0_ n1_ n2_ n3_ n4_ n5_ n6_ n7_
  clear hb ho25
  obtain ⟨Ao26, co26, eo26⟩ := Kd.R_slice HO28025.out
  (first | subst eo26 | (injection eo26 with f1_ f2_ f3_; have f4_ := f1_.symm; have f5_ := f3_.symm; clear f1_ f2_ f3_; subst f4_; subst f5_))
  refine hK.out _ _ ⟨(blk_cell BK28012.out 0).trans rfl, (blk_cell BK28012.out 1).trans rfl, (blk_cell BK28012.out 2).trans rfl, (blk_cell BK28012.out 3).trans rfl⟩ (fun hHeld => ?_)
  clear hK K
  refine norm_ (a' := ?_) ?_ ?_
  rotate_left
  · show Act.put _ (some 24) _ = _
    simp only [Act.put, List.setIfInBounds_toArray, List.set_cons_zero, List.set_cons_succ, i64_w, i32_w]
    rfl
  refine one_ (i := 5) (N := some 25) #[true, true, true, true, true, true, false, false, false, false] rfl rfl (one_of HT_.out (by kernel_rfl)) (by decide) (fun K hK => ?_)
  refine goes_ Try.func73 (by kernel_rfl) rfl #[.pointer (some ⟨g28004, 0, none⟩), .slice Ao26 y28023.length co26] (by rfl) rfl rfl (by (try simp only [List.map_toArray, List.map_cons, List.map_nil]); first | done | rfl | (simp only [List.length_drop, List.length_take]; rfl)) ?_
  with_reducible refine (spec_reader_one.calls k g28004 t28002 t28022 _ _ y28023 t28026 t28027 w _ ?side1 ?side2 ?side3 ?side4 ?side5 A6.out).mono ?_
  (case side1 => repeat (first | (with_reducible first | exact HI28004.out | apply IsS100.alloc | apply IsS100.drewN | apply IsS100.drew | apply IsS100.set_1 | refine IsS100.far ?_ NB28004_28001.out _ | refine IsS100.far ?_ NB28004_28012.out _) | exact HI28004.out))
  (case side2 => repeat (first | (with_reducible first | exact HB.out | apply below_alloc | apply pw_below_drewN | apply below_drew1 | refine below_set ?_ (IsS100.ge HI28004.out) | refine below_set ?_ GE28001.out | refine below_set ?_ GE28012.out) | exact HB.out))
  (case side3 => repeat (first | exact (Kd.R_reads' HO28025.out).2.2 | (with_reducible refine Kd.C_alloc ?_ _) | (with_reducible refine Kd.C_drewN ?_ _) | (with_reducible refine Kd.C_drew ?_)))
  (case side4 => exact (Kd.R_reads' HO28025.out).2.1)
  (case side5 => exact far_slice (IsS100.own_ne HI28004.out HO28025.out (by decide)))
  rintro e w27 ⟨rfl, hi, hb, hk⟩
  refine ⟨_, rfl, ?_⟩
  have n0_ := Aside0.mk (KeepBut.blk hk (g' := gb28001) (o := .cells #[.int .i64 0, .int .i64 0, .int .i64 0, .slice none 0 0] 28 (0, 0)) (by (with_reducible repeat (first | refine blk_drewN ?_ _ | refine blk_drew ?_ | refine blk_alloc ?_ _)); exact BK28001.out) NB28001_28004.out (by simp))
  have n1_ := Aside0.mk (Kd.Q_mono (Kd.Q_keep (IsS100.apartQ (show IsS100 w _ g28004 t28002 t28022 from by repeat (first | (with_reducible first | exact HI28004.out | apply IsS100.alloc | apply IsS100.drewN | apply IsS100.drew | apply IsS100.set_1 | refine IsS100.far ?_ NB28004_28001.out _ | refine IsS100.far ?_ NB28004_28012.out _) | exact HI28004.out)) (by (with_reducible repeat (first | apply Kd.Q_alloc | apply Kd.Q_drewN | apply Kd.Q_drew)); exact HO28010.out) (by decide)) hk (fun _ h => h.2)) (fun _ h => h.1))
  have n2_ := Aside0.mk (KeepBut.blk hk (g' := gb28012) (o := .cells #[.int .i64 t28005, .int .i64 t28006, .int .i64 t28007, .slice Ao14 t28008.length co14] 28 (0, 0)) (by (with_reducible repeat (first | refine blk_drewN ?_ _ | refine blk_drew ?_ | refine blk_alloc ?_ _)); exact BK28012.out) NB28012_28004.out (by simp))
  have n3_ := Aside0.mk (Kd.R_mono (Kd.R_keep (IsS100.apart (show IsS100 w _ g28004 t28002 t28022 from by repeat (first | (with_reducible first | exact HI28004.out | apply IsS100.alloc | apply IsS100.drewN | apply IsS100.drew | apply IsS100.set_1 | refine IsS100.far ?_ NB28004_28001.out _ | refine IsS100.far ?_ NB28004_28012.out _) | exact HI28004.out)) (by (with_reducible repeat (first | apply Kd.R_alloc | apply Kd.R_drewN | apply Kd.R_drew)); exact HO28015.out) (by decide)) hk (fun _ h => h.2)) (fun _ h => h.1))
  have n4_ := Aside0.mk (Kd.R_mono (Kd.R_keep (IsS100.apart (show IsS100 w _ g28004 t28002 t28022 from by repeat (first | (with_reducible first | exact HI28004.out | apply IsS100.alloc | apply IsS100.drewN | apply IsS100.drew | apply IsS100.set_1 | refine IsS100.far ?_ NB28004_28001.out _ | refine IsS100.far ?_ NB28004_28012.out _) | exact HI28004.out)) (by (with_reducible repeat (first | apply Kd.R_alloc | apply Kd.R_drewN | apply Kd.R_drew)); exact HO28020.out) (by decide)) hk (fun _ h => h.2)) (fun _ h => h.1))
  have n5_ := Aside0.mk (Kd.R_mono (Kd.R_keep (IsS100.apart (show IsS100 w _ g28004 t28002 t28022 from by repeat (first | (with_reducible first | exact HI28004.out | apply IsS100.alloc | apply IsS100.drewN | apply IsS100.drew | apply IsS100.set_1 | refine IsS100.far ?_ NB28004_28001.out _ | refine IsS100.far ?_ NB28004_28012.out _) | exact HI28004.out)) (by (with_reducible repeat (first | apply Kd.R_alloc | apply Kd.R_drewN | apply Kd.R_drew)); exact HO28025.out) (by decide)) hk (fun _ h => h.2)) (fun _ h => h.1))
  have n6_ := Aside0.mk (hb)
  have n7_ := Aside0.mk (hi)
  clear BK28001
  clear HO28010
  clear BK28012
  clear HO28015
  clear HO28020
  clear HO28025
  clear HB
  clear HI28004
  have BK28001 := n0_
  have HO28010 := n1_
  have BK28012 := n2_
  have HO28015 := n3_
  have HO28020 := n4_
  have HO28025 := n5_
  have HB := n6_
  have HI28004 := n7_
  clear n0_ n1_ n2_ n3_ n4_ n5_ n6_ n7_
  (try clear hb)
  (try clear hb2)
  (try clear hk)
  (try clear hi)
  refine hK.out _ _ ⟨(blk_cell BK28012.out 0).trans rfl, (blk_cell BK28012.out 1).trans rfl, (blk_cell BK28012.out 2).trans rfl, (blk_cell BK28012.out 3).trans rfl⟩ (fun hHeld => ?_)
  clear hK K
  refine norm_ (a' := ?_) ?_ ?_
  rotate_left
  · show Act.put _ (some 25) _ = _
    simp only [Act.put, List.setIfInBounds_toArray, List.set_cons_zero, List.set_cons_succ, i64_w, i32_w]
    rfl
  refine one_ (i := 6) (N := none) #[true, true, true, true, true, true, true, false, false, false] rfl rfl (one_of HT_.out (by kernel_rfl)) (by decide) (fun K hK => ?_)
  have hs28 : w27.cell? ⟨gb28001, 0, none⟩ = some (.int .i64 0) := (blk_cell BK28001.out 0).trans rfl
  have hfs28 := blk_frozen BK28001.out 0
  have hns28_1 := NB28012_28001.out
  have hms28_1 := NB28001_28012.out
  have hs29 : w27.cell? ⟨gb28001, 1, none⟩ = some (.int .i64 0) := (blk_cell BK28001.out 1).trans rfl
  have hfs29 := blk_frozen BK28001.out 1
  have hns29_1 := NB28012_28001.out
  have hms29_1 := NB28001_28012.out
  have hs30 : w27.cell? ⟨gb28001, 2, none⟩ = some (.int .i64 0) := (blk_cell BK28001.out 2).trans rfl
  have hfs30 := blk_frozen BK28001.out 2
  have hns30_1 := NB28012_28001.out
  have hms30_1 := NB28001_28012.out
  have hs31 : w27.cell? ⟨gb28001, 3, none⟩ = some (.slice none 0 0) := (blk_cell BK28001.out 3).trans rfl
  have hfs31 := blk_frozen BK28001.out 3
  have hns31_1 := NB28012_28001.out
  have hms31_1 := NB28001_28012.out
  refine skip_ (w1 := ?_) (by rfl) rfl ?_ ?_
  rotate_left
  · go_simp
    rfl
  refine hK.out _ _ ⟨((cell_far (p := ⟨gb28001, _, none⟩) NB28012_28001.out _).trans (((cell_far (p := ⟨gb28001, _, none⟩) NB28012_28001.out _).trans (((cell_far (p := ⟨gb28001, _, none⟩) NB28012_28001.out _).trans (((cell_far (p := ⟨gb28001, _, none⟩) NB28012_28001.out _).trans (hHeld.1)))))))), ((cell_far (p := ⟨gb28001, _, none⟩) NB28012_28001.out _).trans (((cell_far (p := ⟨gb28001, _, none⟩) NB28012_28001.out _).trans (((cell_far (p := ⟨gb28001, _, none⟩) NB28012_28001.out _).trans (((cell_far (p := ⟨gb28001, _, none⟩) NB28012_28001.out _).trans (hHeld.2.1)))))))), ((cell_far (p := ⟨gb28001, _, none⟩) NB28012_28001.out _).trans (((cell_far (p := ⟨gb28001, _, none⟩) NB28012_28001.out _).trans (((cell_far (p := ⟨gb28001, _, none⟩) NB28012_28001.out _).trans (((cell_far (p := ⟨gb28001, _, none⟩) NB28012_28001.out _).trans (hHeld.2.2.1)))))))), ((cell_far (p := ⟨gb28001, _, none⟩) NB28012_28001.out _).trans (((cell_far (p := ⟨gb28001, _, none⟩) NB28012_28001.out _).trans (((cell_far (p := ⟨gb28001, _, none⟩) NB28012_28001.out _).trans (((cell_far (p := ⟨gb28001, _, none⟩) NB28012_28001.out _).trans (hHeld.2.2.2))))))))⟩ (fun hHeld => ?_)
  clear hK K
  refine pure_ (i := 7) (N := some 3) (v := ?_) (a' := ?_) #[true, true, true, true, true, true, true, true, false, false] rfl rfl (any_of HT_.out (by kernel_rfl)) (fun _ _ _ h => h) (Or.inl ⟨by rfl, ?_⟩) ?_ ?_
  rotate_left
  · intro w'
    go_simp
    with_reducible rfl
  rotate_left
  · simp only [Act.put, List.setIfInBounds_toArray, List.set_cons_zero, List.set_cons_succ, i64_w, i32_w]
    rfl
  refine pure_ (i := 8) (N := some 4) (v := ?_) (a' := ?_) #[true, true, true, true, true, true, true, true, true, false] rfl rfl (any_of HT_.out (by kernel_rfl)) (fun _ _ _ h => h) (Or.inl ⟨by rfl, ?_⟩) ?_ ?_
  rotate_left
  · intro w'
    go_simp
    with_reducible rfl
  rotate_left
  · simp only [Act.put, List.setIfInBounds_toArray, List.set_cons_zero, List.set_cons_succ, i64_w, i32_w]
    rfl
  refine pure_ (i := 9) (N := some 5) (v := ?_) (a' := ?_) #[true, true, true, true, true, true, true, true, true, true] rfl rfl (any_of HT_.out (by kernel_rfl)) (fun _ _ _ h => h) (Or.inl ⟨by rfl, ?_⟩) ?_ ?_
  rotate_left
  · intro w'
    go_simp
    with_reducible rfl
  rotate_left
  · simp only [Act.put, List.setIfInBounds_toArray, List.set_cons_zero, List.set_cons_succ, i64_w, i32_w]
    rfl
  refine done_ (done_of HT_.out (by kernel_rfl)) ?_
  try go_wp2
  refine bodyPost_ret (results_list (rs := [.cell 2 28, .tmp 3, .tmp 4, .tmp 5]) rfl (by simp) (.cell gb28001 28 #[.int .i64 t28005, .int .i64 t28006, .int .i64 t28007, .slice Ao14 t28008.length co14] (0, 0) _ rfl (by (with_reducible repeat (first | refine blk_drewN ?_ _ | refine blk_drew ?_ | refine blk_alloc ?_ _)); refine blk_put (cs := #[.int .i64 t28005, .int .i64 t28006, .int .i64 t28007, .slice none 0 0]) ?_ 3 _ rfl; (with_reducible repeat (first | refine blk_drewN ?_ _ | refine blk_drew ?_ | refine blk_alloc ?_ _)); refine blk_put (cs := #[.int .i64 t28005, .int .i64 t28006, .int .i64 0, .slice none 0 0]) ?_ 2 _ rfl; (with_reducible repeat (first | refine blk_drewN ?_ _ | refine blk_drew ?_ | refine blk_alloc ?_ _)); refine blk_put (cs := #[.int .i64 t28005, .int .i64 0, .int .i64 0, .slice none 0 0]) ?_ 1 _ rfl; (with_reducible repeat (first | refine blk_drewN ?_ _ | refine blk_drew ?_ | refine blk_alloc ?_ _)); refine blk_put (cs := #[.int .i64 0, .int .i64 0, .int .i64 0, .slice none 0 0]) ?_ 0 _ rfl; (with_reducible repeat (first | refine blk_drewN ?_ _ | refine blk_drew ?_ | refine blk_alloc ?_ _)); exact BK28001.out) Try.underlying28 rfl (by kernel_rfl) (.tmp (.tmp (.tmp .nil))))) rfl ?_
  exact ⟨_, by first | rfl | (simp [errW_none, errW_some] <;> rfl) | (simp [*, errW_none, errW_some] <;> rfl), by (with_reducible repeat (first | apply Kd.Q_alloc | apply Kd.Q_drewN | apply Kd.Q_drew)); exact Kd.Q_mono (Kd.Q_far (p := ⟨gb28001, 3, none⟩) (Kd.Q_far (p := ⟨gb28001, 2, none⟩) (Kd.Q_far (p := ⟨gb28001, 1, none⟩) (Kd.Q_far (p := ⟨gb28001, 0, none⟩) (Kd.Q_types HO28010.out BK28001.out (by decide)) (fun _ hk => hk.2) (.int .i64 t28005)) (fun _ hk => hk.2) (.int .i64 t28006)) (fun _ hk => hk.2) (.int .i64 t28007)) (fun _ hk => hk.2) (.slice Ao14 t28008.length co14)) (fun _ hk => trivial), by repeat (first | (with_reducible first | exact HB.out | apply below_alloc | apply pw_below_drewN | apply below_drew1 | refine below_set ?_ (IsS100.ge HI28004.out) | refine below_set ?_ GE28001.out | refine below_set ?_ GE28012.out) | exact HB.out)⟩

end Go.Proofs.Ytbgohbinonkhfaa.Q

namespace Go.Proofs.Ytbgohbinonkhfaa.Q
open Go.RowKit Go.Proofs.YtbgohbinonkhfaaW.PrintWords Go.Proofs.YtbgohbinonkhfaaW.PrintLast Go.Proofs.YtbgohbinonkhfaaW.PrintMore
attribute [local go_sem] max2_int min2_int max_two min_two max_three min_three max_four min_four
set_option linter.unusedVariables false
set_option linter.unusedSimpArgs false
/-! ### laws_absolute: function 30 -/
def laws_absolute.f (a0 : Int) : Option (Int) := if a0 < 0 then (some (wrap64 (-a0))) else (some a0)
set_option maxHeartbeats 8000000 in
set_option maxRecDepth 100000 in
theorem laws_absolute.calls (a0 : Int) (r : Int) (w : World) (h : laws_absolute.f a0 = some r) :
    Calls Try.prog 30 #[.int .i64 a0] w fun e w' => e = .returned (.int .i64 r) ∧ Drawn0 w w' := by
  have H : (if a0 < 0 then (some (wrap64 (-a0))) else (some a0)) = some r := h
  clear h
  by_cases c2 : a0 < 0
  · rw [if_pos c2] at H
    have c2b0 : decide (a0 < 0) = true := decide_eq_true c2
    clear c2
    obtain rfl := Option.some.inj H
    go_enter Try.func30, Try.ntmps30
    go_wp2
    go_ret
    exact ⟨by first | rfl | (simp; done) | (simp [*]; done), by repeat (first | exact Drawn0.refl _ | apply Drawn0.step)⟩
  · rw [if_neg c2] at H
    have c2b0 : decide (a0 < 0) = false := decide_eq_false c2
    clear c2
    obtain rfl := Option.some.inj H
    go_enter Try.func30, Try.ntmps30
    go_wp2
    go_ret
    exact ⟨by first | rfl | (simp; done) | (simp [*]; done), by repeat (first | exact Drawn0.refl _ | apply Drawn0.step)⟩

end Go.Proofs.Ytbgohbinonkhfaa.Q

/- impl.partsOf: the connected parts of a region, as runs. -/
namespace Go.Proofs.Ytbgohbinonkhfaa.Q
open Go.RowKit Go.Proofs.YtbgohbinonkhfaaW.PrintWords Go.Proofs.YtbgohbinonkhfaaW.PrintLast Go.Proofs.YtbgohbinonkhfaaW.PrintMore
attribute [local go_sem] max2_int min2_int max_two min_two max_three min_three max_four min_four
set_option linter.unusedVariables false
set_option linter.unusedSimpArgs false

/-- the parts that begin at pixels of a list, but for what has been seen -/
noncomputable def partsFrom (g : Nat → Bool) : List Nat → (Nat → Bool) → List (List S47)
  | [], _ => []
  | p :: ps, seen => if seen p = true then partsFrom g ps seen else runsL (comp g p) :: partsFrom g ps (gso (fun x y => seen (y * 16 + x) || comp g p (y * 16 + x)) 256)
/-- the pixels of a run from column x on -/
def pixRun (r : S47) (x : Nat) : List Nat := (List.range' x (r.f2.toNat - x)).map fun x => r.f0.toNat * 16 + x
def pixels (l : List S47) : List Nat := l.flatMap fun r => pixRun r r.f1.toNat
theorem pixels_drop (l : List S47) (k : Nat) (h : k < l.length) : pixels (l.drop k) = pixRun l[k] l[k].f1.toNat ++ pixels (l.drop (k + 1)) := by
  rw [List.drop_eq_getElem_cons h]; rfl
theorem pixRun_in (r : S47) (x : Nat) (h : (x : Int) < r.f2) : pixRun r x = (r.f0.toNat * 16 + x) :: pixRun r (x + 1) := by
  unfold pixRun
  rw [show r.f2.toNat - x = (r.f2.toNat - (x + 1)) + 1 by omega, List.range'_succ, List.map_cons]
theorem pixRun_end (r : S47) (x : Nat) (h : ¬ (x : Int) < r.f2) : pixRun r x = [] := by
  unfold pixRun
  rw [show r.f2.toNat - x = 0 by omega]; rfl
theorem unseen_add (seen c : Nat → Bool) (p : Nat) (hp : p < 256) (h : seen p = false) (hc : c p = true) : unseen (fun q => seen q || c q) + 1 ≤ unseen seen := by
  have h1 := unseen_set seen p hp h
  have h2 : unseen (fun q => seen q || c q) ≤ unseen (fun q => if q = p then true else seen q) := by
    unfold unseen
    refine List.countP_mono_left (fun q _ hq => ?_)
    have hq' : (!(seen q || c q)) = true := hq
    show (!(if q = p then true else seen q)) = true
    by_cases e : q = p
    · subst e; rw [hc] at hq'; simp at hq'
    · rw [if_neg e]
      cases hs : seen q with
      | false => rfl
      | true => rw [hs] at hq'; simp at hq'
  omega

set_option maxHeartbeats 1600000 in
set_option maxRecDepth 100000 in
theorem parts1_calls (g e : Nat → Bool) (x y : Nat) (hx : x < 16) (hy : y < 16) (B1 B2 : Nat) (w : World) (h1 : GridAt w B1 g) (h2 : GridAt w B2 e) :
    Calls Try.prog 103 #[.int .i64 (x : Int), .int .i64 (y : Int), .pointer (some ⟨B1, 0, none⟩), .pointer (some ⟨B2, 0, none⟩)] w fun e_ w' => e_ = .returned (.bool (g (y * 16 + x) || e (y * 16 + x))) ∧ Below w.heap.size w w' := by
  have c1 := h1.cell (y * 16 + x) (by omega)
  have c2 := h2.cell (y * 16 + x) (by omega)
  clear h1 h2
  cases hp : g (y * 16 + x) <;> cases hq : e (y * 16 + x) <;> rw [hp] at c1 <;> rw [hq] at c2
  all_goals
    clear hp hq
    go_enter Try.func103, Try.ntmps103
    go_wp2
    go_ret
    exact ⟨rfl, Below.refl _ _⟩
theorem setRow_keepQ {W : World} {k g : Nat} {o : Obj} (h : W.heap[k]? = some o) (cs : Array Value) (hk : k ≠ g) : (W.setRow g cs).heap[k]? = some o := (setRow_other W g k cs hk).trans h

set_option maxHeartbeats 1600000 in
set_option maxRecDepth 100000 in
theorem partsOf_calls (A0 : Option Addr) (c0 : Nat) (l0 : List S47) (w : World) (hr0 : Kd.C k47 w A0 l0.length l0) (hok : ∀ r ∈ l0, 0 ≤ r.f0 ∧ r.f0 < 16 ∧ 0 ≤ r.f1 ∧ r.f2 ≤ 16) :
    Calls Try.prog 75 #[.slice A0 l0.length c0] w fun e w' => ∃ v0_ : Value, e = .returned v0_ ∧ Kd.S (Kd.slice 47 k47) 26 w' w.heap.size (fun _ => True) v0_ (partsFrom (gridF l0) (pixels l0) (fun _ => false)) ∧ Below w.heap.size w w' := by
  have hm : l0.length ≤ 9223372036854775807 := hr0.2.1
  have HR := Aside0.mk hr0
  have HOK := Aside0.mk hok
  clear hr0 hok
  have z0 := zero66
  have HSZ := Aside0.mk (fun g g' : Nat → Bool => show (gc g).size = (gc g').size by rw [gc_size, gc_size])
  have HO := Aside0.mk (fun g : Nat → Bool => gc_one g)
  have HI := Aside0.mk (fun g : Nat → Bool => show (Try.prog.info? 75).map (·.size) = some (gc g).size by rw [gc_size]; exact info66)
  obtain ⟨gF, hgF⟩ : ∃ gF, gF = gridF l0 := ⟨_, rfl⟩
  have HGC := Aside0.mk (gridOf_calls A0 c0 l0 w HR.out HOK.out)
  rw [← hgF] at HGC ⊢
  clear hgF
  go_enter Try.func75, Try.ntmps75
  go_wp2_with (first
    | (go_at_call 57; refine HGC.out.mono ?_; rintro e w1 ⟨rfl, hb1⟩; have HB1 := Aside0.mk hb1; clear hb1;
        have HN1 : Aside0 ((w1.alloc (.cells (gc fun _ => false) 75)).heap[w1.heap.size]? = some (.cells (gc fun _ => false) 75 (0, 0))) := Aside0.mk (blk_new _ _);
        have HN2 : Aside0 ((((w1.alloc (.cells (gc fun _ => false) 75)).setRow w1.heap.size (gc gF)).alloc (.cells (gc fun _ => false) 75)).heap[w1.heap.size + 1]? = some (.cells (gc fun _ => false) 75 (0, 0))) := Aside0.mk (by have h := blk_new ((w1.alloc (.cells (gc fun _ => false) 75)).setRow w1.heap.size (gc gF)) (.cells (gc fun _ => false) 75); rw [setRow_size] at h; simp only [World.size_alloc] at h; exact h);
        have HG2 : Aside0 (GridAt ((((w1.alloc (.cells (gc fun _ => false) 75)).setRow w1.heap.size (gc gF)).alloc (.cells (gc fun _ => false) 75)).setRow (w1.heap.size + 1) (gc fun _ => false)) w1.heap.size gF) := Aside0.mk (setRow_keepQ (blk_alloc (GridAt.setRow (g := fun _ => false) HN1.out gF) (.cells (gc fun _ => false) 75)) _ (by omega));
        have HS2 : Aside0 (GridAt ((((w1.alloc (.cells (gc fun _ => false) 75)).setRow w1.heap.size (gc gF)).alloc (.cells (gc fun _ => false) 75)).setRow (w1.heap.size + 1) (gc fun _ => false)) (w1.heap.size + 1) (fun _ => false)) := Aside0.mk (GridAt.setRow (g := fun _ => false) HN2.out _);
        have HB2 := Aside0.mk (below_setRow (below_alloc (below_setRow (below_alloc HB1.out (.cells (gc fun _ => false) 75)) HB1.out.size (gc gF)) (.cells (gc fun _ => false) 75)) (Nat.le_succ_of_le HB1.out.size) (gc fun _ => false)))
    | ((with_reducible refine wpList_store_row rfl 75 (.tmp 3) (.tmp 11) rfl w1.heap.size (gc gF) ?hx ?hy 75 (gc fun _ => false) HN1.out (HI.out _) (HSZ.out _ _) (HO.out _) ?_); (case hx => rfl); (case hy => rfl))
    | ((with_reducible refine wpList_store_row rfl 75 (.tmp 4) (.tmp 12) rfl (w1.heap.size + 1) (gc fun _ => false) ?hx ?hy 75 (gc fun _ => false) HN2.out (HI.out _) (HSZ.out _ _) (HO.out _) ?_); (case hx => rfl); (case hy => rfl)))
  have HBW := Aside0.mk HB1.out.size
  obtain ⟨B, hB⟩ : ∃ B, B = w1.heap.size := ⟨_, rfl⟩
  go_loopw [5, 16] (fun v5 v16 W => ∃ (k : Nat) (seen : Nat → Bool) (parts : List (List S47)), v16 = .int .i64 k ∧ k ≤ l0.length ∧
    Aside0 (Kd.S (Kd.slice 47 k47) 26 W w.heap.size (fun _ => True) v5 parts ∧ GridAt W w1.heap.size gF ∧ GridAt W (w1.heap.size + 1) seen ∧ Below w.heap.size w W) ∧
    Aside0 (parts ++ partsFrom gF (pixels (l0.drop k)) seen = partsFrom gF (pixels l0) (fun _ => false) ∧ parts.length + unseen seen ≤ 256)) (fun _ v16 _ => l0.length - (intOf v16).toNat)
  case atStart =>
    have h : Kd.S (Kd.slice 47 k47) 26 _ _ _ _ [] := ⟨fun _ => 0, R_empty (Kd.tag (fun _ => 0) (Kd.slice 47 k47)) 26 w.heap.size ((((w1.alloc (.cells (gc fun _ => false) 75)).setRow w1.heap.size (gc gF)).alloc (.cells (gc fun _ => false) 75)).setRow (w1.heap.size + 1) (gc fun _ => false)) HB2.out.size⟩
    simp only [World.size_alloc, setRow_size] at h
    refine ⟨0, (fun _ => false), [], rfl, by omega, ⟨h, HG2.out.alloc _, HS2.out.alloc _, below_alloc HB2.out _⟩, ⟨rfl, ?_⟩⟩
    have h2 : unseen (fun _ => false) = 256 := by simp [unseen]
    rw [h2]; simp
  case round =>
    obtain ⟨k, seen, parts, rfl, hk, HW, HT⟩ := hrel
    clear HN1 HN2 HG2 HS2 HB2
    obtain ⟨wo, rfl⟩ : ∃ wo : World, wo = wr := ⟨_, rfl⟩
    by_cases hlt : k < l0.length
    · have hdk : decide ((k : Int) < (l0.length : Int)) = true := by simp; omega
      obtain ⟨ad, e, hx0, hx1, hx2⟩ := at_T47 HR.out (k : Int) (by omega) (by omega)
      cases e
      have er : rd_T47 l0 (k : Int) = l0[k] := by simp [rd_T47, hlt]
      have ho := HOK.out l0[k] (List.getElem_mem hlt)
      have HPD := Aside0.mk (pixels_drop l0 k hlt)
      rw [er, Int.toNat_natCast] at hx0 hx1 hx2
      clear er
      generalize l0[k] = r at *
      obtain ⟨Y, hY⟩ := Int.eq_ofNat_of_zero_le ho.1
      obtain ⟨F, hF⟩ := Int.eq_ofNat_of_zero_le ho.2.2.1
      have ho2 := ho.2.1
      have ho4 := ho.2.2.2
      clear ho
      rw [hY] at hx0 ho2
      rw [hF] at hx1
      replace hx0 := (HW.out.2.2.2.cell (World.block_lt_of_cell? w _ hx0)).trans hx0
      replace hx1 := (HW.out.2.2.2.cell (World.block_lt_of_cell? w _ hx1)).trans hx1
      replace hx2 := (HW.out.2.2.2.cell (World.block_lt_of_cell? w _ hx2)).trans hx2
      have HY := Aside0.mk hY
      have HF := Aside0.mk hF
      clear hY hF
      go_wp2
      have hlt2 := HW.out.2.2.1.lt
      have HT1 := Aside0.mk (show parts ++ partsFrom gF (pixRun r F ++ pixels (l0.drop (k + 1))) seen = partsFrom gF (pixels l0) (fun _ => false) from by have h := HT.out.1; rw [HPD.out, HF.out, Int.toNat_natCast] at h; exact h)
      go_loopw [5, 8] (fun v5 v8 W => ∃ (x : Nat) (seen' : Nat → Bool) (parts' : List (List S47)), v8 = .int .i64 x ∧ F ≤ x ∧ ((x : Int) ≤ r.f2 ∨ x = F) ∧
        Aside0 (Kd.S (Kd.slice 47 k47) 26 W w.heap.size (fun _ => True) v5 parts' ∧ GridAt W w1.heap.size gF ∧ GridAt W (w1.heap.size + 1) seen' ∧ Below w.heap.size w W) ∧
        Aside0 (W.heap[wo.heap.size]? = some (.cells #[.int .i64 (Y : Int), .int .i64 (F : Int), .int .i64 r.f2] 47 (0, 0))) ∧
        Aside0 (parts' ++ partsFrom gF (pixRun r x ++ pixels (l0.drop (k + 1))) seen' = partsFrom gF (pixels l0) (fun _ => false) ∧ parts'.length + unseen seen' ≤ 256)) (fun _ v8 _ => 17 - (intOf v8).toNat + (r.f2 - (intOf v8)).toNat)
      case atStart =>
        exact ⟨F, seen, parts, rfl, Nat.le_refl _, .inr rfl, ⟨Kd.S_alloc HW.out.1 _, HW.out.2.1.alloc _, HW.out.2.2.1.alloc _, below_alloc HW.out.2.2.2 _⟩, ⟨blk_new _ _⟩, ⟨HT1.out, HT.out.2⟩⟩
      case round =>
        obtain ⟨x, seen', parts', rfl, hFx, hx, HV, HK, HU⟩ := hrel
        clear HT1 hx0 hx1 hx2
        obtain ⟨wi, rfl⟩ : ∃ wi : World, wi = wr := ⟨_, rfl⟩
        have hc0 : wi.cell? ⟨wo.heap.size, 0, none⟩ = some (.int .i64 (Y : Int)) := (blk_cell HK.out 0).trans rfl
        have hc2 : wi.cell? ⟨wo.heap.size, 2, none⟩ = some (.int .i64 r.f2) := (blk_cell HK.out 2).trans rfl
        by_cases hxt : (x : Int) < r.f2
        · have hdx : decide ((x : Int) < r.f2) = true := by simpa using hxt
          have hx16 : x < 16 := by omega
          have hY16 : Y < 16 := by omega
          have hcs := HV.out.2.2.1.cell (Y * 16 + x) (by omega)
          have HPI := Aside0.mk (pixRun_in r x hxt)
          cases hs : seen' (Y * 16 + x) with
          | true =>
            rw [hs] at hcs
            have HU2 := Aside0.mk (show parts' ++ partsFrom gF (pixRun r (x + 1) ++ pixels (l0.drop (k + 1))) seen' = partsFrom gF (pixels l0) (fun _ => false) from by
              have h := HU.out.1
              rw [HPI.out, HY.out, Int.toNat_natCast, List.cons_append, partsFrom, if_pos hs] at h
              exact h)
            clear hs
            go_wp2
            go_roundw
            case rel => exact ⟨x + 1, seen', parts', by go_num, by omega, .inl (by omega), HV, HK, ⟨HU2.out, HU.out.2⟩⟩
            case measure => simp [intOf]; omega
          | false =>
            rw [hs] at hcs
            have hg' : wi.heap[w1.heap.size]? = some (.cells (gc gF) 75 (0, 0)) := HV.out.2.1
            have HU2 := Aside0.mk (show (parts' ++ [runsL (comp gF (Y * 16 + x))]) ++ partsFrom gF (pixRun r (x + 1) ++ pixels (l0.drop (k + 1))) (gso (fun x_ y_ => seen' (y_ * 16 + x_) || comp gF (Y * 16 + x) (y_ * 16 + x_)) 256) = partsFrom gF (pixels l0) (fun _ => false) from by
              have h := HU.out.1
              rw [HPI.out, HY.out, Int.toNat_natCast, List.cons_append, partsFrom, if_neg (by rw [hs]; simp)] at h
              rw [List.append_assoc]
              exact h)
            have HUN := Aside0.mk (unseen_add seen' (comp gF (Y * 16 + x)) (Y * 16 + x) (by omega) hs ((comp_iff _ _ _).2 .here))
            clear hs
            go_wp2_with (first
              | ((with_reducible refine gate_dst (N := 34) rfl ?_); refine wpList_load_row rfl 75 (.tmp 3) rfl w1.heap.size rfl 75 (gc gF) (0, 0) (.array 16 73) hg' underlying66 rfl (HI.out _) ?_)
              | (go_at_call 70; refine (part_calls gF x Y hx16 hY16 _).mono ?_; rintro e W3 ⟨rfl, hb3⟩; have HB3 := Aside0.mk hb3; clear hb3;
                  have HN3 : Aside0 ((W3.alloc (.cells (gc fun _ => false) 75)).heap[W3.heap.size]? = some (.cells (gc fun _ => false) 75 (0, 0))) := Aside0.mk (blk_new _ _);
                  have HP4 : Aside0 (GridAt ((W3.alloc (.cells (gc fun _ => false) 75)).setRow W3.heap.size (gc (comp gF (Y * 16 + x)))) W3.heap.size (comp gF (Y * 16 + x))) := Aside0.mk (GridAt.setRow (g := fun _ => false) HN3.out _);
                  have HB4 : Aside0 (Below wi.heap.size wi ((W3.alloc (.cells (gc fun _ => false) 75)).setRow W3.heap.size (gc (comp gF (Y * 16 + x))))) := Aside0.mk (below_setRow (below_alloc HB3.out (.cells (gc fun _ => false) 75)) HB3.out.size _))
              | ((with_reducible refine wpList_store_row rfl 75 (.tmp 9) (.tmp 38) rfl W3.heap.size (gc (comp gF (Y * 16 + x))) ?hx ?hy 75 (gc fun _ => false) HN3.out (HI.out _) (HSZ.out _ _) (HO.out _) ?_); (case hx => rfl); (case hy => rfl))
              | (go_at_call 67; refine (gridBy_calls 103 #[.pointer (some ⟨w1.heap.size + 1, 0, none⟩), .pointer (some ⟨W3.heap.size, 0, none⟩)] (fun x_ y_ => seen' (y_ * 16 + x_) || comp gF (Y * 16 + x) (y_ * 16 + x_)) ((W3.alloc (.cells (gc fun _ => false) 75)).setRow W3.heap.size (gc (comp gF (Y * 16 + x)))) (enters_of Try.func103 (by kernel_rfl) rfl) (fun W a b ha hb hW => parts1_calls seen' (comp gF (Y * 16 + x)) a b ha hb _ _ W (GridAt.below (GridAt.below HV.out.2.2.1 HB4.out) hW) (GridAt.below HP4.out hW))).mono ?_; rintro e W5 ⟨rfl, hb5⟩;
                  have HB5 : Aside0 (Below wi.heap.size wi W5) := Aside0.mk (below_then HB4.out HB4.out.size hb5);
                  have HS5 : Aside0 (W5.heap[w1.heap.size + 1]? = some (.cells (gc seen') 75 (0, 0))) := Aside0.mk (GridAt.below HV.out.2.2.1 HB5.out);
                  have HP6 : Aside0 ((W5.setRow (w1.heap.size + 1) (gc (gso (fun x_ y_ => seen' (y_ * 16 + x_) || comp gF (Y * 16 + x) (y_ * 16 + x_)) 256))).heap[W3.heap.size]? = some (.cells (gc (comp gF (Y * 16 + x))) 75 (0, 0))) := Aside0.mk (setRow_keepQ (GridAt.below HP4.out hb5) _ (by have := HB3.out.size; have := GridAt.lt HV.out.2.2.1; omega));
                  have HR6 := Aside0.mk (Kd.S_mono (Kd.S_move (w1 := W5.setRow (w1.heap.size + 1) (gc (gso (fun x_ y_ => seen' (y_ * 16 + x_) || comp gF (Y * 16 + x) (y_ * 16 + x_)) 256))) (Kd.S_types (Kd.S_below HV.out.1 HB5.out) HS5.out (by decide)) (fun k hk => setRow_other _ _ _ _ hk.2)) (fun _ h => h.1));
                  have HG6 : Aside0 (GridAt (W5.setRow (w1.heap.size + 1) (gc (gso (fun x_ y_ => seen' (y_ * 16 + x_) || comp gF (Y * 16 + x) (y_ * 16 + x_)) 256))) w1.heap.size gF) := Aside0.mk (setRow_keepQ (GridAt.below HV.out.2.1 HB5.out) _ (by omega));
                  have HS6 : Aside0 (GridAt (W5.setRow (w1.heap.size + 1) (gc (gso (fun x_ y_ => seen' (y_ * 16 + x_) || comp gF (Y * 16 + x) (y_ * 16 + x_)) 256))) (w1.heap.size + 1) (gso (fun x_ y_ => seen' (y_ * 16 + x_) || comp gF (Y * 16 + x) (y_ * 16 + x_)) 256)) := Aside0.mk (GridAt.setRow (g := seen') HS5.out _);
                  have HK6 := Aside0.mk (setRow_keepQ (blk_below HK.out HB5.out) (gc (gso (fun x_ y_ => seen' (y_ * 16 + x_) || comp gF (Y * 16 + x) (y_ * 16 + x_)) 256)) (show wo.heap.size ≠ w1.heap.size + 1 by omega));
                  have HB6 := Aside0.mk (below_setRow (below_then HV.out.2.2.2 HV.out.2.2.2.size HB5.out) (show w.heap.size ≤ w1.heap.size + 1 from Nat.le_succ_of_le HBW.out) (gc (gso (fun x_ y_ => seen' (y_ * 16 + x_) || comp gF (Y * 16 + x) (y_ * 16 + x_)) 256)));
                  have HL6 := Aside0.mk (show wi.heap.size ≤ (W5.setRow (w1.heap.size + 1) (gc (gso (fun x_ y_ => seen' (y_ * 16 + x_) || comp gF (Y * 16 + x) (y_ * 16 + x_)) 256))).heap.size by rw [setRow_size]; exact HB5.out.size); clear hb5)
              | ((with_reducible refine wpList_store_row rfl 75 (.tmp 4) (.tmp 40) rfl (w1.heap.size + 1) (gc (gso (fun x_ y_ => seen' (y_ * 16 + x_) || comp gF (Y * 16 + x) (y_ * 16 + x_)) 256)) ?hx ?hy 75 (gc seen') HS5.out (HI.out _) (HSZ.out _ _) (HO.out _) ?_); (case hx => rfl); (case hy => rfl))
              | ((with_reducible refine gate_dst (N := 42) rfl ?_); refine wpList_load_row rfl 75 (.tmp 9) rfl W3.heap.size rfl 75 (gc (comp gF (Y * 16 + x))) (0, 0) (.array 16 73) HP6.out underlying66 rfl (HI.out _) ?_)
              | (go_at_call 71; refine (runs_calls (comp gF (Y * 16 + x)) (W5.setRow (w1.heap.size + 1) (gc (gso (fun x_ y_ => seen' (y_ * 16 + x_) || comp gF (Y * 16 + x) (y_ * 16 + x_)) 256)))).mono ?_; rintro e W7 ⟨v7, rfl, hr7, hb7⟩; obtain ⟨A7, c7, hv7, _⟩ := Kd.Q_slice (Kd.Q_of_R hr7); subst hv7;
                  have HV7 := Aside0.mk (Kd.R_lower (Kd.R_mono (Kd.R_bound hr7) (fun k hk => hk.2.1)) HB6.out.size);
                  have HR7 := Aside0.mk (Kd.S_below (Kd.S_mono (Kd.S_bound HR6.out) (fun k hk => (⟨trivial, Nat.not_le.2 hk.2.2.1⟩ : True ∧ ¬ ((W5.setRow (w1.heap.size + 1) (gc (gso (fun x_ y_ => seen' (y_ * 16 + x_) || comp gF (Y * 16 + x) (y_ * 16 + x_)) 256))).heap.size ≤ k)))) hb7); have HG7 := Aside0.mk (GridAt.below HG6.out hb7); have HS7 := Aside0.mk (GridAt.below HS6.out hb7); have HK7 := Aside0.mk (blk_below HK6.out hb7); have HB7 := Aside0.mk (below_then HB6.out HB6.out.size hb7); have HQ7 := Aside0.mk (Kd.S_lt HV.out.1); clear hr7 hb7)
              | ((with_reducible refine gate_builtin (b := .append) (xs := #[.tmp 41, .tmp 44]) rfl ?_); at_builtin; refine Kd.S_append (Kd.slice 47 k47) (w0 := w) w.heap.size rfl (.tmp 41) (.tmp 44) 51 26 (.slice none 0 0) 24 rfl Try.underlying51 info26 rfl (by decide) (by omega) u5 parts' (runsL (comp gF (Y * 16 + x))) [.slice A7 (runsL (comp gF (Y * 16 + x))).length c7] (fun _ => True) (fun k => (W5.setRow (w1.heap.size + 1) (gc (gso (fun x_ y_ => seen' (y_ * 16 + x_) || comp gF (Y * 16 + x) (y_ * 16 + x_)) 256))).heap.size ≤ k) rfl ?aX (Kd.M_row HV7.out) (fun k hk => ⟨trivial, fun e => by have h1 := HQ7.out k e.symm; have h2 := HL6.out; omega⟩) (fun _ _ => trivial) HR7.out HB7.out HB7.out.size ?aL ?_; (case aX => rfl); (case aL => (have hl_ := HU.out.2; omega)); intro v8 W8 ho hb hg hat;
                  have HR8 := Aside0.mk ho; have HB8 := Aside0.mk hb; have HG8 : Aside0 (GridAt W8 w1.heap.size gF) := Aside0.mk (blk_grown HG7.out hg (Kd.S_ne HR7.out HG7.out (by decide))); have HS8 : Aside0 (GridAt W8 (w1.heap.size + 1) (gso (fun x_ y_ => seen' (y_ * 16 + x_) || comp gF (Y * 16 + x) (y_ * 16 + x_)) 256)) := Aside0.mk (blk_grown HS7.out hg (Kd.S_ne HR7.out HS7.out (by decide))); have HK8 := Aside0.mk (blk_grown HK7.out hg (Kd.S_ne HR7.out HK7.out (by decide))); clear ho hb hg hat))
            go_roundw
            case rel => exact ⟨x + 1, (gso (fun x_ y_ => seen' (y_ * 16 + x_) || comp gF (Y * 16 + x) (y_ * 16 + x_)) 256), parts' ++ [runsL (comp gF (Y * 16 + x))], by go_num, by omega, .inl (by omega), ⟨HR8.out, HG8.out, HS8.out, HB8.out⟩, HK8, ⟨HU2.out, by
              have h1 := HUN.out
              have h2 := HU.out.2
              have h3 : unseen (gso (fun x_ y_ => seen' (y_ * 16 + x_) || comp gF (Y * 16 + x) (y_ * 16 + x_)) 256) = unseen (fun q => seen' q || (comp gF (Y * 16 + x)) q) := unseen_congr (fun p hp => by unfold gso; rw [decide_eq_true hp, Bool.true_and]; show (seen' (p / 16 * 16 + p % 16) || comp gF (Y * 16 + x) (p / 16 * 16 + p % 16)) = _; rw [show p / 16 * 16 + p % 16 = p by omega])
              rw [h3, List.length_append, List.length_singleton]
              omega⟩⟩
            case measure => simp [intOf]; omega
        · have hdx : decide ((x : Int) < r.f2) = false := by simpa using hxt
          have HU2 := Aside0.mk (show parts' ++ partsFrom gF (pixels (l0.drop (k + 1))) seen' = partsFrom gF (pixels l0) (fun _ => false) from by
            have h := HU.out.1
            rw [pixRun_end r x hxt, List.nil_append] at h
            exact h)
          go_wp2
          go_roundw
          case rel => exact ⟨k + 1, seen', parts', by go_num, by omega, HV, ⟨HU2.out, HU.out.2⟩⟩
          case measure => simp [intOf]; omega
    · have hdk : decide ((k : Int) < (l0.length : Int)) = false := by simp; omega
      have hkl : k = l0.length := by omega
      subst hkl
      have HE := Aside0.mk (show parts = partsFrom gF (pixels l0) (fun _ => false) from by
        have h := HT.out.1
        rw [List.drop_length] at h
        simpa [pixels, partsFrom] using h)
      go_wp2
      go_ret
      exact ⟨_, rfl, by rw [← HE.out]; exact HW.out.1, HW.out.2.2.2⟩
end Go.Proofs.Ytbgohbinonkhfaa.Q

/- impl.PartsOf: the connected parts of a region. -/
namespace Go.Proofs.Ytbgohbinonkhfaa.Q
open Go.RowKit Go.Proofs.YtbgohbinonkhfaaW.PrintWords Go.Proofs.YtbgohbinonkhfaaW.PrintLast Go.Proofs.YtbgohbinonkhfaaW.PrintMore
attribute [local go_sem] max2_int min2_int max_two min_two max_three min_three max_four min_four
set_option linter.unusedVariables false
set_option linter.unusedSimpArgs false
open Go.Proofs.Ytbgohbinonkhfaa.Pure

noncomputable def impl_PartsOf.f (l0 : List S47) : Option (List (List S47)) := some (if validR l0 = true then partsFrom (gridF l0) (pixels l0) (fun _ => false) else [])

set_option maxHeartbeats 1000000 in
set_option maxRecDepth 100000 in
theorem impl_PartsOf.calls (A0 : Option Addr) (c0 : Nat) (l0 : List S47) (r : List (List S47)) (w : World) (hr0 : Kd.C k47 w A0 l0.length l0) (hc0 : l0.length ≤ c0) (h : impl_PartsOf.f l0 = some r) :
    Calls Try.prog 31 #[.slice A0 l0.length c0] w fun e w' => ∃ v0_ : Value, e = .returned (v0_) ∧ Kd.S (Kd.slice 47 k47) 26 w' w.heap.size (fun _ => True) v0_ r ∧ Below w.heap.size w w' := by
  obtain rfl := Option.some.inj h
  clear h
  have HC := Aside0.mk (impl_isRegion.calls (2 * l0.length + 2) A0 c0 l0 (validR l0) w hr0 hc0 (impl_isRegion_eq l0 hr0.2.1 _ (by omega)))
  have HR := Aside0.mk hr0
  clear hr0
  by_cases hv : validR l0 = true
  · rw [if_pos hv]
    have HV := Aside0.mk (valid_ranges hv)
    rw [hv] at HC
    clear hv
    go_enter Try.func31, Try.ntmps31
    go_wp2_with (first
      | (go_at_call 56; refine HC.out.mono ?_; rintro e w1 ⟨rfl, hb1⟩; have HB1 := Aside0.mk hb1; clear hb1)
      | (go_at_call 75; refine (partsOf_calls _ _ _ _ (Kd.C_below HR.out HB1.out) HV.out).mono ?_; rintro e w4 ⟨v4, rfl, hr4, hb4⟩; have HR4 := Aside0.mk (Kd.S_lower hr4 HB1.out.size); have HB4 := Aside0.mk (below_then HB1.out HB1.out.size hb4); clear hb4 hr4))
    go_ret
    exact ⟨v4, rfl, HR4.out, HB4.out⟩
  · replace hv : validR l0 = false := by simpa using hv
    rw [if_neg (by simp [hv])]
    rw [hv] at HC
    clear hv
    go_enter Try.func31, Try.ntmps31
    go_wp2_with (first
      | (go_at_call 56; refine HC.out.mono ?_; rintro e w1 ⟨rfl, hb1⟩; have HB1 := Aside0.mk hb1; clear hb1))
    go_ret
    exact ⟨_, rfl, Kd.S_nil _ _ _ _ _, HB1.out⟩
end Go.Proofs.Ytbgohbinonkhfaa.Q
