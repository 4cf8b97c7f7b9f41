/- A part of the proof that the statement FnChangedRegionSaid holds, under no condition of its own: Changes are where pixels differ: the law FnChangedRegion over lists of numbers alone. -/
import Derived.Test.YtbgohbinonkhfaaCFnChangedRegion1
import Derived.Test.YtbgohbinonkhfaaCFnChangedRegion3
import Derived.Test.YtbgohbinonkhfaaCFnChangedRegion2
namespace Go.Proofs.Ytbgohbinonkhfaa.Q
open Go.RowKit Go.Proofs.YtbgohbinonkhfaaW.PrintWords Go.Proofs.YtbgohbinonkhfaaW.PrintLast Go.Proofs.YtbgohbinonkhfaaW.PrintMore
attribute [local go_sem] max2_int min2_int max_two min_two max_three min_three max_four min_four
set_option linter.unusedVariables false
set_option linter.unusedSimpArgs false
/-! ### spec_twoImages: function 54 -/
mutual
def spec_twoImages.l0 : Nat → Int → List Int → Int → Int → Int → Int → List Int → Int → Int → Int → List Int → Option (Int × Int × Int × List Int × Int × Int × Int × List Int × Int)
  | 0, _, _, _, _, _, _, _, _, _, _, _ => none
  | k + 1, x6, x1000, x1001, x55011000, x55011001, x55011002, x55011003, x55015000, x55015001, x55015002, x55015003 => if x6 > 0 then (spec_twoImages.j1 k x6 (decide ((x55015003.length : Int) > 0)) x1000 x1001 x55011000 x55011001 x55011002 x55011003 x55015000 x55015001 x55015002 x55015003) else (spec_twoImages.j1 k x6 false x1000 x1001 x55011000 x55011001 x55011002 x55011003 x55015000 x55015001 x55015002 x55015003)
def spec_twoImages.j1 : Nat → Int → Bool → List Int → Int → Int → Int → Int → List Int → Int → Int → Int → List Int → Option (Int × Int × Int × List Int × Int × Int × Int × List Int × Int)
  | 0, _, _, _, _, _, _, _, _, _, _, _, _ => none
  | k + 1, x6, x28, x1000, x1001, x55011000, x55011001, x55011002, x55011003, x55015000, x55015001, x55015002, x55015003 => if x28 = true then ((spec_reader_pick.f k x1000 x1001 (x55015003.length : Int)).bind fun bt55017 => ((spec_reader_pick.f k x1000 bt55017.2 256).bind fun bt55019 => (if 0 ≤ bt55017.1 then (if bt55017.1 < (x55015003.length : Int) then (spec_twoImages.l0 k (wrap64 (x6 - 1)) x1000 bt55019.2 x55011000 x55011001 x55011002 x55011003 x55015000 x55015001 x55015002 (x55015003.set (bt55017.1 : Int).toNat bt55019.1)) else (none)) else (none)))) else ((spec_reader_pick.f k x1000 x1001 16).bind fun bt55022 => (if bt55022.1 = 0 then ((spec_anyImage.f k x1000 bt55022.2).bind fun bt55024 => (some (x55011000, x55011001, x55011002, x55011003, bt55024.1, bt55024.2.1, bt55024.2.2.1, bt55024.2.2.2.1, bt55024.2.2.2.2))) else (some (x55011000, x55011001, x55011002, x55011003, x55015000, x55015001, x55015002, x55015003, bt55022.2))))
end
def spec_twoImages.f (k : Nat) (s0_0 : List Int) (s0_1 : Int) : Option (Int × Int × Int × List Int × Int × Int × Int × List Int × Int) := (spec_anyImage.f k s0_0 s0_1).bind fun bt55003 => ((spec_copyInts.f bt55003.2.2.2.1).bind fun t55011 => ((spec_reader_pick.f k s0_0 bt55003.2.2.2.2 6).bind fun bt55015 => (spec_twoImages.l0 k bt55015.1 s0_0 bt55015.2 bt55003.1 bt55003.2.1 bt55003.2.2.1 bt55003.2.2.2.1 bt55003.1 bt55003.2.1 bt55003.2.2.1 t55011)))
theorem spec_twoImages.mono_l : ∀ k, (∀ y0 y1 y2 y3 y4 y5 y6 y7 y8 y9 y10, LeO (spec_twoImages.l0 k y0 y1 y2 y3 y4 y5 y6 y7 y8 y9 y10) (spec_twoImages.l0 (k + 1) y0 y1 y2 y3 y4 y5 y6 y7 y8 y9 y10)) ∧ (∀ y0 y1 y2 y3 y4 y5 y6 y7 y8 y9 y10 y11, LeO (spec_twoImages.j1 k y0 y1 y2 y3 y4 y5 y6 y7 y8 y9 y10 y11) (spec_twoImages.j1 (k + 1) y0 y1 y2 y3 y4 y5 y6 y7 y8 y9 y10 y11))
  | 0 => ⟨fun _ _ _ _ _ _ _ _ _ _ _ r h => by simp [spec_twoImages.l0] at h, fun _ _ _ _ _ _ _ _ _ _ _ _ r h => by simp [spec_twoImages.j1] at h⟩
  | k + 1 => by
    obtain ⟨ih0, ih1⟩ := spec_twoImages.mono_l k
    refine ⟨?_, ?_⟩
    · intro y0 y1 y2 y3 y4 y5 y6 y7 y8 y9 y10
      unfold spec_twoImages.l0
      repeat' first
      | (with_reducible exact ih0 _ _ _ _ _ _ _ _ _ _ _)
      | (with_reducible exact ih1 _ _ _ _ _ _ _ _ _ _ _ _)
      | (with_reducible exact spec_anyImage.mono _ _ _)
      | (with_reducible exact spec_reader_pick.mono _ _ _ _)
      | (with_reducible exact LeO.refl _)
      | (with_reducible exact LeO.none _)
      | (with_reducible refine LeO.ite ?_ ?_)
      | (with_reducible refine LeO.bind ?_ (fun _ => ?_))
      | exact ih0 _ _ _ _ _ _ _ _ _ _ _
      | exact ih1 _ _ _ _ _ _ _ _ _ _ _ _
      | exact spec_anyImage.mono _ _ _
      | exact spec_reader_pick.mono _ _ _ _
      | exact LeO.none _
      | refine LeO.ite ?_ ?_
      | refine LeO.bind ?_ (fun _ => ?_)
    · intro y0 y1 y2 y3 y4 y5 y6 y7 y8 y9 y10 y11
      unfold spec_twoImages.j1
      repeat' first
      | (with_reducible exact ih0 _ _ _ _ _ _ _ _ _ _ _)
      | (with_reducible exact ih1 _ _ _ _ _ _ _ _ _ _ _ _)
      | (with_reducible exact spec_anyImage.mono _ _ _)
      | (with_reducible exact spec_reader_pick.mono _ _ _ _)
      | (with_reducible exact LeO.refl _)
      | (with_reducible exact LeO.none _)
      | (with_reducible refine LeO.ite ?_ ?_)
      | (with_reducible refine LeO.bind ?_ (fun _ => ?_))
      | exact ih0 _ _ _ _ _ _ _ _ _ _ _
      | exact ih1 _ _ _ _ _ _ _ _ _ _ _ _
      | exact spec_anyImage.mono _ _ _
      | exact spec_reader_pick.mono _ _ _ _
      | exact LeO.none _
      | refine LeO.ite ?_ ?_
      | refine LeO.bind ?_ (fun _ => ?_)
theorem spec_twoImages.mono : ∀ a0 a1 k, LeO (spec_twoImages.f k a0 a1) (spec_twoImages.f (k + 1) a0 a1) := by
  intro a0 a1 k
  obtain ⟨ih0, ih1⟩ := spec_twoImages.mono_l k
  unfold spec_twoImages.f
  repeat' first
      | (with_reducible exact ih0 _ _ _ _ _ _ _ _ _ _ _)
      | (with_reducible exact ih1 _ _ _ _ _ _ _ _ _ _ _ _)
      | (with_reducible exact spec_anyImage.mono _ _ _)
      | (with_reducible exact spec_reader_pick.mono _ _ _ _)
      | (with_reducible exact LeO.refl _)
      | (with_reducible exact LeO.none _)
      | (with_reducible refine LeO.ite ?_ ?_)
      | (with_reducible refine LeO.bind ?_ (fun _ => ?_))
      | exact ih0 _ _ _ _ _ _ _ _ _ _ _
      | exact ih1 _ _ _ _ _ _ _ _ _ _ _ _
      | exact spec_anyImage.mono _ _ _
      | exact spec_reader_pick.mono _ _ _ _
      | exact LeO.none _
      | refine LeO.ite ?_ ?_
      | refine LeO.bind ?_ (fun _ => ?_)
def spec_twoImages.T2 : Bool × List (List Nat × List Nat) := (true, [([], []), ([0], [0]), ([], []), ([2], [2]), ([], []), ([4], [4]), ([], []), ([6], [6]), ([7], [7]), ([1, 3, 5, 8], [1, 3, 5, 8]), ([], []), ([10, 9, 8, 0, 1, 2, 3, 4, 5, 6, 7, 8, 9, 10], [9, 10])])
def spec_twoImages.B2 : List Nat := [0, 1, 0, 4, 0, 16, 0, 64, 192, 511, 0, 2047]
theorem spec_twoImages.tab2 : rtab .any (opsOf Try.f54 2) = spec_twoImages.T2 := by kernel_rfl
theorem spec_twoImages.bits2 : waitsOk spec_twoImages.T2.2 spec_twoImages.B2 = true := by kernel_rfl
def spec_twoImages.T6 : Bool × List (List Nat × List Nat) := (true, [([], []), ([0], [0]), ([], []), ([], []), ([3], [3]), ([4], [4]), ([2, 5], [2, 5]), ([], []), ([7, 6], [7]), ([1, 6, 0, 1, 2, 3, 4, 5, 6, 7, 8], [1, 6]), ([9, 8, 8, 0, 1, 2, 3, 4, 5, 6, 7, 8], [8, 9])])
def spec_twoImages.B6 : List Nat := [0, 1, 0, 0, 8, 24, 60, 0, 252, 511, 1023]
theorem spec_twoImages.tab6 : rtab .any (opsOf Try.f54 6) = spec_twoImages.T6 := by kernel_rfl
theorem spec_twoImages.bits6 : waitsOk spec_twoImages.T6.2 spec_twoImages.B6 = true := by kernel_rfl
set_option maxHeartbeats 8000000 in
set_option maxRecDepth 100000 in
theorem spec_twoImages.calls (k : Nat) (g : Nat) (s0_0 : List Int) (s0_1 : Int) (r1 : Int) (r2 : Int) (r3 : Int) (r4 : List Int) (r5 : Int) (r6 : Int) (r7 : Int) (r8 : List Int) (r9 : Int) (w0 w : World) (hI : IsS100 w0 w g s0_0 s0_1) (hB : Below w0.heap.size w0 w) (h : spec_twoImages.f k s0_0 s0_1 = some (r1, r2, r3, r4, r5, r6, r7, r8, r9)) :
    Calls Try.prog 54 #[.pointer (some ⟨g, 0, none⟩)] w fun e w' => ∃ v3_ v7_ : Value, e = .returned (.tuple #[.agg #[.int .i64 r1, .int .i64 r2, .int .i64 r3, v3_], .agg #[.int .i64 r5, .int .i64 r6, .int .i64 r7, v7_]]) ∧ Kd.Q (Kd.int .i64) 3 w' w.heap.size (fun k_ => some k_ ≠ (v7_ : Value).ownBlock) v3_ r4 ∧ Kd.Q (Kd.int .i64) 3 w' w.heap.size (fun k_ => some k_ ≠ (v3_ : Value).ownBlock) v7_ r8 ∧ IsS100 w0 w' g s0_0 r9 ∧ Below w0.heap.size w0 w' ∧ KeepBut w w' g none := by
  have hu28 := Try.underlying28
  have HI0 := Aside0.mk hI
  have HK := Aside0.mk (KeepBut.refl w g none)
  have HL := Aside0.mk hB.size
  clear hI
  have HW0 := Aside0.mk hB.size
  have HB := Aside0.mk hB
  clear hB
  have H : ((spec_anyImage.f k s0_0 s0_1).bind fun bt55003 => ((spec_copyInts.f bt55003.2.2.2.1).bind fun t55011 => ((spec_reader_pick.f k s0_0 bt55003.2.2.2.2 6).bind fun bt55015 => (spec_twoImages.l0 k bt55015.1 s0_0 bt55015.2 bt55003.1 bt55003.2.1 bt55003.2.2.1 bt55003.2.2.2.1 bt55003.1 bt55003.2.1 bt55003.2.2.1 t55011)))) = some (r1, r2, r3, r4, r5, r6, r7, r8, r9) := h
  clear h
  replace H := Option.bind_eq_some_iff.mp H
  obtain ⟨⟨t55003, t55004, t55005, t55006, t55009⟩, A20, H⟩ := H
  replace H : ((spec_copyInts.f t55006).bind fun t55011 => ((spec_reader_pick.f k s0_0 t55009 6).bind fun bt55015 => (spec_twoImages.l0 k bt55015.1 s0_0 bt55015.2 t55003 t55004 t55005 t55006 t55003 t55004 t55005 t55011))) = some (r1, r2, r3, r4, r5, r6, r7, r8, r9) := H
  have A2 := Aside0.mk A20
  clear A20
  replace H := Option.bind_eq_some_iff.mp H
  obtain ⟨t55011, A30, H⟩ := H
  replace H : ((spec_reader_pick.f k s0_0 t55009 6).bind fun bt55015 => (spec_twoImages.l0 k bt55015.1 s0_0 bt55015.2 t55003 t55004 t55005 t55006 t55003 t55004 t55005 t55011)) = some (r1, r2, r3, r4, r5, r6, r7, r8, r9) := H
  have A3 := Aside0.mk A30
  clear A30
  replace H := Option.bind_eq_some_iff.mp H
  obtain ⟨⟨t55015, t55016⟩, A40, H⟩ := H
  replace H : (spec_twoImages.l0 k t55015 s0_0 t55016 t55003 t55004 t55005 t55006 t55003 t55004 t55005 t55011) = some (r1, r2, r3, r4, r5, r6, r7, r8, r9) := H
  have A4 := Aside0.mk A40
  clear A40
  have H' := Aside0.mk H
  clear H
  go_enter Try.func54, Try.ntmps54
  try go_wp2_with (first | ((with_reducible refine gate_dst (N := 2) rfl ?_); (try (refine gate_guard (by rfl) ?_; dsimp only)); refine box_event ?hg (N := 2) ?hd (cs := #[.int .i64 0, .int .i64 0, .int .i64 0, .slice none 0 0]) (t := 28) ?hr ?_; (case hd => rfl); (case hg => rfl); (case hr => first | (go_simp; done) | (go_simp; rfl)); intro gb55001 hg w5 hbox hb; have n0_ := Aside0.mk (IsS100.below (by repeat (first | (with_reducible first | exact HI0.out | apply IsS100.alloc | apply IsS100.drewN | apply IsS100.drew | apply IsS100.set_1) | exact HI0.out)) hb); have n1_ := Aside0.mk (KeepBut.trans (by repeat (first | (with_reducible first | exact HK.out | apply KeepBut.set_ | apply keep_drewN | apply keep_drew | apply keep_alloc) | exact HK.out)) (KeepBut.of_below hb g none) (.inl rfl)); have n2_ := Aside0.mk (below_step (by repeat (first | (with_reducible first | exact HB.out | apply below_alloc | apply pw_below_drewN | apply below_drew1 | refine below_set ?_ (IsS100.ge HI0.out)) | exact HB.out)) hb); have n3_ := Aside0.mk (hbox); have n4_ := Aside0.mk ((by rw [hg]; exact (keep_size (w := w) (g := g) (row := none) (by repeat (first | (with_reducible first | exact HK.out | apply KeepBut.set_ | apply keep_drewN | apply keep_drew | apply keep_alloc) | exact HK.out))) : w.heap.size ≤ gb55001)); have n5_ := Aside0.mk ((Nat.le_trans HW0.out (by rw [hg]; exact (keep_size (w := w) (g := g) (row := none) (by repeat (first | (with_reducible first | exact HK.out | apply KeepBut.set_ | apply keep_drewN | apply keep_drew | apply keep_alloc) | exact HK.out))) : w.heap.size ≤ gb55001) : w0.heap.size ≤ gb55001)); have n6_ := Aside0.mk ((by rw [hg]; exact Nat.ne_of_lt (IsS100.lt (show IsS100 w0 _ g s0_0 s0_1 from by repeat (first | (with_reducible first | exact HI0.out | apply IsS100.alloc | apply IsS100.drewN | apply IsS100.drew | apply IsS100.set_1) | exact HI0.out))) : g ≠ gb55001)); have n7_ := Aside0.mk ((by rw [hg]; exact Nat.ne_of_gt (IsS100.lt (show IsS100 w0 _ g s0_0 s0_1 from by repeat (first | (with_reducible first | exact HI0.out | apply IsS100.alloc | apply IsS100.drewN | apply IsS100.drew | apply IsS100.set_1) | exact HI0.out))) : gb55001 ≠ g)); clear HI0; clear HK; clear HB; have HI0 := n0_; have HK := n1_; have HB := n2_; have BK55001 := n3_; have GW55001 := n4_; have GE55001 := n5_; have NB0_55001 := n6_; have NB55001_0 := n7_; clear n0_ n1_ n2_ n3_ n4_ n5_ n6_ n7_; clear hb hbox hg) | ((with_reducible refine gate_dst (N := 3) rfl ?_); (try (refine gate_guard (by rfl) ?_; dsimp only)); refine box_event ?hg (N := 3) ?hd (cs := #[.int .i64 0, .int .i64 0, .int .i64 0, .slice none 0 0]) (t := 28) ?hr ?_; (case hd => rfl); (case hg => rfl); (case hr => first | (go_simp; done) | (go_simp; rfl)); intro gb55002 hg w6 hbox hb; have n0_ := Aside0.mk (IsS100.below (by repeat (first | (with_reducible first | exact HI0.out | apply IsS100.alloc | apply IsS100.drewN | apply IsS100.drew | apply IsS100.set_1 | refine IsS100.far ?_ NB0_55001.out _) | exact HI0.out)) hb); have n1_ := Aside0.mk (blk_below (g := gb55001) (o := .cells #[.int .i64 0, .int .i64 0, .int .i64 0, .slice none 0 0] 28 (0, 0)) (by (with_reducible repeat (first | refine blk_drewN ?_ _ | refine blk_drew ?_ | refine blk_alloc ?_ _)); exact BK55001.out) hb); have n2_ := Aside0.mk (KeepBut.trans (by repeat (first | (with_reducible first | exact HK.out | apply KeepBut.set_ | apply keep_drewN | apply keep_drew | apply keep_alloc | refine keep_far ?_ GW55001.out _) | exact HK.out)) (KeepBut.of_below hb g none) (.inl rfl)); have n3_ := Aside0.mk (below_step (by repeat (first | (with_reducible first | exact HB.out | apply below_alloc | apply pw_below_drewN | apply below_drew1 | refine below_set ?_ (IsS100.ge HI0.out) | refine below_set ?_ GE55001.out) | exact HB.out)) hb); have n4_ := Aside0.mk (hbox); have n5_ := Aside0.mk ((by rw [hg]; exact (keep_size (w := w) (g := g) (row := none) (by repeat (first | (with_reducible first | exact HK.out | apply KeepBut.set_ | apply keep_drewN | apply keep_drew | apply keep_alloc | refine keep_far ?_ GW55001.out _) | exact HK.out))) : w.heap.size ≤ gb55002)); have n6_ := Aside0.mk ((Nat.le_trans HW0.out (by rw [hg]; exact (keep_size (w := w) (g := g) (row := none) (by repeat (first | (with_reducible first | exact HK.out | apply KeepBut.set_ | apply keep_drewN | apply keep_drew | apply keep_alloc | refine keep_far ?_ GW55001.out _) | exact HK.out))) : w.heap.size ≤ gb55002) : w0.heap.size ≤ gb55002)); have n7_ := Aside0.mk ((by rw [hg]; exact Nat.ne_of_lt (blk_lt (g := gb55001) (o := .cells #[.int .i64 0, .int .i64 0, .int .i64 0, .slice none 0 0] 28 (0, 0)) (by (with_reducible repeat (first | refine blk_drewN ?_ _ | refine blk_drew ?_ | refine blk_alloc ?_ _)); exact BK55001.out)) : gb55001 ≠ gb55002)); have n8_ := Aside0.mk ((by rw [hg]; exact Nat.ne_of_gt (blk_lt (g := gb55001) (o := .cells #[.int .i64 0, .int .i64 0, .int .i64 0, .slice none 0 0] 28 (0, 0)) (by (with_reducible repeat (first | refine blk_drewN ?_ _ | refine blk_drew ?_ | refine blk_alloc ?_ _)); exact BK55001.out)) : gb55002 ≠ gb55001)); have n9_ := Aside0.mk ((by rw [hg]; exact Nat.ne_of_lt (IsS100.lt (show IsS100 w0 _ g s0_0 s0_1 from by repeat (first | (with_reducible first | exact HI0.out | apply IsS100.alloc | apply IsS100.drewN | apply IsS100.drew | apply IsS100.set_1 | refine IsS100.far ?_ NB0_55001.out _) | exact HI0.out))) : g ≠ gb55002)); have n10_ := Aside0.mk ((by rw [hg]; exact Nat.ne_of_gt (IsS100.lt (show IsS100 w0 _ g s0_0 s0_1 from by repeat (first | (with_reducible first | exact HI0.out | apply IsS100.alloc | apply IsS100.drewN | apply IsS100.drew | apply IsS100.set_1 | refine IsS100.far ?_ NB0_55001.out _) | exact HI0.out))) : gb55002 ≠ g)); clear HI0; clear BK55001; clear HK; clear HB; have HI0 := n0_; have BK55001 := n1_; have HK := n2_; have HB := n3_; have BK55002 := n4_; have GW55002 := n5_; have GE55002 := n6_; have NB55001_55002 := n7_; have NB55002_55001 := n8_; have NB0_55002 := n9_; have NB55002_0 := n10_; clear n0_ n1_ n2_ n3_ n4_ n5_ n6_ n7_ n8_ n9_ n10_; clear hb hbox hg) | ((with_reducible refine gate_callee (f := 72) rfl ?_); refine goesL_ (some 8) rfl rfl Try.func72 (by kernel_rfl) rfl #[.pointer (some ⟨g, 0, none⟩)] rfl (by (try simp only [List.map_toArray, List.map_cons, List.map_nil]); first | done | rfl | (simp only [List.length_drop, List.length_take]; rfl)) ?_; (with_reducible refine (spec_anyImage.calls k g s0_0 s0_1 t55003 t55004 t55005 t55006 t55009 w0 _ ?side1 ?side2 A2.out).mono ?_); (case side1 => repeat (first | (with_reducible first | exact HI0.out | apply IsS100.alloc | apply IsS100.drewN | apply IsS100.drew | apply IsS100.set_1 | refine IsS100.far ?_ NB0_55001.out _ | refine IsS100.far ?_ NB0_55002.out _) | exact HI0.out)); (case side2 => repeat (first | (with_reducible first | exact HB.out | apply below_alloc | apply pw_below_drewN | apply below_drew1 | refine below_set ?_ (IsS100.ge HI0.out) | refine below_set ?_ GE55001.out | refine below_set ?_ GE55002.out) | exact HB.out)); rintro e w7 ⟨v55007, rfl, ho0, hi, hb, hk⟩; refine ⟨_, rfl, ?_⟩; have n0_ := Aside0.mk (KeepBut.blk hk (g' := gb55001) (o := .cells #[.int .i64 0, .int .i64 0, .int .i64 0, .slice none 0 0] 28 (0, 0)) (by (with_reducible repeat (first | refine blk_drewN ?_ _ | refine blk_drew ?_ | refine blk_alloc ?_ _)); exact BK55001.out) NB55001_0.out (by simp)); have n1_ := Aside0.mk (KeepBut.blk hk (g' := gb55002) (o := .cells #[.int .i64 0, .int .i64 0, .int .i64 0, .slice none 0 0] 28 (0, 0)) (by (with_reducible repeat (first | refine blk_drewN ?_ _ | refine blk_drew ?_ | refine blk_alloc ?_ _)); exact BK55002.out) NB55002_0.out (by simp)); have n2_ := Aside0.mk (Kd.Q_lower ho0 (keep_size (w := w) (g := g) (row := none) (by repeat (first | (with_reducible first | exact HK.out | apply KeepBut.set_ | apply keep_drewN | apply keep_drew | apply keep_alloc | refine keep_far ?_ GW55001.out _ | refine keep_far ?_ GW55002.out _) | exact HK.out)))); have n3_ := Aside0.mk (KeepBut.trans (by repeat (first | (with_reducible first | exact HK.out | apply KeepBut.set_ | apply keep_drewN | apply keep_drew | apply keep_alloc | refine keep_far ?_ GW55001.out _ | refine keep_far ?_ GW55002.out _) | exact HK.out)) hk (.inl rfl)); have n4_ := Aside0.mk (hb); have n5_ := Aside0.mk (hi); clear BK55001; clear BK55002; clear HK; clear HB; clear HI0; have BK55001 := n0_; have BK55002 := n1_; have HO55008 := n2_; have HK := n3_; have HB := n4_; have HI0 := n5_; clear n0_ n1_ n2_ n3_ n4_ n5_; (try clear hb); (try clear hb2); (try clear hk); (try clear hi); (try clear ho0)) | ((with_reducible refine gate_dst (N := 4) rfl ?_); (try (refine gate_guard (by rfl) ?_; dsimp only)); refine box_event ?hg (N := 4) ?hd (cs := #[.int .i64 0, .int .i64 0, .int .i64 0, .slice none 0 0]) (t := 28) ?hr ?_; (case hd => rfl); (case hg => rfl); (case hr => first | (go_simp; done) | (go_simp; rfl)); intro gb55010 hg w8 hbox hb; have n0_ := Aside0.mk (Kd.Q_below (by (with_reducible repeat (first | apply Kd.Q_alloc | apply Kd.Q_drewN | apply Kd.Q_drew)); exact HO55008.out) hb); have n1_ := Aside0.mk (IsS100.below (by repeat (first | (with_reducible first | exact HI0.out | apply IsS100.alloc | apply IsS100.drewN | apply IsS100.drew | apply IsS100.set_1 | refine IsS100.far ?_ NB0_55001.out _ | refine IsS100.far ?_ NB0_55002.out _) | exact HI0.out)) hb); have n2_ := Aside0.mk (blk_below (g := gb55001) (o := .cells #[.int .i64 0, .int .i64 0, .int .i64 0, .slice none 0 0] 28 (0, 0)) (by (with_reducible repeat (first | refine blk_drewN ?_ _ | refine blk_drew ?_ | refine blk_alloc ?_ _)); exact BK55001.out) hb); have n3_ := Aside0.mk (blk_below (g := gb55002) (o := .cells #[.int .i64 0, .int .i64 0, .int .i64 0, .slice none 0 0] 28 (0, 0)) (by (with_reducible repeat (first | refine blk_drewN ?_ _ | refine blk_drew ?_ | refine blk_alloc ?_ _)); exact BK55002.out) hb); have n4_ := Aside0.mk (KeepBut.trans (by repeat (first | (with_reducible first | exact HK.out | apply KeepBut.set_ | apply keep_drewN | apply keep_drew | apply keep_alloc | refine keep_far ?_ GW55001.out _ | refine keep_far ?_ GW55002.out _) | exact HK.out)) (KeepBut.of_below hb g none) (.inl rfl)); have n5_ := Aside0.mk (below_step (by repeat (first | (with_reducible first | exact HB.out | apply below_alloc | apply pw_below_drewN | apply below_drew1 | refine below_set ?_ (IsS100.ge HI0.out) | refine below_set ?_ GE55001.out | refine below_set ?_ GE55002.out) | exact HB.out)) hb); have n6_ := Aside0.mk (hbox); have n7_ := Aside0.mk ((by rw [hg]; exact (keep_size (w := w) (g := g) (row := none) (by repeat (first | (with_reducible first | exact HK.out | apply KeepBut.set_ | apply keep_drewN | apply keep_drew | apply keep_alloc | refine keep_far ?_ GW55001.out _ | refine keep_far ?_ GW55002.out _) | exact HK.out))) : w.heap.size ≤ gb55010)); have n8_ := Aside0.mk ((Nat.le_trans HW0.out (by rw [hg]; exact (keep_size (w := w) (g := g) (row := none) (by repeat (first | (with_reducible first | exact HK.out | apply KeepBut.set_ | apply keep_drewN | apply keep_drew | apply keep_alloc | refine keep_far ?_ GW55001.out _ | refine keep_far ?_ GW55002.out _) | exact HK.out))) : w.heap.size ≤ gb55010) : w0.heap.size ≤ gb55010)); have n9_ := Aside0.mk ((by rw [hg]; exact Nat.ne_of_lt (blk_lt (g := gb55001) (o := .cells #[.int .i64 0, .int .i64 0, .int .i64 0, .slice none 0 0] 28 (0, 0)) (by (with_reducible repeat (first | refine blk_drewN ?_ _ | refine blk_drew ?_ | refine blk_alloc ?_ _)); exact BK55001.out)) : gb55001 ≠ gb55010)); have n10_ := Aside0.mk ((by rw [hg]; exact Nat.ne_of_gt (blk_lt (g := gb55001) (o := .cells #[.int .i64 0, .int .i64 0, .int .i64 0, .slice none 0 0] 28 (0, 0)) (by (with_reducible repeat (first | refine blk_drewN ?_ _ | refine blk_drew ?_ | refine blk_alloc ?_ _)); exact BK55001.out)) : gb55010 ≠ gb55001)); have n11_ := Aside0.mk ((by rw [hg]; exact Nat.ne_of_lt (blk_lt (g := gb55002) (o := .cells #[.int .i64 0, .int .i64 0, .int .i64 0, .slice none 0 0] 28 (0, 0)) (by (with_reducible repeat (first | refine blk_drewN ?_ _ | refine blk_drew ?_ | refine blk_alloc ?_ _)); exact BK55002.out)) : gb55002 ≠ gb55010)); have n12_ := Aside0.mk ((by rw [hg]; exact Nat.ne_of_gt (blk_lt (g := gb55002) (o := .cells #[.int .i64 0, .int .i64 0, .int .i64 0, .slice none 0 0] 28 (0, 0)) (by (with_reducible repeat (first | refine blk_drewN ?_ _ | refine blk_drew ?_ | refine blk_alloc ?_ _)); exact BK55002.out)) : gb55010 ≠ gb55002)); have n13_ := Aside0.mk ((by rw [hg]; exact Nat.ne_of_lt (IsS100.lt (show IsS100 w0 _ g s0_0 t55009 from by repeat (first | (with_reducible first | exact HI0.out | apply IsS100.alloc | apply IsS100.drewN | apply IsS100.drew | apply IsS100.set_1 | refine IsS100.far ?_ NB0_55001.out _ | refine IsS100.far ?_ NB0_55002.out _) | exact HI0.out))) : g ≠ gb55010)); have n14_ := Aside0.mk ((by rw [hg]; exact Nat.ne_of_gt (IsS100.lt (show IsS100 w0 _ g s0_0 t55009 from by repeat (first | (with_reducible first | exact HI0.out | apply IsS100.alloc | apply IsS100.drewN | apply IsS100.drew | apply IsS100.set_1 | refine IsS100.far ?_ NB0_55001.out _ | refine IsS100.far ?_ NB0_55002.out _) | exact HI0.out))) : gb55010 ≠ g)); clear HO55008; clear HI0; clear BK55001; clear BK55002; clear HK; clear HB; have HO55008 := n0_; have HI0 := n1_; have BK55001 := n2_; have BK55002 := n3_; have HK := n4_; have HB := n5_; have BK55010 := n6_; have GW55010 := n7_; have GE55010 := n8_; have NB55001_55010 := n9_; have NB55010_55001 := n10_; have NB55002_55010 := n11_; have NB55010_55002 := n12_; have NB0_55010 := n13_; have NB55010_0 := n14_; clear n0_ n1_ n2_ n3_ n4_ n5_ n6_ n7_ n8_ n9_ n10_ n11_ n12_ n13_ n14_; clear hb hbox hg; have hnb9 := NB55010_55001.out; have hnc9 := NB55001_55010.out; have hnb10 := NB55010_55002.out; have hnc10 := NB55002_55010.out; have hnb11 := NB55010_0.out; have hnc11 := NB0_55010.out; have hcz12_0 : w8.cell? ⟨gb55010, 0, none⟩ = some (.int .i64 0) := (blk_cell BK55010.out 0).trans rfl; have hcz12_1 : w8.cell? ⟨gb55010, 1, none⟩ = some (.int .i64 0) := (blk_cell BK55010.out 1).trans rfl; have hcz12_2 : w8.cell? ⟨gb55010, 2, none⟩ = some (.int .i64 0) := (blk_cell BK55010.out 2).trans rfl; have hcz12_3 : w8.cell? ⟨gb55010, 3, none⟩ = some (.slice none 0 0) := (blk_cell BK55010.out 3).trans rfl; have hfz12_0 := blk_frozen BK55010.out 0; have hfz12_1 := blk_frozen BK55010.out 1; have hfz12_2 := blk_frozen BK55010.out 2; have hfz12_3 := blk_frozen BK55010.out 3; obtain ⟨Ao13, co13, eo13, _⟩ := Kd.Q_slice HO55008.out; subst eo13))
  have n0_ : Aside0 (Kd.Q (Kd.int .i64) 3 ((((w8.setCell ⟨gb55010, 0, none⟩ (.int .i64 t55003)).setCell ⟨gb55010, 1, none⟩ (.int .i64 t55004)).setCell ⟨gb55010, 2, none⟩ (.int .i64 t55005)).setCell ⟨gb55010, 3, none⟩ (.slice Ao13 t55006.length co13)) w.heap.size (fun _ => True) (.slice Ao13 t55006.length co13) t55006) := ⟨by (with_reducible repeat (first | apply Kd.Q_alloc | apply Kd.Q_drewN | apply Kd.Q_drew)); exact Kd.Q_mono (Kd.Q_far (p := ⟨gb55010, 3, none⟩) (Kd.Q_far (p := ⟨gb55010, 2, none⟩) (Kd.Q_far (p := ⟨gb55010, 1, none⟩) (Kd.Q_far (p := ⟨gb55010, 0, none⟩) (Kd.Q_types HO55008.out BK55010.out (by decide)) (fun _ hk => hk.2) (.int .i64 t55003)) (fun _ hk => hk.2) (.int .i64 t55004)) (fun _ hk => hk.2) (.int .i64 t55005)) (fun _ hk => hk.2) (.slice Ao13 t55006.length co13)) (fun _ hk => trivial)⟩
  have n1_ : Aside0 (((((w8.setCell ⟨gb55010, 0, none⟩ (.int .i64 t55003)).setCell ⟨gb55010, 1, none⟩ (.int .i64 t55004)).setCell ⟨gb55010, 2, none⟩ (.int .i64 t55005)).setCell ⟨gb55010, 3, none⟩ (.slice Ao13 t55006.length co13)).heap[gb55001]? = some (.cells #[.int .i64 0, .int .i64 0, .int .i64 0, .slice none 0 0] 28 (0, 0))) := ⟨by (with_reducible repeat (first | refine blk_drewN ?_ _ | refine blk_drew ?_ | refine blk_alloc ?_ _)); refine blk_far ?_ NB55001_55010.out _; (with_reducible repeat (first | refine blk_drewN ?_ _ | refine blk_drew ?_ | refine blk_alloc ?_ _)); refine blk_far ?_ NB55001_55010.out _; (with_reducible repeat (first | refine blk_drewN ?_ _ | refine blk_drew ?_ | refine blk_alloc ?_ _)); refine blk_far ?_ NB55001_55010.out _; (with_reducible repeat (first | refine blk_drewN ?_ _ | refine blk_drew ?_ | refine blk_alloc ?_ _)); refine blk_far ?_ NB55001_55010.out _; (with_reducible repeat (first | refine blk_drewN ?_ _ | refine blk_drew ?_ | refine blk_alloc ?_ _)); exact BK55001.out⟩
  have n2_ : Aside0 (((((w8.setCell ⟨gb55010, 0, none⟩ (.int .i64 t55003)).setCell ⟨gb55010, 1, none⟩ (.int .i64 t55004)).setCell ⟨gb55010, 2, none⟩ (.int .i64 t55005)).setCell ⟨gb55010, 3, none⟩ (.slice Ao13 t55006.length co13)).heap[gb55002]? = some (.cells #[.int .i64 0, .int .i64 0, .int .i64 0, .slice none 0 0] 28 (0, 0))) := ⟨by (with_reducible repeat (first | refine blk_drewN ?_ _ | refine blk_drew ?_ | refine blk_alloc ?_ _)); refine blk_far ?_ NB55002_55010.out _; (with_reducible repeat (first | refine blk_drewN ?_ _ | refine blk_drew ?_ | refine blk_alloc ?_ _)); refine blk_far ?_ NB55002_55010.out _; (with_reducible repeat (first | refine blk_drewN ?_ _ | refine blk_drew ?_ | refine blk_alloc ?_ _)); refine blk_far ?_ NB55002_55010.out _; (with_reducible repeat (first | refine blk_drewN ?_ _ | refine blk_drew ?_ | refine blk_alloc ?_ _)); refine blk_far ?_ NB55002_55010.out _; (with_reducible repeat (first | refine blk_drewN ?_ _ | refine blk_drew ?_ | refine blk_alloc ?_ _)); exact BK55002.out⟩
  have n3_ : Aside0 (((((w8.setCell ⟨gb55010, 0, none⟩ (.int .i64 t55003)).setCell ⟨gb55010, 1, none⟩ (.int .i64 t55004)).setCell ⟨gb55010, 2, none⟩ (.int .i64 t55005)).setCell ⟨gb55010, 3, none⟩ (.slice Ao13 t55006.length co13)).heap[gb55010]? = some (.cells #[.int .i64 t55003, .int .i64 t55004, .int .i64 t55005, .slice Ao13 t55006.length co13] 28 (0, 0))) := ⟨by (with_reducible repeat (first | refine blk_drewN ?_ _ | refine blk_drew ?_ | refine blk_alloc ?_ _)); refine blk_put (cs := #[.int .i64 t55003, .int .i64 t55004, .int .i64 t55005, .slice none 0 0]) ?_ 3 _ rfl; (with_reducible repeat (first | refine blk_drewN ?_ _ | refine blk_drew ?_ | refine blk_alloc ?_ _)); refine blk_put (cs := #[.int .i64 t55003, .int .i64 t55004, .int .i64 0, .slice none 0 0]) ?_ 2 _ rfl; (with_reducible repeat (first | refine blk_drewN ?_ _ | refine blk_drew ?_ | refine blk_alloc ?_ _)); refine blk_put (cs := #[.int .i64 t55003, .int .i64 0, .int .i64 0, .slice none 0 0]) ?_ 1 _ rfl; (with_reducible repeat (first | refine blk_drewN ?_ _ | refine blk_drew ?_ | refine blk_alloc ?_ _)); refine blk_put (cs := #[.int .i64 0, .int .i64 0, .int .i64 0, .slice none 0 0]) ?_ 0 _ rfl; (with_reducible repeat (first | refine blk_drewN ?_ _ | refine blk_drew ?_ | refine blk_alloc ?_ _)); exact BK55010.out⟩
  have n4_ : Aside0 (IsS100 w0 ((((w8.setCell ⟨gb55010, 0, none⟩ (.int .i64 t55003)).setCell ⟨gb55010, 1, none⟩ (.int .i64 t55004)).setCell ⟨gb55010, 2, none⟩ (.int .i64 t55005)).setCell ⟨gb55010, 3, none⟩ (.slice Ao13 t55006.length co13)) g s0_0 t55009) := ⟨by repeat (first | (with_reducible first | exact HI0.out | apply IsS100.alloc | apply IsS100.drewN | apply IsS100.drew | apply IsS100.set_1 | refine IsS100.far ?_ NB0_55001.out _ | refine IsS100.far ?_ NB0_55002.out _ | refine IsS100.far ?_ NB0_55010.out _) | exact HI0.out)⟩
  have n5_ : Aside0 (KeepBut w ((((w8.setCell ⟨gb55010, 0, none⟩ (.int .i64 t55003)).setCell ⟨gb55010, 1, none⟩ (.int .i64 t55004)).setCell ⟨gb55010, 2, none⟩ (.int .i64 t55005)).setCell ⟨gb55010, 3, none⟩ (.slice Ao13 t55006.length co13)) g none) := ⟨by repeat (first | (with_reducible first | exact HK.out | apply KeepBut.set_ | apply keep_drewN | apply keep_drew | apply keep_alloc | refine keep_far ?_ GW55001.out _ | refine keep_far ?_ GW55002.out _ | refine keep_far ?_ GW55010.out _) | exact HK.out)⟩
  have n6_ : Aside0 (Below w0.heap.size w0 ((((w8.setCell ⟨gb55010, 0, none⟩ (.int .i64 t55003)).setCell ⟨gb55010, 1, none⟩ (.int .i64 t55004)).setCell ⟨gb55010, 2, none⟩ (.int .i64 t55005)).setCell ⟨gb55010, 3, none⟩ (.slice Ao13 t55006.length co13))) := ⟨by repeat (first | (with_reducible first | exact HB.out | apply below_alloc | apply pw_below_drewN | apply below_drew1 | refine below_set ?_ (IsS100.ge HI0.out) | refine below_set ?_ GE55001.out | refine below_set ?_ GE55002.out | refine below_set ?_ GE55010.out) | exact HB.out)⟩
  (try clear HO55008)
  (try clear BK55001)
  (try clear BK55002)
  (try clear BK55010)
  (try clear HI0)
  (try clear HK)
  (try clear HB)
  generalize ((((w8.setCell ⟨gb55010, 0, none⟩ (.int .i64 t55003)).setCell ⟨gb55010, 1, none⟩ (.int .i64 t55004)).setCell ⟨gb55010, 2, none⟩ (.int .i64 t55005)).setCell ⟨gb55010, 3, none⟩ (.slice Ao13 t55006.length co13)) = w14 at n0_ n1_ n2_ n3_ n4_ n5_ n6_ ⊢
  have HO55008 := n0_
  have BK55001 := n1_
  have BK55002 := n2_
  have BK55010 := n3_
  have HI0 := n4_
  have HK := n5_
  have HB := n6_
  clear n0_ n1_ n2_ n3_ n4_ n5_ n6_
  have n0_ := Aside0.mk (Kd.Q_drew HO55008.out)
  have n1_ := Aside0.mk (blk_drew BK55001.out)
  have n2_ := Aside0.mk (blk_drew BK55002.out)
  have n3_ := Aside0.mk (blk_drew BK55010.out)
  have n4_ := Aside0.mk (IsS100.drew HI0.out)
  have n5_ := Aside0.mk (keep_drew HK.out)
  have n6_ := Aside0.mk (below_drew1 HB.out)
  clear HO55008
  clear BK55001
  clear BK55002
  clear BK55010
  clear HI0
  clear HK
  clear HB
  have HO55008 := n0_
  have BK55001 := n1_
  have BK55002 := n2_
  have BK55010 := n3_
  have HI0 := n4_
  have HK := n5_
  have HB := n6_
  clear n0_ n1_ n2_ n3_ n4_ n5_ n6_
  refine start_ (n := 12) (S := fun w' => w'.cell? ⟨gb55010, 0, none⟩ = some (.int .i64 t55003) ∧ w'.cell? ⟨gb55010, 1, none⟩ = some (.int .i64 t55004) ∧ w'.cell? ⟨gb55010, 2, none⟩ = some (.int .i64 t55005) ∧ w'.cell? ⟨gb55010, 3, none⟩ = some (.slice Ao13 t55006.length co13)) (ds := []) #[false, false, false, false, false, false, false, false, false, false, false, false] (by kernel_rfl) rfl rfl ⟨(blk_cell BK55010.out 0).trans rfl, (blk_cell BK55010.out 1).trans rfl, (blk_cell BK55010.out 2).trans rfl, (blk_cell BK55010.out 3).trans rfl⟩ (fun hHeld => ?_); refine with_tabW spec_twoImages.tab2 spec_twoImages.bits2 (fun HT_ HW_ => ?_)
  generalize w14.drew = w15 at HO55008 BK55001 BK55002 BK55010 HI0 HK HB hHeld ⊢
  refine pure_ (i := 0) (N := some 9) (v := ?_) (a' := ?_) #[true, false, false, false, false, false, false, false, false, false, false, false] rfl rfl (any_of HT_.out (by kernel_rfl)) (fun _ _ _ h => h) (Or.inl ⟨by rfl, ?_⟩) ?_ ?_
  rotate_left
  · intro w'
    go_simp
    with_reducible rfl
  rotate_left
  · simp only [Act.put, List.setIfInBounds_toArray, List.set_cons_zero, List.set_cons_succ, i64_w, i32_w]
    rfl
  refine pure_ (i := 2) (N := some 11) (v := ?_) (a' := ?_) #[true, false, true, false, false, false, false, false, false, false, false, false] rfl rfl (any_of HT_.out (by kernel_rfl)) (fun _ _ _ h => h) (Or.inl ⟨by rfl, ?_⟩) ?_ ?_
  rotate_left
  · intro w'
    go_simp
    with_reducible rfl
  rotate_left
  · simp only [Act.put, List.setIfInBounds_toArray, List.set_cons_zero, List.set_cons_succ, i64_w, i32_w]
    rfl
  refine pure_ (i := 4) (N := some 13) (v := ?_) (a' := ?_) #[true, false, true, false, true, false, false, false, false, false, false, false] rfl rfl (any_of HT_.out (by kernel_rfl)) (fun _ _ _ h => h) (Or.inl ⟨by rfl, ?_⟩) ?_ ?_
  rotate_left
  · intro w'
    go_simp
    with_reducible rfl
  rotate_left
  · simp only [Act.put, List.setIfInBounds_toArray, List.set_cons_zero, List.set_cons_succ, i64_w, i32_w]
    rfl
  refine pure_ (i := 6) (N := some 15) (v := ?_) (a' := ?_) #[true, false, true, false, true, false, true, false, false, false, false, false] rfl rfl (any_of HT_.out (by kernel_rfl)) (fun _ _ _ h => h) (Or.inl ⟨by rfl, ?_⟩) ?_ ?_
  rotate_left
  · intro w'
    go_simp
    with_reducible rfl
  rotate_left
  · simp only [Act.put, List.setIfInBounds_toArray, List.set_cons_zero, List.set_cons_succ, i64_w, i32_w]
    rfl
  refine take_ (i := 1) (N := some 10) (v := ?_) (a' := ?_) #[true, true, true, false, true, false, true, false, false, false, false, false] rfl rfl (take_ofW HT_.out HW_.out (by kernel_rfl)) (fun _ _ _ h => h) (Or.inl ⟨by rfl, ?_⟩) hHeld ?_ ?_
  rotate_left
  · rintro w' ⟨s0, s1, s2, s3⟩
    go_simp
    with_reducible rfl
  rotate_left
  · simp only [Act.put, List.setIfInBounds_toArray, List.set_cons_zero, List.set_cons_succ, i64_w, i32_w]
    rfl
  refine take_ (i := 3) (N := some 12) (v := ?_) (a' := ?_) #[true, true, true, true, true, false, true, false, false, false, false, false] rfl rfl (take_ofW HT_.out HW_.out (by kernel_rfl)) (fun _ _ _ h => h) (Or.inl ⟨by rfl, ?_⟩) hHeld ?_ ?_
  rotate_left
  · rintro w' ⟨s0, s1, s2, s3⟩
    go_simp
    with_reducible rfl
  rotate_left
  · simp only [Act.put, List.setIfInBounds_toArray, List.set_cons_zero, List.set_cons_succ, i64_w, i32_w]
    rfl
  refine take_ (i := 5) (N := some 14) (v := ?_) (a' := ?_) #[true, true, true, true, true, true, true, false, false, false, false, false] rfl rfl (take_ofW HT_.out HW_.out (by kernel_rfl)) (fun _ _ _ h => h) (Or.inl ⟨by rfl, ?_⟩) hHeld ?_ ?_
  rotate_left
  · rintro w' ⟨s0, s1, s2, s3⟩
    go_simp
    with_reducible rfl
  rotate_left
  · simp only [Act.put, List.setIfInBounds_toArray, List.set_cons_zero, List.set_cons_succ, i64_w, i32_w]
    rfl
  refine take_ (i := 7) (N := some 16) (v := ?_) (a' := ?_) #[true, true, true, true, true, true, true, true, false, false, false, false] rfl rfl (take_ofW HT_.out HW_.out (by kernel_rfl)) (fun _ _ _ h => h) (Or.inl ⟨by rfl, ?_⟩) hHeld ?_ ?_
  rotate_left
  · rintro w' ⟨s0, s1, s2, s3⟩
    go_simp
    with_reducible rfl
  rotate_left
  · simp only [Act.put, List.setIfInBounds_toArray, List.set_cons_zero, List.set_cons_succ, i64_w, i32_w]
    rfl
  refine join_ (σ := Value × Nat) 1 #[true, true, true, true, true, true, true, true, true, true, true, false] (fun s_ => [(17, s_.1), (5, .pointer (some ⟨s_.2, 0, none⟩)), (18, .agg #[.int .i64 t55003, .int .i64 t55004, .int .i64 t55005, s_.1])]) (fun s_ w' => (w'.cell? ⟨gb55010, 0, none⟩ = some (.int .i64 t55003) ∧ w'.cell? ⟨gb55010, 1, none⟩ = some (.int .i64 t55004) ∧ w'.cell? ⟨gb55010, 2, none⟩ = some (.int .i64 t55005) ∧ w'.cell? ⟨gb55010, 3, none⟩ = some (.slice Ao13 t55006.length co13)) ∧ (Kd.Q (Kd.int .i64) 3 w' w.heap.size (fun k_ => some k_ ≠ (s_.1 : Value).ownBlock) (.slice Ao13 t55006.length co13) t55006) ∧ (Kd.R (Kd.int .i64) 3 w' w.heap.size (fun k_ => some k_ ≠ (.slice Ao13 t55006.length co13 : Value).ownBlock) s_.1 t55011) ∧ (w'.heap[gb55001]? = some (.cells #[.int .i64 0, .int .i64 0, .int .i64 0, .slice none 0 0] 28 (0, 0))) ∧ (w'.heap[gb55002]? = some (.cells #[.int .i64 0, .int .i64 0, .int .i64 0, .slice none 0 0] 28 (0, 0))) ∧ (w'.heap[gb55010]? = some (.cells #[.int .i64 t55003, .int .i64 t55004, .int .i64 t55005, .slice Ao13 t55006.length co13] 28 (0, 0))) ∧ (w'.heap[s_.2]? = some (.cells #[.int .i64 0, .int .i64 0, .int .i64 0, .slice none 0 0] 28 (0, 0))) ∧ (w.heap.size ≤ s_.2) ∧ (w0.heap.size ≤ s_.2) ∧ (g ≠ s_.2) ∧ (s_.2 ≠ g) ∧ (gb55001 ≠ s_.2) ∧ (s_.2 ≠ gb55001) ∧ (gb55002 ≠ s_.2) ∧ (s_.2 ≠ gb55002) ∧ (gb55010 ≠ s_.2) ∧ (s_.2 ≠ gb55010) ∧ (IsS100 w0 w' g s0_0 t55009) ∧ (KeepBut w w' g none) ∧ (Below w0.heap.size w0 w')) ?_ ?_
  rotate_left
  · intro hCont
    refine two_ (i := 8) (j := 10) (Ni := some 17) (Nj := some 5) #[true, true, true, true, true, true, true, true, true, false, false, false] #[true, true, true, true, true, true, true, true, false, false, true, false] rfl rfl rfl rfl (two_of HT_.out (by kernel_rfl)) (by decide) (by decide) (fun K hK => ?_) (fun K hK => ?_)
    · skip
      refine goes_ Try.func95 (by kernel_rfl) rfl #[.slice Ao13 t55006.length co13] (by rfl) rfl rfl (by (try simp only [List.map_toArray, List.map_cons, List.map_nil]); first | done | rfl | (simp only [List.length_drop, List.length_take]; rfl)) ?_
      with_reducible refine (spec_copyInts.calls _ _ t55006 t55011 _ ?side1 ?side2 A3.out).mono ?_
      (case side1 => repeat (first | exact (Kd.Q_reads' HO55008.out).2.2 | (with_reducible refine Kd.C_alloc ?_ _) | (with_reducible refine Kd.C_drewN ?_ _) | (with_reducible refine Kd.C_drew ?_)))
      (case side2 => exact (Kd.Q_reads' HO55008.out).2.1)
      rintro e w16 ⟨v55012, rfl, ho0, hb⟩
      refine ⟨_, rfl, ?_⟩
      have n0_ := Aside0.mk (Kd.Q_elder' (by (with_reducible repeat (first | apply Kd.Q_alloc | apply Kd.Q_drewN | apply Kd.Q_drew)); exact HO55008.out) (Kd.R_base ho0) hb)
      have n1_ := Aside0.mk (Kd.R_lower (Kd.R_new' ho0 (Kd.Q_lt (by (with_reducible repeat (first | apply Kd.Q_alloc | apply Kd.Q_drewN | apply Kd.Q_drew)); exact HO55008.out))) (keep_size (w := w) (g := g) (row := none) (by repeat (first | (with_reducible first | exact HK.out | apply KeepBut.set_ | apply keep_drewN | apply keep_drew | apply keep_alloc | refine keep_far ?_ GW55001.out _ | refine keep_far ?_ GW55002.out _ | refine keep_far ?_ GW55010.out _) | exact HK.out))))
      have n2_ := Aside0.mk (IsS100.below (by repeat (first | (with_reducible first | exact HI0.out | apply IsS100.alloc | apply IsS100.drewN | apply IsS100.drew | apply IsS100.set_1 | refine IsS100.far ?_ NB0_55001.out _ | refine IsS100.far ?_ NB0_55002.out _ | refine IsS100.far ?_ NB0_55010.out _) | exact HI0.out)) hb)
      have n3_ := Aside0.mk (blk_below (g := gb55001) (o := .cells #[.int .i64 0, .int .i64 0, .int .i64 0, .slice none 0 0] 28 (0, 0)) (by (with_reducible repeat (first | refine blk_drewN ?_ _ | refine blk_drew ?_ | refine blk_alloc ?_ _)); exact BK55001.out) hb)
      have n4_ := Aside0.mk (blk_below (g := gb55002) (o := .cells #[.int .i64 0, .int .i64 0, .int .i64 0, .slice none 0 0] 28 (0, 0)) (by (with_reducible repeat (first | refine blk_drewN ?_ _ | refine blk_drew ?_ | refine blk_alloc ?_ _)); exact BK55002.out) hb)
      have n5_ := Aside0.mk (blk_below (g := gb55010) (o := .cells #[.int .i64 t55003, .int .i64 t55004, .int .i64 t55005, .slice Ao13 t55006.length co13] 28 (0, 0)) (by (with_reducible repeat (first | refine blk_drewN ?_ _ | refine blk_drew ?_ | refine blk_alloc ?_ _)); exact BK55010.out) hb)
      have n6_ := Aside0.mk (KeepBut.trans (by repeat (first | (with_reducible first | exact HK.out | apply KeepBut.set_ | apply keep_drewN | apply keep_drew | apply keep_alloc | refine keep_far ?_ GW55001.out _ | refine keep_far ?_ GW55002.out _ | refine keep_far ?_ GW55010.out _) | exact HK.out)) (KeepBut.of_below hb g none) (.inl rfl))
      have n7_ := Aside0.mk (below_step (by repeat (first | (with_reducible first | exact HB.out | apply below_alloc | apply pw_below_drewN | apply below_drew1 | refine below_set ?_ (IsS100.ge HI0.out) | refine below_set ?_ GE55001.out | refine below_set ?_ GE55002.out | refine below_set ?_ GE55010.out) | exact HB.out)) hb)
      clear HO55008
      clear HI0
      clear BK55001
      clear BK55002
      clear BK55010
      clear HK
      clear HB
      have HO55008 := n0_
      have HO55013 := n1_
      have HI0 := n2_
      have BK55001 := n3_
      have BK55002 := n4_
      have BK55010 := n5_
      have HK := n6_
      have HB := n7_
      clear n0_ n1_ n2_ n3_ n4_ n5_ n6_ n7_
      (try clear hb)
      (try clear hb2)
      (try clear hk)
      (try clear hi)
      (try clear ho0)
      obtain ⟨Ao17, co17, eo17⟩ := Kd.R_slice HO55013.out
      (first | subst eo17 | (injection eo17 with f1_ f2_ f3_; have f4_ := f1_.symm; have f5_ := f3_.symm; clear f1_ f2_ f3_; subst f4_; subst f5_))
      refine hK.out _ _ ⟨(blk_cell BK55010.out 0).trans rfl, (blk_cell BK55010.out 1).trans rfl, (blk_cell BK55010.out 2).trans rfl, (blk_cell BK55010.out 3).trans rfl⟩ (fun hHeld => ?_)
      clear hK K
      refine norm_ (a' := ?_) ?_ ?_
      rotate_left
      · show Act.put _ (some 17) _ = _
        simp only [Act.put, List.setIfInBounds_toArray, List.set_cons_zero, List.set_cons_succ, i64_w, i32_w]
        rfl
      refine pure_ (i := 9) (N := some 18) (v := ?_) (a' := ?_) #[true, true, true, true, true, true, true, true, true, true, false, false] rfl rfl (any_of HT_.out (by kernel_rfl)) (fun _ _ _ h => h) (Or.inl ⟨by rfl, ?_⟩) ?_ ?_
      rotate_left
      · intro w'
        go_simp
        with_reducible rfl
      rotate_left
      · simp only [Act.put, List.setIfInBounds_toArray, List.set_cons_zero, List.set_cons_succ, i64_w, i32_w]
        rfl
      refine one_ (i := 10) (N := some 5) #[true, true, true, true, true, true, true, true, true, true, true, false] rfl rfl (one_of HT_.out (by kernel_rfl)) (by decide) (fun K hK => ?_)
      refine box_step ?hg (N := 5) ?hd (cs := #[.int .i64 0, .int .i64 0, .int .i64 0, .slice none 0 0]) (t := 28) ?hr ?_; (case hd => rfl); (case hg => rfl); (case hr => first | (go_simp; done) | (go_simp; rfl))
      intro gb55014 hg w18 hbox hb
      have n0_ := Aside0.mk (Kd.Q_below (by (with_reducible repeat (first | apply Kd.Q_alloc | apply Kd.Q_drewN | apply Kd.Q_drew)); exact HO55008.out) hb)
      have n1_ := Aside0.mk (Kd.R_below (by (with_reducible repeat (first | apply Kd.R_alloc | apply Kd.R_drewN | apply Kd.R_drew)); exact HO55013.out) hb)
      have n2_ := Aside0.mk (IsS100.below (by repeat (first | (with_reducible first | exact HI0.out | apply IsS100.alloc | apply IsS100.drewN | apply IsS100.drew | apply IsS100.set_1 | refine IsS100.far ?_ NB0_55001.out _ | refine IsS100.far ?_ NB0_55002.out _ | refine IsS100.far ?_ NB0_55010.out _) | exact HI0.out)) hb)
      have n3_ := Aside0.mk (blk_below (g := gb55001) (o := .cells #[.int .i64 0, .int .i64 0, .int .i64 0, .slice none 0 0] 28 (0, 0)) (by (with_reducible repeat (first | refine blk_drewN ?_ _ | refine blk_drew ?_ | refine blk_alloc ?_ _)); exact BK55001.out) hb)
      have n4_ := Aside0.mk (blk_below (g := gb55002) (o := .cells #[.int .i64 0, .int .i64 0, .int .i64 0, .slice none 0 0] 28 (0, 0)) (by (with_reducible repeat (first | refine blk_drewN ?_ _ | refine blk_drew ?_ | refine blk_alloc ?_ _)); exact BK55002.out) hb)
      have n5_ := Aside0.mk (blk_below (g := gb55010) (o := .cells #[.int .i64 t55003, .int .i64 t55004, .int .i64 t55005, .slice Ao13 t55006.length co13] 28 (0, 0)) (by (with_reducible repeat (first | refine blk_drewN ?_ _ | refine blk_drew ?_ | refine blk_alloc ?_ _)); exact BK55010.out) hb)
      have n6_ := Aside0.mk (KeepBut.trans (by repeat (first | (with_reducible first | exact HK.out | apply KeepBut.set_ | apply keep_drewN | apply keep_drew | apply keep_alloc | refine keep_far ?_ GW55001.out _ | refine keep_far ?_ GW55002.out _ | refine keep_far ?_ GW55010.out _) | exact HK.out)) (KeepBut.of_below hb g none) (.inl rfl))
      have n7_ := Aside0.mk (below_step (by repeat (first | (with_reducible first | exact HB.out | apply below_alloc | apply pw_below_drewN | apply below_drew1 | refine below_set ?_ (IsS100.ge HI0.out) | refine below_set ?_ GE55001.out | refine below_set ?_ GE55002.out | refine below_set ?_ GE55010.out) | exact HB.out)) hb)
      have n8_ := Aside0.mk (hbox)
      have n9_ := Aside0.mk ((by rw [hg]; exact (keep_size (w := w) (g := g) (row := none) (by repeat (first | (with_reducible first | exact HK.out | apply KeepBut.set_ | apply keep_drewN | apply keep_drew | apply keep_alloc | refine keep_far ?_ GW55001.out _ | refine keep_far ?_ GW55002.out _ | refine keep_far ?_ GW55010.out _) | exact HK.out))) : w.heap.size ≤ gb55014))
      have n10_ := Aside0.mk ((Nat.le_trans HW0.out (by rw [hg]; exact (keep_size (w := w) (g := g) (row := none) (by repeat (first | (with_reducible first | exact HK.out | apply KeepBut.set_ | apply keep_drewN | apply keep_drew | apply keep_alloc | refine keep_far ?_ GW55001.out _ | refine keep_far ?_ GW55002.out _ | refine keep_far ?_ GW55010.out _) | exact HK.out))) : w.heap.size ≤ gb55014) : w0.heap.size ≤ gb55014))
      have n11_ := Aside0.mk ((by rw [hg]; exact Nat.ne_of_lt (blk_lt (g := gb55001) (o := .cells #[.int .i64 0, .int .i64 0, .int .i64 0, .slice none 0 0] 28 (0, 0)) (by (with_reducible repeat (first | refine blk_drewN ?_ _ | refine blk_drew ?_ | refine blk_alloc ?_ _)); exact BK55001.out)) : gb55001 ≠ gb55014))
      have n12_ := Aside0.mk ((by rw [hg]; exact Nat.ne_of_gt (blk_lt (g := gb55001) (o := .cells #[.int .i64 0, .int .i64 0, .int .i64 0, .slice none 0 0] 28 (0, 0)) (by (with_reducible repeat (first | refine blk_drewN ?_ _ | refine blk_drew ?_ | refine blk_alloc ?_ _)); exact BK55001.out)) : gb55014 ≠ gb55001))
      have n13_ := Aside0.mk ((by rw [hg]; exact Nat.ne_of_lt (blk_lt (g := gb55002) (o := .cells #[.int .i64 0, .int .i64 0, .int .i64 0, .slice none 0 0] 28 (0, 0)) (by (with_reducible repeat (first | refine blk_drewN ?_ _ | refine blk_drew ?_ | refine blk_alloc ?_ _)); exact BK55002.out)) : gb55002 ≠ gb55014))
      have n14_ := Aside0.mk ((by rw [hg]; exact Nat.ne_of_gt (blk_lt (g := gb55002) (o := .cells #[.int .i64 0, .int .i64 0, .int .i64 0, .slice none 0 0] 28 (0, 0)) (by (with_reducible repeat (first | refine blk_drewN ?_ _ | refine blk_drew ?_ | refine blk_alloc ?_ _)); exact BK55002.out)) : gb55014 ≠ gb55002))
      have n15_ := Aside0.mk ((by rw [hg]; exact Nat.ne_of_lt (blk_lt (g := gb55010) (o := .cells #[.int .i64 t55003, .int .i64 t55004, .int .i64 t55005, .slice Ao13 t55006.length co13] 28 (0, 0)) (by (with_reducible repeat (first | refine blk_drewN ?_ _ | refine blk_drew ?_ | refine blk_alloc ?_ _)); exact BK55010.out)) : gb55010 ≠ gb55014))
      have n16_ := Aside0.mk ((by rw [hg]; exact Nat.ne_of_gt (blk_lt (g := gb55010) (o := .cells #[.int .i64 t55003, .int .i64 t55004, .int .i64 t55005, .slice Ao13 t55006.length co13] 28 (0, 0)) (by (with_reducible repeat (first | refine blk_drewN ?_ _ | refine blk_drew ?_ | refine blk_alloc ?_ _)); exact BK55010.out)) : gb55014 ≠ gb55010))
      have n17_ := Aside0.mk ((by rw [hg]; exact Nat.ne_of_lt (IsS100.lt (show IsS100 w0 _ g s0_0 t55009 from by repeat (first | (with_reducible first | exact HI0.out | apply IsS100.alloc | apply IsS100.drewN | apply IsS100.drew | apply IsS100.set_1 | refine IsS100.far ?_ NB0_55001.out _ | refine IsS100.far ?_ NB0_55002.out _ | refine IsS100.far ?_ NB0_55010.out _) | exact HI0.out))) : g ≠ gb55014))
      have n18_ := Aside0.mk ((by rw [hg]; exact Nat.ne_of_gt (IsS100.lt (show IsS100 w0 _ g s0_0 t55009 from by repeat (first | (with_reducible first | exact HI0.out | apply IsS100.alloc | apply IsS100.drewN | apply IsS100.drew | apply IsS100.set_1 | refine IsS100.far ?_ NB0_55001.out _ | refine IsS100.far ?_ NB0_55002.out _ | refine IsS100.far ?_ NB0_55010.out _) | exact HI0.out))) : gb55014 ≠ g))
      clear HO55008
      clear HO55013
      clear HI0
      clear BK55001
      clear BK55002
      clear BK55010
      clear HK
      clear HB
      have HO55008 := n0_
      have HO55013 := n1_
      have HI0 := n2_
      have BK55001 := n3_
      have BK55002 := n4_
      have BK55010 := n5_
      have HK := n6_
      have HB := n7_
      have BK55014 := n8_
      have GW55014 := n9_
      have GE55014 := n10_
      have NB55001_55014 := n11_
      have NB55014_55001 := n12_
      have NB55002_55014 := n13_
      have NB55014_55002 := n14_
      have NB55010_55014 := n15_
      have NB55014_55010 := n16_
      have NB0_55014 := n17_
      have NB55014_0 := n18_
      clear n0_ n1_ n2_ n3_ n4_ n5_ n6_ n7_ n8_ n9_ n10_ n11_ n12_ n13_ n14_ n15_ n16_ n17_ n18_
      clear hb hbox hg
      refine hK.out _ _ ⟨(blk_cell BK55010.out 0).trans rfl, (blk_cell BK55010.out 1).trans rfl, (blk_cell BK55010.out 2).trans rfl, (blk_cell BK55010.out 3).trans rfl⟩ (fun hHeld => ?_)
      clear hK K
      refine norm_ (a' := ?_) ?_ ?_
      rotate_left
      · show Act.put _ (some 5) _ = _
        simp only [Act.put, List.setIfInBounds_toArray, List.set_cons_zero, List.set_cons_succ, i64_w, i32_w]
        rfl
      exact norm_ (by simp only [putAll, Act.put, List.setIfInBounds_toArray, List.set_cons_zero, List.set_cons_succ]) (hCont (.slice Ao17 t55011.length co17, gb55014) _ ⟨hHeld, (by (with_reducible repeat (first | apply Kd.Q_alloc | apply Kd.Q_drewN | apply Kd.Q_drew)); exact Kd.Q_mono HO55008.out (fun _ hk => hk.2)), (by (with_reducible repeat (first | apply Kd.R_alloc | apply Kd.R_drewN | apply Kd.R_drew)); exact Kd.R_mono HO55013.out (fun _ hk => hk.2)), (by (with_reducible repeat (first | refine blk_drewN ?_ _ | refine blk_drew ?_ | refine blk_alloc ?_ _)); exact BK55001.out), (by (with_reducible repeat (first | refine blk_drewN ?_ _ | refine blk_drew ?_ | refine blk_alloc ?_ _)); exact BK55002.out), (by (with_reducible repeat (first | refine blk_drewN ?_ _ | refine blk_drew ?_ | refine blk_alloc ?_ _)); exact BK55010.out), (by (with_reducible repeat (first | refine blk_drewN ?_ _ | refine blk_drew ?_ | refine blk_alloc ?_ _)); exact BK55014.out), GW55014.out, GE55014.out, NB0_55014.out, NB55014_0.out, NB55001_55014.out, NB55014_55001.out, NB55002_55014.out, NB55014_55002.out, NB55010_55014.out, NB55014_55010.out, (by repeat (first | (with_reducible first | exact HI0.out | apply IsS100.alloc | apply IsS100.drewN | apply IsS100.drew | apply IsS100.set_1 | refine IsS100.far ?_ NB0_55001.out _ | refine IsS100.far ?_ NB0_55002.out _ | refine IsS100.far ?_ NB0_55010.out _ | refine IsS100.far ?_ NB0_55014.out _) | exact HI0.out)), (by repeat (first | (with_reducible first | exact HK.out | apply KeepBut.set_ | apply keep_drewN | apply keep_drew | apply keep_alloc | refine keep_far ?_ GW55001.out _ | refine keep_far ?_ GW55002.out _ | refine keep_far ?_ GW55010.out _ | refine keep_far ?_ GW55014.out _) | exact HK.out)), (by repeat (first | (with_reducible first | exact HB.out | apply below_alloc | apply pw_below_drewN | apply below_drew1 | refine below_set ?_ (IsS100.ge HI0.out) | refine below_set ?_ GE55001.out | refine below_set ?_ GE55002.out | refine below_set ?_ GE55010.out | refine below_set ?_ GE55014.out) | exact HB.out))⟩)
    · skip
      refine box_step ?hg (N := 5) ?hd (cs := #[.int .i64 0, .int .i64 0, .int .i64 0, .slice none 0 0]) (t := 28) ?hr ?_; (case hd => rfl); (case hg => rfl); (case hr => first | (go_simp; done) | (go_simp; rfl))
      intro gb55014 hg w16 hbox hb
      have n0_ := Aside0.mk (Kd.Q_below (by (with_reducible repeat (first | apply Kd.Q_alloc | apply Kd.Q_drewN | apply Kd.Q_drew)); exact HO55008.out) hb)
      have n1_ := Aside0.mk (IsS100.below (by repeat (first | (with_reducible first | exact HI0.out | apply IsS100.alloc | apply IsS100.drewN | apply IsS100.drew | apply IsS100.set_1 | refine IsS100.far ?_ NB0_55001.out _ | refine IsS100.far ?_ NB0_55002.out _ | refine IsS100.far ?_ NB0_55010.out _) | exact HI0.out)) hb)
      have n2_ := Aside0.mk (blk_below (g := gb55001) (o := .cells #[.int .i64 0, .int .i64 0, .int .i64 0, .slice none 0 0] 28 (0, 0)) (by (with_reducible repeat (first | refine blk_drewN ?_ _ | refine blk_drew ?_ | refine blk_alloc ?_ _)); exact BK55001.out) hb)
      have n3_ := Aside0.mk (blk_below (g := gb55002) (o := .cells #[.int .i64 0, .int .i64 0, .int .i64 0, .slice none 0 0] 28 (0, 0)) (by (with_reducible repeat (first | refine blk_drewN ?_ _ | refine blk_drew ?_ | refine blk_alloc ?_ _)); exact BK55002.out) hb)
      have n4_ := Aside0.mk (blk_below (g := gb55010) (o := .cells #[.int .i64 t55003, .int .i64 t55004, .int .i64 t55005, .slice Ao13 t55006.length co13] 28 (0, 0)) (by (with_reducible repeat (first | refine blk_drewN ?_ _ | refine blk_drew ?_ | refine blk_alloc ?_ _)); exact BK55010.out) hb)
      have n5_ := Aside0.mk (KeepBut.trans (by repeat (first | (with_reducible first | exact HK.out | apply KeepBut.set_ | apply keep_drewN | apply keep_drew | apply keep_alloc | refine keep_far ?_ GW55001.out _ | refine keep_far ?_ GW55002.out _ | refine keep_far ?_ GW55010.out _) | exact HK.out)) (KeepBut.of_below hb g none) (.inl rfl))
      have n6_ := Aside0.mk (below_step (by repeat (first | (with_reducible first | exact HB.out | apply below_alloc | apply pw_below_drewN | apply below_drew1 | refine below_set ?_ (IsS100.ge HI0.out) | refine below_set ?_ GE55001.out | refine below_set ?_ GE55002.out | refine below_set ?_ GE55010.out) | exact HB.out)) hb)
      have n7_ := Aside0.mk (hbox)
      have n8_ := Aside0.mk ((by rw [hg]; exact (keep_size (w := w) (g := g) (row := none) (by repeat (first | (with_reducible first | exact HK.out | apply KeepBut.set_ | apply keep_drewN | apply keep_drew | apply keep_alloc | refine keep_far ?_ GW55001.out _ | refine keep_far ?_ GW55002.out _ | refine keep_far ?_ GW55010.out _) | exact HK.out))) : w.heap.size ≤ gb55014))
      have n9_ := Aside0.mk ((Nat.le_trans HW0.out (by rw [hg]; exact (keep_size (w := w) (g := g) (row := none) (by repeat (first | (with_reducible first | exact HK.out | apply KeepBut.set_ | apply keep_drewN | apply keep_drew | apply keep_alloc | refine keep_far ?_ GW55001.out _ | refine keep_far ?_ GW55002.out _ | refine keep_far ?_ GW55010.out _) | exact HK.out))) : w.heap.size ≤ gb55014) : w0.heap.size ≤ gb55014))
      have n10_ := Aside0.mk ((by rw [hg]; exact Nat.ne_of_lt (blk_lt (g := gb55001) (o := .cells #[.int .i64 0, .int .i64 0, .int .i64 0, .slice none 0 0] 28 (0, 0)) (by (with_reducible repeat (first | refine blk_drewN ?_ _ | refine blk_drew ?_ | refine blk_alloc ?_ _)); exact BK55001.out)) : gb55001 ≠ gb55014))
      have n11_ := Aside0.mk ((by rw [hg]; exact Nat.ne_of_gt (blk_lt (g := gb55001) (o := .cells #[.int .i64 0, .int .i64 0, .int .i64 0, .slice none 0 0] 28 (0, 0)) (by (with_reducible repeat (first | refine blk_drewN ?_ _ | refine blk_drew ?_ | refine blk_alloc ?_ _)); exact BK55001.out)) : gb55014 ≠ gb55001))
      have n12_ := Aside0.mk ((by rw [hg]; exact Nat.ne_of_lt (blk_lt (g := gb55002) (o := .cells #[.int .i64 0, .int .i64 0, .int .i64 0, .slice none 0 0] 28 (0, 0)) (by (with_reducible repeat (first | refine blk_drewN ?_ _ | refine blk_drew ?_ | refine blk_alloc ?_ _)); exact BK55002.out)) : gb55002 ≠ gb55014))
      have n13_ := Aside0.mk ((by rw [hg]; exact Nat.ne_of_gt (blk_lt (g := gb55002) (o := .cells #[.int .i64 0, .int .i64 0, .int .i64 0, .slice none 0 0] 28 (0, 0)) (by (with_reducible repeat (first | refine blk_drewN ?_ _ | refine blk_drew ?_ | refine blk_alloc ?_ _)); exact BK55002.out)) : gb55014 ≠ gb55002))
      have n14_ := Aside0.mk ((by rw [hg]; exact Nat.ne_of_lt (blk_lt (g := gb55010) (o := .cells #[.int .i64 t55003, .int .i64 t55004, .int .i64 t55005, .slice Ao13 t55006.length co13] 28 (0, 0)) (by (with_reducible repeat (first | refine blk_drewN ?_ _ | refine blk_drew ?_ | refine blk_alloc ?_ _)); exact BK55010.out)) : gb55010 ≠ gb55014))
      have n15_ := Aside0.mk ((by rw [hg]; exact Nat.ne_of_gt (blk_lt (g := gb55010) (o := .cells #[.int .i64 t55003, .int .i64 t55004, .int .i64 t55005, .slice Ao13 t55006.length co13] 28 (0, 0)) (by (with_reducible repeat (first | refine blk_drewN ?_ _ | refine blk_drew ?_ | refine blk_alloc ?_ _)); exact BK55010.out)) : gb55014 ≠ gb55010))
      have n16_ := Aside0.mk ((by rw [hg]; exact Nat.ne_of_lt (IsS100.lt (show IsS100 w0 _ g s0_0 t55009 from by repeat (first | (with_reducible first | exact HI0.out | apply IsS100.alloc | apply IsS100.drewN | apply IsS100.drew | apply IsS100.set_1 | refine IsS100.far ?_ NB0_55001.out _ | refine IsS100.far ?_ NB0_55002.out _ | refine IsS100.far ?_ NB0_55010.out _) | exact HI0.out))) : g ≠ gb55014))
      have n17_ := Aside0.mk ((by rw [hg]; exact Nat.ne_of_gt (IsS100.lt (show IsS100 w0 _ g s0_0 t55009 from by repeat (first | (with_reducible first | exact HI0.out | apply IsS100.alloc | apply IsS100.drewN | apply IsS100.drew | apply IsS100.set_1 | refine IsS100.far ?_ NB0_55001.out _ | refine IsS100.far ?_ NB0_55002.out _ | refine IsS100.far ?_ NB0_55010.out _) | exact HI0.out))) : gb55014 ≠ g))
      clear HO55008
      clear HI0
      clear BK55001
      clear BK55002
      clear BK55010
      clear HK
      clear HB
      have HO55008 := n0_
      have HI0 := n1_
      have BK55001 := n2_
      have BK55002 := n3_
      have BK55010 := n4_
      have HK := n5_
      have HB := n6_
      have BK55014 := n7_
      have GW55014 := n8_
      have GE55014 := n9_
      have NB55001_55014 := n10_
      have NB55014_55001 := n11_
      have NB55002_55014 := n12_
      have NB55014_55002 := n13_
      have NB55010_55014 := n14_
      have NB55014_55010 := n15_
      have NB0_55014 := n16_
      have NB55014_0 := n17_
      clear n0_ n1_ n2_ n3_ n4_ n5_ n6_ n7_ n8_ n9_ n10_ n11_ n12_ n13_ n14_ n15_ n16_ n17_
      clear hb hbox hg
      refine hK.out _ _ ⟨(blk_cell BK55010.out 0).trans rfl, (blk_cell BK55010.out 1).trans rfl, (blk_cell BK55010.out 2).trans rfl, (blk_cell BK55010.out 3).trans rfl⟩ (fun hHeld => ?_)
      clear hK K
      refine norm_ (a' := ?_) ?_ ?_
      rotate_left
      · show Act.put _ (some 5) _ = _
        simp only [Act.put, List.setIfInBounds_toArray, List.set_cons_zero, List.set_cons_succ, i64_w, i32_w]
        rfl
      refine one_ (i := 8) (N := some 17) #[true, true, true, true, true, true, true, true, true, false, true, false] rfl rfl (one_of HT_.out (by kernel_rfl)) (by decide) (fun K hK => ?_)
      refine goes_ Try.func95 (by kernel_rfl) rfl #[.slice Ao13 t55006.length co13] (by rfl) rfl rfl (by (try simp only [List.map_toArray, List.map_cons, List.map_nil]); first | done | rfl | (simp only [List.length_drop, List.length_take]; rfl)) ?_
      with_reducible refine (spec_copyInts.calls _ _ t55006 t55011 _ ?side1 ?side2 A3.out).mono ?_
      (case side1 => repeat (first | exact (Kd.Q_reads' HO55008.out).2.2 | (with_reducible refine Kd.C_alloc ?_ _) | (with_reducible refine Kd.C_drewN ?_ _) | (with_reducible refine Kd.C_drew ?_)))
      (case side2 => exact (Kd.Q_reads' HO55008.out).2.1)
      rintro e w17 ⟨v55012, rfl, ho0, hb⟩
      refine ⟨_, rfl, ?_⟩
      have n0_ := Aside0.mk (Kd.Q_elder' (by (with_reducible repeat (first | apply Kd.Q_alloc | apply Kd.Q_drewN | apply Kd.Q_drew)); exact HO55008.out) (Kd.R_base ho0) hb)
      have n1_ := Aside0.mk (Kd.R_lower (Kd.R_new' ho0 (Kd.Q_lt (by (with_reducible repeat (first | apply Kd.Q_alloc | apply Kd.Q_drewN | apply Kd.Q_drew)); exact HO55008.out))) (keep_size (w := w) (g := g) (row := none) (by repeat (first | (with_reducible first | exact HK.out | apply KeepBut.set_ | apply keep_drewN | apply keep_drew | apply keep_alloc | refine keep_far ?_ GW55001.out _ | refine keep_far ?_ GW55002.out _ | refine keep_far ?_ GW55010.out _ | refine keep_far ?_ GW55014.out _) | exact HK.out))))
      have n2_ := Aside0.mk (IsS100.below (by repeat (first | (with_reducible first | exact HI0.out | apply IsS100.alloc | apply IsS100.drewN | apply IsS100.drew | apply IsS100.set_1 | refine IsS100.far ?_ NB0_55001.out _ | refine IsS100.far ?_ NB0_55002.out _ | refine IsS100.far ?_ NB0_55010.out _ | refine IsS100.far ?_ NB0_55014.out _) | exact HI0.out)) hb)
      have n3_ := Aside0.mk (blk_below (g := gb55001) (o := .cells #[.int .i64 0, .int .i64 0, .int .i64 0, .slice none 0 0] 28 (0, 0)) (by (with_reducible repeat (first | refine blk_drewN ?_ _ | refine blk_drew ?_ | refine blk_alloc ?_ _)); exact BK55001.out) hb)
      have n4_ := Aside0.mk (blk_below (g := gb55002) (o := .cells #[.int .i64 0, .int .i64 0, .int .i64 0, .slice none 0 0] 28 (0, 0)) (by (with_reducible repeat (first | refine blk_drewN ?_ _ | refine blk_drew ?_ | refine blk_alloc ?_ _)); exact BK55002.out) hb)
      have n5_ := Aside0.mk (blk_below (g := gb55010) (o := .cells #[.int .i64 t55003, .int .i64 t55004, .int .i64 t55005, .slice Ao13 t55006.length co13] 28 (0, 0)) (by (with_reducible repeat (first | refine blk_drewN ?_ _ | refine blk_drew ?_ | refine blk_alloc ?_ _)); exact BK55010.out) hb)
      have n6_ := Aside0.mk (blk_below (g := gb55014) (o := .cells #[.int .i64 0, .int .i64 0, .int .i64 0, .slice none 0 0] 28 (0, 0)) (by (with_reducible repeat (first | refine blk_drewN ?_ _ | refine blk_drew ?_ | refine blk_alloc ?_ _)); exact BK55014.out) hb)
      have n7_ := Aside0.mk (KeepBut.trans (by repeat (first | (with_reducible first | exact HK.out | apply KeepBut.set_ | apply keep_drewN | apply keep_drew | apply keep_alloc | refine keep_far ?_ GW55001.out _ | refine keep_far ?_ GW55002.out _ | refine keep_far ?_ GW55010.out _ | refine keep_far ?_ GW55014.out _) | exact HK.out)) (KeepBut.of_below hb g none) (.inl rfl))
      have n8_ := Aside0.mk (below_step (by repeat (first | (with_reducible first | exact HB.out | apply below_alloc | apply pw_below_drewN | apply below_drew1 | refine below_set ?_ (IsS100.ge HI0.out) | refine below_set ?_ GE55001.out | refine below_set ?_ GE55002.out | refine below_set ?_ GE55010.out | refine below_set ?_ GE55014.out) | exact HB.out)) hb)
      clear HO55008
      clear HI0
      clear BK55001
      clear BK55002
      clear BK55010
      clear BK55014
      clear HK
      clear HB
      have HO55008 := n0_
      have HO55013 := n1_
      have HI0 := n2_
      have BK55001 := n3_
      have BK55002 := n4_
      have BK55010 := n5_
      have BK55014 := n6_
      have HK := n7_
      have HB := n8_
      clear n0_ n1_ n2_ n3_ n4_ n5_ n6_ n7_ n8_
      (try clear hb)
      (try clear hb2)
      (try clear hk)
      (try clear hi)
      (try clear ho0)
      obtain ⟨Ao18, co18, eo18⟩ := Kd.R_slice HO55013.out
      (first | subst eo18 | (injection eo18 with f1_ f2_ f3_; have f4_ := f1_.symm; have f5_ := f3_.symm; clear f1_ f2_ f3_; subst f4_; subst f5_))
      refine hK.out _ _ ⟨(blk_cell BK55010.out 0).trans rfl, (blk_cell BK55010.out 1).trans rfl, (blk_cell BK55010.out 2).trans rfl, (blk_cell BK55010.out 3).trans rfl⟩ (fun hHeld => ?_)
      clear hK K
      refine norm_ (a' := ?_) ?_ ?_
      rotate_left
      · show Act.put _ (some 17) _ = _
        simp only [Act.put, List.setIfInBounds_toArray, List.set_cons_zero, List.set_cons_succ, i64_w, i32_w]
        rfl
      refine pure_ (i := 9) (N := some 18) (v := ?_) (a' := ?_) #[true, true, true, true, true, true, true, true, true, true, true, false] rfl rfl (any_of HT_.out (by kernel_rfl)) (fun _ _ _ h => h) (Or.inl ⟨by rfl, ?_⟩) ?_ ?_
      rotate_left
      · intro w'
        go_simp
        with_reducible rfl
      rotate_left
      · simp only [Act.put, List.setIfInBounds_toArray, List.set_cons_zero, List.set_cons_succ, i64_w, i32_w]
        rfl
      exact norm_ (by simp only [putAll, Act.put, List.setIfInBounds_toArray, List.set_cons_zero, List.set_cons_succ]) (hCont (.slice Ao18 t55011.length co18, gb55014) _ ⟨hHeld, (by (with_reducible repeat (first | apply Kd.Q_alloc | apply Kd.Q_drewN | apply Kd.Q_drew)); exact Kd.Q_mono HO55008.out (fun _ hk => hk.2)), (by (with_reducible repeat (first | apply Kd.R_alloc | apply Kd.R_drewN | apply Kd.R_drew)); exact Kd.R_mono HO55013.out (fun _ hk => hk.2)), (by (with_reducible repeat (first | refine blk_drewN ?_ _ | refine blk_drew ?_ | refine blk_alloc ?_ _)); exact BK55001.out), (by (with_reducible repeat (first | refine blk_drewN ?_ _ | refine blk_drew ?_ | refine blk_alloc ?_ _)); exact BK55002.out), (by (with_reducible repeat (first | refine blk_drewN ?_ _ | refine blk_drew ?_ | refine blk_alloc ?_ _)); exact BK55010.out), (by (with_reducible repeat (first | refine blk_drewN ?_ _ | refine blk_drew ?_ | refine blk_alloc ?_ _)); exact BK55014.out), GW55014.out, GE55014.out, NB0_55014.out, NB55014_0.out, NB55001_55014.out, NB55014_55001.out, NB55002_55014.out, NB55014_55002.out, NB55010_55014.out, NB55014_55010.out, (by repeat (first | (with_reducible first | exact HI0.out | apply IsS100.alloc | apply IsS100.drewN | apply IsS100.drew | apply IsS100.set_1 | refine IsS100.far ?_ NB0_55001.out _ | refine IsS100.far ?_ NB0_55002.out _ | refine IsS100.far ?_ NB0_55010.out _ | refine IsS100.far ?_ NB0_55014.out _) | exact HI0.out)), (by repeat (first | (with_reducible first | exact HK.out | apply KeepBut.set_ | apply keep_drewN | apply keep_drew | apply keep_alloc | refine keep_far ?_ GW55001.out _ | refine keep_far ?_ GW55002.out _ | refine keep_far ?_ GW55010.out _ | refine keep_far ?_ GW55014.out _) | exact HK.out)), (by repeat (first | (with_reducible first | exact HB.out | apply below_alloc | apply pw_below_drewN | apply below_drew1 | refine below_set ?_ (IsS100.ge HI0.out) | refine below_set ?_ GE55001.out | refine below_set ?_ GE55002.out | refine below_set ?_ GE55010.out | refine below_set ?_ GE55014.out) | exact HB.out))⟩)
  rintro ⟨v55012, gb55014⟩ w19 ⟨hS_, h0_, h1_, h2_, h3_, h4_, h5_, h6_, h7_, h8_, h9_, h10_, h11_, h12_, h13_, h14_, h15_, h16_, h17_, h18_⟩
  have n0_ : Aside0 (Kd.Q (Kd.int .i64) 3 w19 w.heap.size (fun k_ => some k_ ≠ (v55012 : Value).ownBlock) (.slice Ao13 t55006.length co13) t55006) := ⟨h0_⟩
  have n1_ : Aside0 (Kd.R (Kd.int .i64) 3 w19 w.heap.size (fun k_ => some k_ ≠ (.slice Ao13 t55006.length co13 : Value).ownBlock) v55012 t55011) := ⟨h1_⟩
  have n2_ : Aside0 (w19.heap[gb55001]? = some (.cells #[.int .i64 0, .int .i64 0, .int .i64 0, .slice none 0 0] 28 (0, 0))) := ⟨h2_⟩
  have n3_ : Aside0 (w19.heap[gb55002]? = some (.cells #[.int .i64 0, .int .i64 0, .int .i64 0, .slice none 0 0] 28 (0, 0))) := ⟨h3_⟩
  have n4_ : Aside0 (w19.heap[gb55010]? = some (.cells #[.int .i64 t55003, .int .i64 t55004, .int .i64 t55005, .slice Ao13 t55006.length co13] 28 (0, 0))) := ⟨h4_⟩
  have n5_ : Aside0 (w19.heap[gb55014]? = some (.cells #[.int .i64 0, .int .i64 0, .int .i64 0, .slice none 0 0] 28 (0, 0))) := ⟨h5_⟩
  have n6_ : Aside0 (w.heap.size ≤ gb55014) := ⟨h6_⟩
  have n7_ : Aside0 (w0.heap.size ≤ gb55014) := ⟨h7_⟩
  have n8_ : Aside0 (g ≠ gb55014) := ⟨h8_⟩
  have n9_ : Aside0 (gb55014 ≠ g) := ⟨h9_⟩
  have n10_ : Aside0 (gb55001 ≠ gb55014) := ⟨h10_⟩
  have n11_ : Aside0 (gb55014 ≠ gb55001) := ⟨h11_⟩
  have n12_ : Aside0 (gb55002 ≠ gb55014) := ⟨h12_⟩
  have n13_ : Aside0 (gb55014 ≠ gb55002) := ⟨h13_⟩
  have n14_ : Aside0 (gb55010 ≠ gb55014) := ⟨h14_⟩
  have n15_ : Aside0 (gb55014 ≠ gb55010) := ⟨h15_⟩
  have n16_ : Aside0 (IsS100 w0 w19 g s0_0 t55009) := ⟨h16_⟩
  have n17_ : Aside0 (KeepBut w w19 g none) := ⟨h17_⟩
  have n18_ : Aside0 (Below w0.heap.size w0 w19) := ⟨h18_⟩
  clear HO55008
  clear BK55001
  clear BK55002
  clear BK55010
  clear HI0
  clear HK
  clear HB
  clear h0_ h1_ h2_ h3_ h4_ h5_ h6_ h7_ h8_ h9_ h10_ h11_ h12_ h13_ h14_ h15_ h16_ h17_ h18_
  have HO55008 := n0_
  have HO55013 := n1_
  have BK55001 := n2_
  have BK55002 := n3_
  have BK55010 := n4_
  have BK55014 := n5_
  have GW55014 := n6_
  have GE55014 := n7_
  have NB0_55014 := n8_
  have NB55014_0 := n9_
  have NB55001_55014 := n10_
  have NB55014_55001 := n11_
  have NB55002_55014 := n12_
  have NB55014_55002 := n13_
  have NB55010_55014 := n14_
  have NB55014_55010 := n15_
  have HI0 := n16_
  have HK := n17_
  have HB := n18_
  clear n0_ n1_ n2_ n3_ n4_ n5_ n6_ n7_ n8_ n9_ n10_ n11_ n12_ n13_ n14_ n15_ n16_ n17_ n18_
  have hHeld : w19.cell? ⟨gb55010, 0, none⟩ = some (.int .i64 t55003) ∧ w19.cell? ⟨gb55010, 1, none⟩ = some (.int .i64 t55004) ∧ w19.cell? ⟨gb55010, 2, none⟩ = some (.int .i64 t55005) ∧ w19.cell? ⟨gb55010, 3, none⟩ = some (.slice Ao13 t55006.length co13) := hS_
  obtain ⟨Ao20, co20, eo20⟩ := Kd.R_slice HO55013.out
  (first | subst eo20 | (injection eo20 with f1_ f2_ f3_; have f4_ := f1_.symm; have f5_ := f3_.symm; clear f1_ f2_ f3_; subst f4_; subst f5_))
  refine norm_ (a' := ?_) ?_ ?_
  rotate_left
  · simp only [putAll, Act.put, List.setIfInBounds_toArray, List.set_cons_zero, List.set_cons_succ]
    rfl
  refine one_ (i := 11) (N := none) #[true, true, true, true, true, true, true, true, true, true, true, true] rfl rfl (one_of HT_.out (by kernel_rfl)) (by decide) (fun K hK => ?_)
  have hs21 : w19.cell? ⟨gb55014, 0, none⟩ = some (.int .i64 0) := (blk_cell BK55014.out 0).trans rfl
  have hfs21 := blk_frozen BK55014.out 0
  have hns21_0 := NB55001_55014.out
  have hns21_1 := NB55002_55014.out
  have hns21_2 := NB55010_55014.out
  have hms21_0 := NB55014_55001.out
  have hms21_1 := NB55014_55002.out
  have hms21_2 := NB55014_55010.out
  have hs22 : w19.cell? ⟨gb55014, 1, none⟩ = some (.int .i64 0) := (blk_cell BK55014.out 1).trans rfl
  have hfs22 := blk_frozen BK55014.out 1
  have hns22_0 := NB55001_55014.out
  have hns22_1 := NB55002_55014.out
  have hns22_2 := NB55010_55014.out
  have hms22_0 := NB55014_55001.out
  have hms22_1 := NB55014_55002.out
  have hms22_2 := NB55014_55010.out
  have hs23 : w19.cell? ⟨gb55014, 2, none⟩ = some (.int .i64 0) := (blk_cell BK55014.out 2).trans rfl
  have hfs23 := blk_frozen BK55014.out 2
  have hns23_0 := NB55001_55014.out
  have hns23_1 := NB55002_55014.out
  have hns23_2 := NB55010_55014.out
  have hms23_0 := NB55014_55001.out
  have hms23_1 := NB55014_55002.out
  have hms23_2 := NB55014_55010.out
  have hs24 : w19.cell? ⟨gb55014, 3, none⟩ = some (.slice none 0 0) := (blk_cell BK55014.out 3).trans rfl
  have hfs24 := blk_frozen BK55014.out 3
  have hns24_0 := NB55001_55014.out
  have hns24_1 := NB55002_55014.out
  have hns24_2 := NB55010_55014.out
  have hms24_0 := NB55014_55001.out
  have hms24_1 := NB55014_55002.out
  have hms24_2 := NB55014_55010.out
  refine skip_ (w1 := ?_) (by rfl) rfl ?_ ?_
  rotate_left
  · go_simp
    rfl
  refine hK.out _ _ ⟨((cell_far (p := ⟨gb55014, _, none⟩) NB55010_55014.out _).trans (((cell_far (p := ⟨gb55014, _, none⟩) NB55010_55014.out _).trans (((cell_far (p := ⟨gb55014, _, none⟩) NB55010_55014.out _).trans (((cell_far (p := ⟨gb55014, _, none⟩) NB55010_55014.out _).trans (hHeld.1)))))))), ((cell_far (p := ⟨gb55014, _, none⟩) NB55010_55014.out _).trans (((cell_far (p := ⟨gb55014, _, none⟩) NB55010_55014.out _).trans (((cell_far (p := ⟨gb55014, _, none⟩) NB55010_55014.out _).trans (((cell_far (p := ⟨gb55014, _, none⟩) NB55010_55014.out _).trans (hHeld.2.1)))))))), ((cell_far (p := ⟨gb55014, _, none⟩) NB55010_55014.out _).trans (((cell_far (p := ⟨gb55014, _, none⟩) NB55010_55014.out _).trans (((cell_far (p := ⟨gb55014, _, none⟩) NB55010_55014.out _).trans (((cell_far (p := ⟨gb55014, _, none⟩) NB55010_55014.out _).trans (hHeld.2.2.1)))))))), ((cell_far (p := ⟨gb55014, _, none⟩) NB55010_55014.out _).trans (((cell_far (p := ⟨gb55014, _, none⟩) NB55010_55014.out _).trans (((cell_far (p := ⟨gb55014, _, none⟩) NB55010_55014.out _).trans (((cell_far (p := ⟨gb55014, _, none⟩) NB55010_55014.out _).trans (hHeld.2.2.2))))))))⟩ (fun hHeld => ?_)
  clear hK K
  refine done_ (done_of HT_.out (by kernel_rfl)) ?_
  try go_wp2_with (first | ((with_reducible refine gate_callee (f := 82) rfl ?_); refine goesL_ (some 20) rfl rfl Try.func82 (by kernel_rfl) rfl #[.pointer (some ⟨g, 0, none⟩), .int .i64 6] rfl (by (try simp only [List.map_toArray, List.map_cons, List.map_nil]); first | done | rfl | (simp only [List.length_drop, List.length_take]; rfl)) ?_; (with_reducible refine (spec_reader_pick.calls k g s0_0 t55009 6 t55015 t55016 w0 _ ?side1 ?side2 A4.out).mono ?_); (case side1 => repeat (first | (with_reducible first | exact HI0.out | apply IsS100.alloc | apply IsS100.drewN | apply IsS100.drew | apply IsS100.set_1 | refine IsS100.far ?_ NB0_55001.out _ | refine IsS100.far ?_ NB0_55002.out _ | refine IsS100.far ?_ NB0_55010.out _ | refine IsS100.far ?_ NB0_55014.out _) | exact HI0.out)); (case side2 => repeat (first | (with_reducible first | exact HB.out | apply below_alloc | apply pw_below_drewN | apply below_drew1 | refine below_set ?_ (IsS100.ge HI0.out) | refine below_set ?_ GE55001.out | refine below_set ?_ GE55002.out | refine below_set ?_ GE55010.out | refine below_set ?_ GE55014.out) | exact HB.out)); rintro e w25 ⟨rfl, hi, hb, hk⟩; refine ⟨_, rfl, ?_⟩; have n0_ := Aside0.mk (KeepBut.blk hk (g' := gb55001) (o := .cells #[.int .i64 0, .int .i64 0, .int .i64 0, .slice none 0 0] 28 (0, 0)) (by (with_reducible repeat (first | refine blk_drewN ?_ _ | refine blk_drew ?_ | refine blk_alloc ?_ _)); refine blk_far ?_ NB55001_55014.out _; (with_reducible repeat (first | refine blk_drewN ?_ _ | refine blk_drew ?_ | refine blk_alloc ?_ _)); refine blk_far ?_ NB55001_55014.out _; (with_reducible repeat (first | refine blk_drewN ?_ _ | refine blk_drew ?_ | refine blk_alloc ?_ _)); refine blk_far ?_ NB55001_55014.out _; (with_reducible repeat (first | refine blk_drewN ?_ _ | refine blk_drew ?_ | refine blk_alloc ?_ _)); refine blk_far ?_ NB55001_55014.out _; (with_reducible repeat (first | refine blk_drewN ?_ _ | refine blk_drew ?_ | refine blk_alloc ?_ _)); exact BK55001.out) NB55001_0.out (by simp)); have n1_ := Aside0.mk (KeepBut.blk hk (g' := gb55002) (o := .cells #[.int .i64 0, .int .i64 0, .int .i64 0, .slice none 0 0] 28 (0, 0)) (by (with_reducible repeat (first | refine blk_drewN ?_ _ | refine blk_drew ?_ | refine blk_alloc ?_ _)); refine blk_far ?_ NB55002_55014.out _; (with_reducible repeat (first | refine blk_drewN ?_ _ | refine blk_drew ?_ | refine blk_alloc ?_ _)); refine blk_far ?_ NB55002_55014.out _; (with_reducible repeat (first | refine blk_drewN ?_ _ | refine blk_drew ?_ | refine blk_alloc ?_ _)); refine blk_far ?_ NB55002_55014.out _; (with_reducible repeat (first | refine blk_drewN ?_ _ | refine blk_drew ?_ | refine blk_alloc ?_ _)); refine blk_far ?_ NB55002_55014.out _; (with_reducible repeat (first | refine blk_drewN ?_ _ | refine blk_drew ?_ | refine blk_alloc ?_ _)); exact BK55002.out) NB55002_0.out (by simp)); have n2_ := Aside0.mk (Kd.Q_mono (Kd.Q_keep (IsS100.apartQ (show IsS100 w0 _ g s0_0 t55009 from by repeat (first | (with_reducible first | exact HI0.out | apply IsS100.alloc | apply IsS100.drewN | apply IsS100.drew | apply IsS100.set_1 | refine IsS100.far ?_ NB0_55001.out _ | refine IsS100.far ?_ NB0_55002.out _ | refine IsS100.far ?_ NB0_55010.out _ | refine IsS100.far ?_ NB0_55014.out _) | exact HI0.out)) (by (with_reducible repeat (first | apply Kd.Q_alloc | apply Kd.Q_drewN | apply Kd.Q_drew)); exact (Kd.Q_mono (Kd.Q_far (p := ⟨gb55014, 3, none⟩) (Kd.Q_far (p := ⟨gb55014, 2, none⟩) (Kd.Q_far (p := ⟨gb55014, 1, none⟩) (Kd.Q_far (p := ⟨gb55014, 0, none⟩) (Kd.Q_types HO55008.out BK55014.out (by decide)) (fun _ hk => hk.2) (.int .i64 t55003)) (fun _ hk => hk.2) (.int .i64 t55004)) (fun _ hk => hk.2) (.int .i64 t55005)) (fun _ hk => hk.2) (.slice Ao20 t55011.length co20)) (fun _ h_ => h_.1))) (by decide)) hk (fun _ h => h.2)) (fun _ h => h.1)); have n3_ := Aside0.mk (KeepBut.blk hk (g' := gb55010) (o := .cells #[.int .i64 t55003, .int .i64 t55004, .int .i64 t55005, .slice Ao13 t55006.length co13] 28 (0, 0)) (by (with_reducible repeat (first | refine blk_drewN ?_ _ | refine blk_drew ?_ | refine blk_alloc ?_ _)); refine blk_far ?_ NB55010_55014.out _; (with_reducible repeat (first | refine blk_drewN ?_ _ | refine blk_drew ?_ | refine blk_alloc ?_ _)); refine blk_far ?_ NB55010_55014.out _; (with_reducible repeat (first | refine blk_drewN ?_ _ | refine blk_drew ?_ | refine blk_alloc ?_ _)); refine blk_far ?_ NB55010_55014.out _; (with_reducible repeat (first | refine blk_drewN ?_ _ | refine blk_drew ?_ | refine blk_alloc ?_ _)); refine blk_far ?_ NB55010_55014.out _; (with_reducible repeat (first | refine blk_drewN ?_ _ | refine blk_drew ?_ | refine blk_alloc ?_ _)); exact BK55010.out) NB55010_0.out (by simp)); have n4_ := Aside0.mk (Kd.R_mono (Kd.R_keep (IsS100.apart (show IsS100 w0 _ g s0_0 t55009 from by repeat (first | (with_reducible first | exact HI0.out | apply IsS100.alloc | apply IsS100.drewN | apply IsS100.drew | apply IsS100.set_1 | refine IsS100.far ?_ NB0_55001.out _ | refine IsS100.far ?_ NB0_55002.out _ | refine IsS100.far ?_ NB0_55010.out _ | refine IsS100.far ?_ NB0_55014.out _) | exact HI0.out)) (by (with_reducible repeat (first | apply Kd.R_alloc | apply Kd.R_drewN | apply Kd.R_drew)); exact (Kd.R_mono (Kd.R_far (p := ⟨gb55014, 3, none⟩) (Kd.R_far (p := ⟨gb55014, 2, none⟩) (Kd.R_far (p := ⟨gb55014, 1, none⟩) (Kd.R_far (p := ⟨gb55014, 0, none⟩) (Kd.R_types HO55013.out BK55014.out (by decide)) (fun _ hk => hk.2) (.int .i64 t55003)) (fun _ hk => hk.2) (.int .i64 t55004)) (fun _ hk => hk.2) (.int .i64 t55005)) (fun _ hk => hk.2) (.slice Ao20 t55011.length co20)) (fun _ h_ => h_.1))) (by decide)) hk (fun _ h => h.2)) (fun _ h => h.1)); have n5_ := Aside0.mk (KeepBut.blk hk (g' := gb55014) (o := .cells #[.int .i64 t55003, .int .i64 t55004, .int .i64 t55005, .slice Ao20 t55011.length co20] 28 (0, 0)) (by (with_reducible repeat (first | refine blk_drewN ?_ _ | refine blk_drew ?_ | refine blk_alloc ?_ _)); refine blk_put (cs := #[.int .i64 t55003, .int .i64 t55004, .int .i64 t55005, .slice none 0 0]) ?_ 3 _ rfl; (with_reducible repeat (first | refine blk_drewN ?_ _ | refine blk_drew ?_ | refine blk_alloc ?_ _)); refine blk_put (cs := #[.int .i64 t55003, .int .i64 t55004, .int .i64 0, .slice none 0 0]) ?_ 2 _ rfl; (with_reducible repeat (first | refine blk_drewN ?_ _ | refine blk_drew ?_ | refine blk_alloc ?_ _)); refine blk_put (cs := #[.int .i64 t55003, .int .i64 0, .int .i64 0, .slice none 0 0]) ?_ 1 _ rfl; (with_reducible repeat (first | refine blk_drewN ?_ _ | refine blk_drew ?_ | refine blk_alloc ?_ _)); refine blk_put (cs := #[.int .i64 0, .int .i64 0, .int .i64 0, .slice none 0 0]) ?_ 0 _ rfl; (with_reducible repeat (first | refine blk_drewN ?_ _ | refine blk_drew ?_ | refine blk_alloc ?_ _)); exact BK55014.out) NB55014_0.out (by simp)); have n6_ := Aside0.mk (KeepBut.trans (by repeat (first | (with_reducible first | exact HK.out | apply KeepBut.set_ | apply keep_drewN | apply keep_drew | apply keep_alloc | refine keep_far ?_ GW55001.out _ | refine keep_far ?_ GW55002.out _ | refine keep_far ?_ GW55010.out _ | refine keep_far ?_ GW55014.out _) | exact HK.out)) hk (.inl rfl)); have n7_ := Aside0.mk (hb); have n8_ := Aside0.mk (hi); clear BK55001; clear BK55002; clear HO55008; clear BK55010; clear HO55013; clear BK55014; clear HK; clear HB; clear HI0; have BK55001 := n0_; have BK55002 := n1_; have HO55008 := n2_; have BK55010 := n3_; have HO55013 := n4_; have BK55014 := n5_; have HK := n6_; have HB := n7_; have HI0 := n8_; clear n0_ n1_ n2_ n3_ n4_ n5_ n6_ n7_ n8_; (try clear hb); (try clear hb2); (try clear hk); (try clear hi)))
  go_loopg [6] k (fun kq v6 w' => ∃ (x6_1 : Int) (x1001_1 : Int) (x55011003_1 : List Int) (x55015003_1 : List Int) (u55011003 : Value) (u55015003 : Value), v6 = .int .i64 x6_1 ∧ Aside0 (spec_twoImages.l0 kq x6_1 s0_0 x1001_1 t55003 t55004 t55005 x55011003_1 t55003 t55004 t55005 x55015003_1 = some (r1, r2, r3, r4, r5, r6, r7, r8, r9)) ∧ Aside0 (kq ≤ k) ∧ Aside0 (Kd.Q (Kd.int .i64) 3 w' w.heap.size (fun k_ => some k_ ≠ (u55015003 : Value).ownBlock) u55011003 x55011003_1) ∧ Aside0 (Kd.Q (Kd.int .i64) 3 w' w.heap.size (fun k_ => some k_ ≠ (u55011003 : Value).ownBlock) u55015003 x55015003_1) ∧ Aside0 (w'.heap[gb55001]? = some (.cells #[.int .i64 0, .int .i64 0, .int .i64 0, (.slice none 0 0)] 28 (0, 0))) ∧ Aside0 (w'.heap[gb55002]? = some (.cells #[.int .i64 0, .int .i64 0, .int .i64 0, (.slice none 0 0)] 28 (0, 0))) ∧ Aside0 (w'.heap[gb55010]? = some (.cells #[.int .i64 t55003, .int .i64 t55004, .int .i64 t55005, u55011003] 28 (0, 0))) ∧ Aside0 (w'.heap[gb55014]? = some (.cells #[.int .i64 t55003, .int .i64 t55004, .int .i64 t55005, u55015003] 28 (0, 0))) ∧ Aside0 (IsS100 w0 w' g s0_0 x1001_1) ∧ Aside0 (KeepBut w w' g none) ∧ Aside0 (Below w0.heap.size w0 w'))
  case atStart => exact ⟨(t55015), (t55016), (t55006), (t55011), (.slice Ao13 t55006.length co13), (.slice Ao20 t55011.length co20), (by first | rfl | (simp; done) | (simp [*]; done)), H', ⟨Nat.le_refl _⟩, ⟨by (with_reducible repeat (first | apply Kd.Q_alloc | apply Kd.Q_drewN | apply Kd.Q_drew)); exact HO55008.out⟩, ⟨Kd.Q_of_R (by (with_reducible repeat (first | apply Kd.R_alloc | apply Kd.R_drewN | apply Kd.R_drew)); exact HO55013.out)⟩, ⟨by (with_reducible repeat (first | refine blk_drewN ?_ _ | refine blk_drew ?_ | refine blk_alloc ?_ _)); exact BK55001.out⟩, ⟨by (with_reducible repeat (first | refine blk_drewN ?_ _ | refine blk_drew ?_ | refine blk_alloc ?_ _)); exact BK55002.out⟩, ⟨by (with_reducible repeat (first | refine blk_drewN ?_ _ | refine blk_drew ?_ | refine blk_alloc ?_ _)); exact BK55010.out⟩, ⟨by (with_reducible repeat (first | refine blk_drewN ?_ _ | refine blk_drew ?_ | refine blk_alloc ?_ _)); exact BK55014.out⟩, ⟨by repeat (first | (with_reducible first | exact HI0.out | apply IsS100.alloc | apply IsS100.drewN | apply IsS100.drew | apply IsS100.set_1 | refine IsS100.far ?_ NB0_55001.out _ | refine IsS100.far ?_ NB0_55002.out _ | refine IsS100.far ?_ NB0_55010.out _ | refine IsS100.far ?_ NB0_55014.out _) | exact HI0.out)⟩, ⟨by repeat (first | (with_reducible first | exact HK.out | apply KeepBut.set_ | apply keep_drewN | apply keep_drew | apply keep_alloc | refine keep_far ?_ GW55001.out _ | refine keep_far ?_ GW55002.out _ | refine keep_far ?_ GW55010.out _ | refine keep_far ?_ GW55014.out _) | exact HK.out)⟩, ⟨by repeat (first | (with_reducible first | exact HB.out | apply below_alloc | apply pw_below_drewN | apply below_drew1 | refine below_set ?_ (IsS100.ge HI0.out) | refine below_set ?_ GE55001.out | refine below_set ?_ GE55002.out | refine below_set ?_ GE55010.out | refine below_set ?_ GE55014.out) | exact HB.out)⟩⟩
  case round =>
    clear H'
    try clear c1
    try clear p2
    try clear c5
    try clear c7
    try clear c8
    try clear c9
    try clear c10
    try clear c11
    try clear hcz12_0
    try clear hcz12_1
    try clear hcz12_2
    try clear hcz12_3
    try clear hfz12_0
    try clear hfz12_1
    try clear hfz12_2
    try clear hfz12_3
    obtain ⟨x6_1, x1001_1, x55011003_1, x55015003_1, u55011003, u55015003, rfl, HA, HK1, HO_55011003, HO_55015003, BK55001, BK55002, BK55010, BK55014, HI0, HK, HB⟩ := hrel
    cases gk with
    | zero => exact absurd HA.out (by simp [spec_twoImages.l0])
    | succ k1 =>
      have H := HA.out
      clear HA
      simp only [spec_twoImages.l0] at H
      have HC26 := Aside0.mk H
      clear H
      go_upto_region 4 with (fail)
      go_cut [28] (fun v28 wc => ∃ (kq : Nat) (x28_25 : Bool), v28 = .bool x28_25 ∧ Aside0 (spec_twoImages.j1 kq x6_1 x28_25 s0_0 x1001_1 t55003 t55004 t55005 x55011003_1 t55003 t55004 t55005 x55015003_1 = some (r1, r2, r3, r4, r5, r6, r7, r8, r9)) ∧ Aside0 (kq ≤ k1) ∧ Aside0 (Kd.Q (Kd.int .i64) 3 wc w.heap.size (fun k_ => some k_ ≠ (u55015003 : Value).ownBlock) u55011003 x55011003_1) ∧ Aside0 (Kd.Q (Kd.int .i64) 3 wc w.heap.size (fun k_ => some k_ ≠ (u55011003 : Value).ownBlock) u55015003 x55015003_1) ∧ Aside0 (wc.heap[gb55001]? = some (.cells #[.int .i64 0, .int .i64 0, .int .i64 0, (.slice none 0 0)] 28 (0, 0))) ∧ Aside0 (wc.heap[gb55002]? = some (.cells #[.int .i64 0, .int .i64 0, .int .i64 0, (.slice none 0 0)] 28 (0, 0))) ∧ Aside0 (wc.heap[gb55010]? = some (.cells #[.int .i64 t55003, .int .i64 t55004, .int .i64 t55005, u55011003] 28 (0, 0))) ∧ Aside0 (wc.heap[gb55014]? = some (.cells #[.int .i64 t55003, .int .i64 t55004, .int .i64 t55005, u55015003] 28 (0, 0))) ∧ Aside0 (IsS100 w0 wc g s0_0 x1001_1) ∧ Aside0 (KeepBut w wc g none) ∧ Aside0 (Below w0.heap.size w0 wc))
      case first =>
        have H := HC26.out
        clear HC26
        by_cases c27 : x6_1 > 0
        · rw [if_pos c27] at H
          have c27b0 : decide (0 < x6_1) = true := decide_eq_true c27
          clear c27
          (first | rw [c27b0] | (simp only [i64_w, i32_w]; rw [c27b0]) | skip)
          have H' := Aside0.mk H
          clear H
          have hnb28 := NB55014_55001.out
          have hnc28 := NB55001_55014.out
          have hnb29 := NB55014_55002.out
          have hnc29 := NB55002_55014.out
          have hnb30 := NB55014_55010.out
          have hnc30 := NB55010_55014.out
          have hnb31 := NB55014_0.out
          have hnc31 := NB0_55014.out
          have hcz32_0 : wr.cell? ⟨gb55014, 0, none⟩ = some (.int .i64 t55003) := (blk_cell BK55014.out 0).trans rfl
          have hcz32_1 : wr.cell? ⟨gb55014, 1, none⟩ = some (.int .i64 t55004) := (blk_cell BK55014.out 1).trans rfl
          have hcz32_2 : wr.cell? ⟨gb55014, 2, none⟩ = some (.int .i64 t55005) := (blk_cell BK55014.out 2).trans rfl
          have hcz32_3 : wr.cell? ⟨gb55014, 3, none⟩ = some (u55015003) := (blk_cell BK55014.out 3).trans rfl
          have hfz32_0 := blk_frozen BK55014.out 0
          have hfz32_1 := blk_frozen BK55014.out 1
          have hfz32_2 := blk_frozen BK55014.out 2
          have hfz32_3 := blk_frozen BK55014.out 3
          obtain ⟨Ao33, co33, eo33, _⟩ := Kd.Q_slice HO_55015003.out
          subst eo33
          go_wp2
          go_meet
          case rel => exact ⟨_, (decide ((x55015003_1.length : Int) > 0)), (by first | rfl | (simp; done) | (simp [*]; done)), H', ⟨by have := HK1.out; first | omega | exact Nat.le_refl _⟩, ⟨by (with_reducible repeat (first | apply Kd.Q_alloc | apply Kd.Q_drewN | apply Kd.Q_drew)); exact HO_55011003.out⟩, ⟨by (with_reducible repeat (first | apply Kd.Q_alloc | apply Kd.Q_drewN | apply Kd.Q_drew)); exact HO_55015003.out⟩, ⟨by (with_reducible repeat (first | refine blk_drewN ?_ _ | refine blk_drew ?_ | refine blk_alloc ?_ _)); exact BK55001.out⟩, ⟨by (with_reducible repeat (first | refine blk_drewN ?_ _ | refine blk_drew ?_ | refine blk_alloc ?_ _)); exact BK55002.out⟩, ⟨by (with_reducible repeat (first | refine blk_drewN ?_ _ | refine blk_drew ?_ | refine blk_alloc ?_ _)); exact BK55010.out⟩, ⟨by (with_reducible repeat (first | refine blk_drewN ?_ _ | refine blk_drew ?_ | refine blk_alloc ?_ _)); exact BK55014.out⟩, ⟨by repeat (first | (with_reducible first | exact HI0.out | apply IsS100.alloc | apply IsS100.drewN | apply IsS100.drew | apply IsS100.set_1 | refine IsS100.far ?_ NB0_55001.out _ | refine IsS100.far ?_ NB0_55002.out _ | refine IsS100.far ?_ NB0_55010.out _ | refine IsS100.far ?_ NB0_55014.out _) | exact HI0.out)⟩, ⟨by repeat (first | (with_reducible first | exact HK.out | apply KeepBut.set_ | apply keep_drewN | apply keep_drew | apply keep_alloc | refine keep_far ?_ GW55001.out _ | refine keep_far ?_ GW55002.out _ | refine keep_far ?_ GW55010.out _ | refine keep_far ?_ GW55014.out _) | exact HK.out)⟩, ⟨by repeat (first | (with_reducible first | exact HB.out | apply below_alloc | apply pw_below_drewN | apply below_drew1 | refine below_set ?_ (IsS100.ge HI0.out) | refine below_set ?_ GE55001.out | refine below_set ?_ GE55002.out | refine below_set ?_ GE55010.out | refine below_set ?_ GE55014.out) | exact HB.out)⟩⟩
        · rw [if_neg c27] at H
          have c27b0 : decide (0 < x6_1) = false := decide_eq_false c27
          clear c27
          (first | rw [c27b0] | (simp only [i64_w, i32_w]; rw [c27b0]) | skip)
          have H' := Aside0.mk H
          clear H
          go_wp2
          go_meet
          case rel => exact ⟨_, (false), (by first | rfl | (simp; done) | (simp [*]; done)), H', ⟨by have := HK1.out; first | omega | exact Nat.le_refl _⟩, ⟨by (with_reducible repeat (first | apply Kd.Q_alloc | apply Kd.Q_drewN | apply Kd.Q_drew)); exact HO_55011003.out⟩, ⟨by (with_reducible repeat (first | apply Kd.Q_alloc | apply Kd.Q_drewN | apply Kd.Q_drew)); exact HO_55015003.out⟩, ⟨by (with_reducible repeat (first | refine blk_drewN ?_ _ | refine blk_drew ?_ | refine blk_alloc ?_ _)); exact BK55001.out⟩, ⟨by (with_reducible repeat (first | refine blk_drewN ?_ _ | refine blk_drew ?_ | refine blk_alloc ?_ _)); exact BK55002.out⟩, ⟨by (with_reducible repeat (first | refine blk_drewN ?_ _ | refine blk_drew ?_ | refine blk_alloc ?_ _)); exact BK55010.out⟩, ⟨by (with_reducible repeat (first | refine blk_drewN ?_ _ | refine blk_drew ?_ | refine blk_alloc ?_ _)); exact BK55014.out⟩, ⟨by repeat (first | (with_reducible first | exact HI0.out | apply IsS100.alloc | apply IsS100.drewN | apply IsS100.drew | apply IsS100.set_1 | refine IsS100.far ?_ NB0_55001.out _ | refine IsS100.far ?_ NB0_55002.out _ | refine IsS100.far ?_ NB0_55010.out _ | refine IsS100.far ?_ NB0_55014.out _) | exact HI0.out)⟩, ⟨by repeat (first | (with_reducible first | exact HK.out | apply KeepBut.set_ | apply keep_drewN | apply keep_drew | apply keep_alloc | refine keep_far ?_ GW55001.out _ | refine keep_far ?_ GW55002.out _ | refine keep_far ?_ GW55010.out _ | refine keep_far ?_ GW55014.out _) | exact HK.out)⟩, ⟨by repeat (first | (with_reducible first | exact HB.out | apply below_alloc | apply pw_below_drewN | apply below_drew1 | refine below_set ?_ (IsS100.ge HI0.out) | refine below_set ?_ GE55001.out | refine below_set ?_ GE55002.out | refine below_set ?_ GE55010.out | refine below_set ?_ GE55014.out) | exact HB.out)⟩⟩
      case rest =>
        clear HC26
        try clear c1
        try clear c2
        try clear p2
        try clear c3
        try clear c5
        try clear c7
        try clear c8
        try clear c9
        try clear c10
        try clear c11
        try clear c27
        try clear c27b0
        try clear c28
        try clear c29
        try clear c30
        try clear c31
        try clear hcz12_0
        try clear hcz12_1
        try clear hcz12_2
        try clear hcz12_3
        try clear hcz32_0
        try clear hcz32_1
        try clear hcz32_2
        try clear hcz32_3
        try clear hfz12_0
        try clear hfz12_1
        try clear hfz12_2
        try clear hfz12_3
        try clear hfz32_0
        try clear hfz32_1
        try clear hfz32_2
        try clear hfz32_3
        try clear p2
        obtain ⟨kq, x28_25, rfl, HA, HJ25, HO_55011003, HO_55015003, BK55001, BK55002, BK55010, BK55014, HI0, HK, HB⟩ := hcut
        cases kq with
        | zero => exact absurd HA.out (by simp [spec_twoImages.j1])
        | succ kj25 =>
          have H := HA.out
          clear HA
          simp only [spec_twoImages.j1] at H
          by_cases c34 : x28_25 = true
          · subst c34
            have H1 : ((spec_reader_pick.f kj25 s0_0 x1001_1 (x55015003_1.length : Int)).bind fun bt55017 => ((spec_reader_pick.f kj25 s0_0 bt55017.2 256).bind fun bt55019 => (if 0 ≤ bt55017.1 then (if bt55017.1 < (x55015003_1.length : Int) then (spec_twoImages.l0 kj25 (wrap64 (x6_1 - 1)) s0_0 bt55019.2 t55003 t55004 t55005 x55011003_1 t55003 t55004 t55005 (x55015003_1.set (bt55017.1 : Int).toNat bt55019.1)) else (none)) else (none)))) = some (r1, r2, r3, r4, r5, r6, r7, r8, r9) := by rw [if_pos rfl] at H; exact H
            clear H
            have H := H1
            clear H1
            replace H := Option.bind_eq_some_iff.mp H
            obtain ⟨⟨t55017, t55018⟩, A350, H⟩ := H
            replace H : ((spec_reader_pick.f kj25 s0_0 t55018 256).bind fun bt55019 => (if 0 ≤ t55017 then (if t55017 < (x55015003_1.length : Int) then (spec_twoImages.l0 kj25 (wrap64 (x6_1 - 1)) s0_0 bt55019.2 t55003 t55004 t55005 x55011003_1 t55003 t55004 t55005 (x55015003_1.set (t55017 : Int).toNat bt55019.1)) else (none)) else (none))) = some (r1, r2, r3, r4, r5, r6, r7, r8, r9) := H
            have A35 := Aside0.mk A350
            clear A350
            replace H := Option.bind_eq_some_iff.mp H
            obtain ⟨⟨t55019, t55020⟩, A360, H⟩ := H
            replace H : (if 0 ≤ t55017 then (if t55017 < (x55015003_1.length : Int) then (spec_twoImages.l0 kj25 (wrap64 (x6_1 - 1)) s0_0 t55020 t55003 t55004 t55005 x55011003_1 t55003 t55004 t55005 (x55015003_1.set (t55017 : Int).toNat t55019)) else (none)) else (none)) = some (r1, r2, r3, r4, r5, r6, r7, r8, r9) := H
            have A36 := Aside0.mk A360
            clear A360
            by_cases c37 : 0 ≤ t55017
            · rw [if_pos c37] at H
              have c37b0 : decide (0 ≤ t55017) = true := decide_eq_true c37
              clear c37
              by_cases c38 : t55017 < (x55015003_1.length : Int)
              · rw [if_pos c38] at H
                have c38b0 : decide (t55017 < (x55015003_1.length : Int)) = true := decide_eq_true c38
                clear c38
                obtain ⟨y55021, hy55021⟩ : ∃ y_ : List Int, y_ = (x55015003_1.set (t55017 : Int).toNat t55019) := ⟨_, rfl⟩
                replace H : (spec_twoImages.l0 kj25 (wrap64 (x6_1 - 1)) s0_0 t55020 t55003 t55004 t55005 x55011003_1 t55003 t55004 t55005 y55021) = some (r1, r2, r3, r4, r5, r6, r7, r8, r9) := by first | (rw [hy55021]; with_reducible exact H) | (have H2_ := (Option.bind_some _ _).symm.trans H; rw [hy55021]; with_reducible exact H2_) | (have H2_ := (Option.bind_some _ _).symm.trans H; with_reducible exact H2_) | with_reducible exact H | (rw [hy55021]; exact H) | exact H
                have Ny55021 := Aside0.mk hy55021
                clear hy55021
                have H' := Aside0.mk H
                clear H
                try go_wp2
                have n0_ := Aside0.mk (Kd.Q_drew HO_55011003.out)
                have n1_ := Aside0.mk (Kd.Q_drew HO_55015003.out)
                have n2_ := Aside0.mk (blk_drew BK55001.out)
                have n3_ := Aside0.mk (blk_drew BK55002.out)
                have n4_ := Aside0.mk (blk_drew BK55010.out)
                have n5_ := Aside0.mk (blk_drew BK55014.out)
                have n6_ := Aside0.mk (IsS100.drew HI0.out)
                have n7_ := Aside0.mk (keep_drew HK.out)
                have n8_ := Aside0.mk (below_drew1 HB.out)
                clear HO_55011003
                clear HO_55015003
                clear BK55001
                clear BK55002
                clear BK55010
                clear BK55014
                clear HI0
                clear HK
                clear HB
                have HO_55011003 := n0_
                have HO_55015003 := n1_
                have BK55001 := n2_
                have BK55002 := n3_
                have BK55010 := n4_
                have BK55014 := n5_
                have HI0 := n6_
                have HK := n7_
                have HB := n8_
                clear n0_ n1_ n2_ n3_ n4_ n5_ n6_ n7_ n8_
                obtain ⟨Ao41, co41, eo41, _⟩ := Kd.Q_slice HO_55015003.out
                (first | subst eo41 | (injection eo41 with f1_ f2_ f3_; have f4_ := f1_.symm; have f5_ := f3_.symm; clear f1_ f2_ f3_; subst f4_; subst f5_))
                refine start_ (n := 11) (S := fun w' => w'.cell? ⟨gb55014, 0, none⟩ = some (.int .i64 t55003) ∧ w'.cell? ⟨gb55014, 1, none⟩ = some (.int .i64 t55004) ∧ w'.cell? ⟨gb55014, 2, none⟩ = some (.int .i64 t55005) ∧ w'.cell? ⟨gb55014, 3, none⟩ = some (.slice Ao41 x55015003_1.length co41)) (ds := [10]) #[false, false, false, false, false, false, false, false, false, false, false] (by kernel_rfl) rfl rfl ⟨(blk_cell BK55014.out 0).trans rfl, (blk_cell BK55014.out 1).trans rfl, (blk_cell BK55014.out 2).trans rfl, (blk_cell BK55014.out 3).trans rfl⟩ (fun hHeld => ?_); refine with_tabW spec_twoImages.tab6 spec_twoImages.bits6 (fun HT_ HW_ => ?_)
                generalize wc.drew = w40 at HO_55011003 HO_55015003 BK55001 BK55002 BK55010 BK55014 HI0 HK HB hHeld ⊢
                refine pure_ (i := 0) (N := some 31) (v := ?_) (a' := ?_) #[true, false, false, false, false, false, false, false, false, false, false] rfl rfl (any_of HT_.out (by kernel_rfl)) (fun _ _ _ h => h) (Or.inl ⟨by rfl, ?_⟩) ?_ ?_
                rotate_left
                · intro w'
                  go_simp
                  with_reducible rfl
                rotate_left
                · simp only [Act.put, List.setIfInBounds_toArray, List.set_cons_zero, List.set_cons_succ, i64_w, i32_w]
                  rfl
                refine pure_ (i := 2) (N := some 33) (v := ?_) (a' := ?_) #[true, false, true, false, false, false, false, false, false, false, false] rfl rfl (any_of HT_.out (by kernel_rfl)) (fun _ _ _ h => h) (Or.inl ⟨by rfl, ?_⟩) ?_ ?_
                rotate_left
                · intro w'
                  go_simp
                  with_reducible rfl
                rotate_left
                · simp only [Act.put, List.setIfInBounds_toArray, List.set_cons_zero, List.set_cons_succ, i64_w, i32_w]
                  rfl
                refine pure_ (i := 3) (N := some 34) (v := ?_) (a' := ?_) #[true, false, true, true, false, false, false, false, false, false, false] rfl rfl (any_of HT_.out (by kernel_rfl)) (fun _ _ _ h => h) (Or.inl ⟨by rfl, ?_⟩) ?_ ?_
                rotate_left
                · intro w'
                  go_simp
                  with_reducible rfl
                rotate_left
                · simp only [Act.put, List.setIfInBounds_toArray, List.set_cons_zero, List.set_cons_succ, i64_w, i32_w]
                  rfl
                refine pure_ (i := 7) (N := some 38) (v := ?_) (a' := ?_) #[true, false, true, true, false, false, false, true, false, false, false] rfl rfl (any_of HT_.out (by kernel_rfl)) (fun _ _ _ h => h) (Or.inl ⟨by rfl, ?_⟩) ?_ ?_
                rotate_left
                · intro w'
                  go_simp
                  with_reducible rfl
                rotate_left
                · simp only [Act.put, List.setIfInBounds_toArray, List.set_cons_zero, List.set_cons_succ, i64_w, i32_w]
                  rfl
                refine take_ (i := 1) (N := some 32) (v := ?_) (a' := ?_) #[true, true, true, true, false, false, false, true, false, false, false] rfl rfl (take_ofW HT_.out HW_.out (by kernel_rfl)) (fun _ _ _ h => h) (Or.inl ⟨by rfl, ?_⟩) hHeld ?_ ?_
                rotate_left
                · rintro w' ⟨s0, s1, s2, s3⟩
                  go_simp
                  with_reducible rfl
                rotate_left
                · simp only [Act.put, List.setIfInBounds_toArray, List.set_cons_zero, List.set_cons_succ, i64_w, i32_w]
                  rfl
                refine take_ (i := 4) (N := some 35) (v := ?_) (a' := ?_) #[true, true, true, true, true, false, false, true, false, false, false] rfl rfl (take_ofW HT_.out HW_.out (by kernel_rfl)) (fun _ _ _ h => h) (Or.inl ⟨by rfl, ?_⟩) hHeld ?_ ?_
                rotate_left
                · rintro w' ⟨s0, s1, s2, s3⟩
                  go_simp
                  with_reducible rfl
                rotate_left
                · simp only [Act.put, List.setIfInBounds_toArray, List.set_cons_zero, List.set_cons_succ, i64_w, i32_w]
                  rfl
                refine pure_ (i := 5) (N := some 36) (v := ?_) (a' := ?_) #[true, true, true, true, true, true, false, true, false, false, false] rfl rfl (any_of HT_.out (by kernel_rfl)) (fun _ _ _ h => h) (Or.inl ⟨by rfl, ?_⟩) ?_ ?_
                rotate_left
                · intro w'
                  go_simp
                  with_reducible rfl
                rotate_left
                · simp only [Act.put, List.setIfInBounds_toArray, List.set_cons_zero, List.set_cons_succ, i64_w, i32_w]
                  rfl
                refine one_ (i := 6) (N := some 37) #[true, true, true, true, true, true, true, true, false, false, false] rfl rfl (one_of HT_.out (by kernel_rfl)) (by decide) (fun K hK => ?_)
                refine goes_ Try.func82 (by kernel_rfl) rfl #[.pointer (some ⟨g, 0, none⟩), .int .i64 (x55015003_1.length : Int)] (by rfl) rfl rfl (by (try simp only [List.map_toArray, List.map_cons, List.map_nil]); first | done | rfl | (simp only [List.length_drop, List.length_take]; rfl)) ?_
                with_reducible refine (spec_reader_pick.calls kj25 g s0_0 x1001_1 (x55015003_1.length : Int) t55017 t55018 w0 _ ?side1 ?side2 A35.out).mono ?_
                (case side1 => repeat (first | (with_reducible first | exact HI0.out | apply IsS100.alloc | apply IsS100.drewN | apply IsS100.drew | apply IsS100.set_1 | refine IsS100.far ?_ NB0_55001.out _ | refine IsS100.far ?_ NB0_55002.out _ | refine IsS100.far ?_ NB0_55010.out _ | refine IsS100.far ?_ NB0_55014.out _) | exact HI0.out))
                (case side2 => repeat (first | (with_reducible first | exact HB.out | apply below_alloc | apply pw_below_drewN | apply below_drew1 | refine below_set ?_ (IsS100.ge HI0.out) | refine below_set ?_ GE55001.out | refine below_set ?_ GE55002.out | refine below_set ?_ GE55010.out | refine below_set ?_ GE55014.out) | exact HB.out))
                rintro e w42 ⟨rfl, hi, hb, hk⟩
                refine ⟨_, rfl, ?_⟩
                have n0_ := Aside0.mk (Kd.Q_mono (Kd.Q_keep (IsS100.apartQ (show IsS100 w0 _ g s0_0 x1001_1 from by repeat (first | (with_reducible first | exact HI0.out | apply IsS100.alloc | apply IsS100.drewN | apply IsS100.drew | apply IsS100.set_1 | refine IsS100.far ?_ NB0_55001.out _ | refine IsS100.far ?_ NB0_55002.out _ | refine IsS100.far ?_ NB0_55010.out _ | refine IsS100.far ?_ NB0_55014.out _) | exact HI0.out)) (by (with_reducible repeat (first | apply Kd.Q_alloc | apply Kd.Q_drewN | apply Kd.Q_drew)); exact HO_55011003.out) (by decide)) hk (fun _ h => h.2)) (fun _ h => h.1))
                have n1_ := Aside0.mk (Kd.Q_mono (Kd.Q_keep (IsS100.apartQ (show IsS100 w0 _ g s0_0 x1001_1 from by repeat (first | (with_reducible first | exact HI0.out | apply IsS100.alloc | apply IsS100.drewN | apply IsS100.drew | apply IsS100.set_1 | refine IsS100.far ?_ NB0_55001.out _ | refine IsS100.far ?_ NB0_55002.out _ | refine IsS100.far ?_ NB0_55010.out _ | refine IsS100.far ?_ NB0_55014.out _) | exact HI0.out)) (by (with_reducible repeat (first | apply Kd.Q_alloc | apply Kd.Q_drewN | apply Kd.Q_drew)); exact HO_55015003.out) (by decide)) hk (fun _ h => h.2)) (fun _ h => h.1))
                have n2_ := Aside0.mk (KeepBut.blk hk (g' := gb55001) (o := .cells #[.int .i64 0, .int .i64 0, .int .i64 0, .slice none 0 0] 28 (0, 0)) (by (with_reducible repeat (first | refine blk_drewN ?_ _ | refine blk_drew ?_ | refine blk_alloc ?_ _)); exact BK55001.out) NB55001_0.out (by simp))
                have n3_ := Aside0.mk (KeepBut.blk hk (g' := gb55002) (o := .cells #[.int .i64 0, .int .i64 0, .int .i64 0, .slice none 0 0] 28 (0, 0)) (by (with_reducible repeat (first | refine blk_drewN ?_ _ | refine blk_drew ?_ | refine blk_alloc ?_ _)); exact BK55002.out) NB55002_0.out (by simp))
                have n4_ := Aside0.mk (KeepBut.blk hk (g' := gb55010) (o := .cells #[.int .i64 t55003, .int .i64 t55004, .int .i64 t55005, u55011003] 28 (0, 0)) (by (with_reducible repeat (first | refine blk_drewN ?_ _ | refine blk_drew ?_ | refine blk_alloc ?_ _)); exact BK55010.out) NB55010_0.out (by simp))
                have n5_ := Aside0.mk (KeepBut.blk hk (g' := gb55014) (o := .cells #[.int .i64 t55003, .int .i64 t55004, .int .i64 t55005, .slice Ao41 x55015003_1.length co41] 28 (0, 0)) (by (with_reducible repeat (first | refine blk_drewN ?_ _ | refine blk_drew ?_ | refine blk_alloc ?_ _)); exact BK55014.out) NB55014_0.out (by simp))
                have n6_ := Aside0.mk (KeepBut.trans (by repeat (first | (with_reducible first | exact HK.out | apply KeepBut.set_ | apply keep_drewN | apply keep_drew | apply keep_alloc | refine keep_far ?_ GW55001.out _ | refine keep_far ?_ GW55002.out _ | refine keep_far ?_ GW55010.out _ | refine keep_far ?_ GW55014.out _) | exact HK.out)) hk (.inl rfl))
                have n7_ := Aside0.mk (hb)
                have n8_ := Aside0.mk (hi)
                clear HO_55011003
                clear HO_55015003
                clear BK55001
                clear BK55002
                clear BK55010
                clear BK55014
                clear HK
                clear HB
                clear HI0
                have HO_55011003 := n0_
                have HO_55015003 := n1_
                have BK55001 := n2_
                have BK55002 := n3_
                have BK55010 := n4_
                have BK55014 := n5_
                have HK := n6_
                have HB := n7_
                have HI0 := n8_
                clear n0_ n1_ n2_ n3_ n4_ n5_ n6_ n7_ n8_
                (try clear hb)
                (try clear hb2)
                (try clear hk)
                (try clear hi)
                refine hK.out _ _ ⟨(blk_cell BK55014.out 0).trans rfl, (blk_cell BK55014.out 1).trans rfl, (blk_cell BK55014.out 2).trans rfl, (blk_cell BK55014.out 3).trans rfl⟩ (fun hHeld => ?_)
                clear hK K
                refine norm_ (a' := ?_) ?_ ?_
                rotate_left
                · show Act.put _ (some 37) _ = _
                  simp only [Act.put, List.setIfInBounds_toArray, List.set_cons_zero, List.set_cons_succ, i64_w, i32_w]
                  rfl
                refine one_ (i := 8) (N := some 39) #[true, true, true, true, true, true, true, true, true, false, false] rfl rfl (one_of HT_.out (by kernel_rfl)) (by decide) (fun K hK => ?_)
                refine goes_ Try.func82 (by kernel_rfl) rfl #[.pointer (some ⟨g, 0, none⟩), .int .i64 256] (by rfl) rfl rfl (by (try simp only [List.map_toArray, List.map_cons, List.map_nil]); first | done | rfl | (simp only [List.length_drop, List.length_take]; rfl)) ?_
                with_reducible refine (spec_reader_pick.calls kj25 g s0_0 t55018 256 t55019 t55020 w0 _ ?side1 ?side2 A36.out).mono ?_
                (case side1 => repeat (first | (with_reducible first | exact HI0.out | apply IsS100.alloc | apply IsS100.drewN | apply IsS100.drew | apply IsS100.set_1 | refine IsS100.far ?_ NB0_55001.out _ | refine IsS100.far ?_ NB0_55002.out _ | refine IsS100.far ?_ NB0_55010.out _ | refine IsS100.far ?_ NB0_55014.out _) | exact HI0.out))
                (case side2 => repeat (first | (with_reducible first | exact HB.out | apply below_alloc | apply pw_below_drewN | apply below_drew1 | refine below_set ?_ (IsS100.ge HI0.out) | refine below_set ?_ GE55001.out | refine below_set ?_ GE55002.out | refine below_set ?_ GE55010.out | refine below_set ?_ GE55014.out) | exact HB.out))
                rintro e w43 ⟨rfl, hi, hb, hk⟩
                refine ⟨_, rfl, ?_⟩
                have n0_ := Aside0.mk (Kd.Q_mono (Kd.Q_keep (IsS100.apartQ (show IsS100 w0 _ g s0_0 t55018 from by repeat (first | (with_reducible first | exact HI0.out | apply IsS100.alloc | apply IsS100.drewN | apply IsS100.drew | apply IsS100.set_1 | refine IsS100.far ?_ NB0_55001.out _ | refine IsS100.far ?_ NB0_55002.out _ | refine IsS100.far ?_ NB0_55010.out _ | refine IsS100.far ?_ NB0_55014.out _) | exact HI0.out)) (by (with_reducible repeat (first | apply Kd.Q_alloc | apply Kd.Q_drewN | apply Kd.Q_drew)); exact HO_55011003.out) (by decide)) hk (fun _ h => h.2)) (fun _ h => h.1))
                have n1_ := Aside0.mk (Kd.Q_mono (Kd.Q_keep (IsS100.apartQ (show IsS100 w0 _ g s0_0 t55018 from by repeat (first | (with_reducible first | exact HI0.out | apply IsS100.alloc | apply IsS100.drewN | apply IsS100.drew | apply IsS100.set_1 | refine IsS100.far ?_ NB0_55001.out _ | refine IsS100.far ?_ NB0_55002.out _ | refine IsS100.far ?_ NB0_55010.out _ | refine IsS100.far ?_ NB0_55014.out _) | exact HI0.out)) (by (with_reducible repeat (first | apply Kd.Q_alloc | apply Kd.Q_drewN | apply Kd.Q_drew)); exact HO_55015003.out) (by decide)) hk (fun _ h => h.2)) (fun _ h => h.1))
                have n2_ := Aside0.mk (KeepBut.blk hk (g' := gb55001) (o := .cells #[.int .i64 0, .int .i64 0, .int .i64 0, .slice none 0 0] 28 (0, 0)) (by (with_reducible repeat (first | refine blk_drewN ?_ _ | refine blk_drew ?_ | refine blk_alloc ?_ _)); exact BK55001.out) NB55001_0.out (by simp))
                have n3_ := Aside0.mk (KeepBut.blk hk (g' := gb55002) (o := .cells #[.int .i64 0, .int .i64 0, .int .i64 0, .slice none 0 0] 28 (0, 0)) (by (with_reducible repeat (first | refine blk_drewN ?_ _ | refine blk_drew ?_ | refine blk_alloc ?_ _)); exact BK55002.out) NB55002_0.out (by simp))
                have n4_ := Aside0.mk (KeepBut.blk hk (g' := gb55010) (o := .cells #[.int .i64 t55003, .int .i64 t55004, .int .i64 t55005, u55011003] 28 (0, 0)) (by (with_reducible repeat (first | refine blk_drewN ?_ _ | refine blk_drew ?_ | refine blk_alloc ?_ _)); exact BK55010.out) NB55010_0.out (by simp))
                have n5_ := Aside0.mk (KeepBut.blk hk (g' := gb55014) (o := .cells #[.int .i64 t55003, .int .i64 t55004, .int .i64 t55005, .slice Ao41 x55015003_1.length co41] 28 (0, 0)) (by (with_reducible repeat (first | refine blk_drewN ?_ _ | refine blk_drew ?_ | refine blk_alloc ?_ _)); exact BK55014.out) NB55014_0.out (by simp))
                have n6_ := Aside0.mk (KeepBut.trans (by repeat (first | (with_reducible first | exact HK.out | apply KeepBut.set_ | apply keep_drewN | apply keep_drew | apply keep_alloc | refine keep_far ?_ GW55001.out _ | refine keep_far ?_ GW55002.out _ | refine keep_far ?_ GW55010.out _ | refine keep_far ?_ GW55014.out _) | exact HK.out)) hk (.inl rfl))
                have n7_ := Aside0.mk (hb)
                have n8_ := Aside0.mk (hi)
                clear HO_55011003
                clear HO_55015003
                clear BK55001
                clear BK55002
                clear BK55010
                clear BK55014
                clear HK
                clear HB
                clear HI0
                have HO_55011003 := n0_
                have HO_55015003 := n1_
                have BK55001 := n2_
                have BK55002 := n3_
                have BK55010 := n4_
                have BK55014 := n5_
                have HK := n6_
                have HB := n7_
                have HI0 := n8_
                clear n0_ n1_ n2_ n3_ n4_ n5_ n6_ n7_ n8_
                (try clear hb)
                (try clear hb2)
                (try clear hk)
                (try clear hi)
                have p39 : 0 ≤ (t55017 : Int) := of_decide_eq_true (by first | (with_reducible assumption) | assumption)
                have q39 : (t55017 : Int) < ((x55015003_1.length : Int) : Int) := of_decide_eq_true (by first | (with_reducible assumption) | assumption)
                obtain ⟨go39, oo39, co39, eo39, gb39, gl39, cl39, HG39⟩ := Kd.Q_form HO_55015003.out (by omega)
                (first | cases eo39 | (injection eo39 with ea_ en_ ec_; (first | subst ea_ | (injection ea_ with ea_; subst ea_)); subst ec_; clear en_))
                have GB39 := Aside0.mk gb39
                have GG39 := Aside0.mk HG39
                clear gb39 gl39 HG39
                obtain ⟨hx39_0, hf39_0⟩ := Kd.Q_cell 0 HO_55015003.out (t55017 : Int) p39 q39
                replace p39 := eq_true p39
                replace q39 := eq_true q39
                have HN0_go39 := Aside0.mk (show g ≠ go39 from by have h_ := IsS100.own_neQ HI0.out HO_55015003.out (by decide); intro e_; exact h_ (by rw [e_]; rfl))
                have HP44 := (Kd.Q_putg HO_55015003.out (t55017 : Int) (of_decide_eq_true (by first | (with_reducible assumption) | assumption)) (by have h_ : (t55017 : Int) < ((x55015003_1.length : Int) : Int) := of_decide_eq_true (by first | (with_reducible assumption) | assumption); first | exact h_ | (have e_ := (Kd.Q_reads' HO_55015003.out).1; omega) | simpa using h_) t55019).1
                rw [← Ny55021.out] at HP44
                have HQ44 := Aside0.mk HP44
                clear HP44
                refine hK.out _ _ ⟨(blk_cell BK55014.out 0).trans rfl, (blk_cell BK55014.out 1).trans rfl, (blk_cell BK55014.out 2).trans rfl, (blk_cell BK55014.out 3).trans rfl⟩ (fun hHeld => ?_)
                clear hK K
                refine norm_ (a' := ?_) ?_ ?_
                rotate_left
                · show Act.put _ (some 39) _ = _
                  simp only [Act.put, List.setIfInBounds_toArray, List.set_cons_zero, List.set_cons_succ, i64_w, i32_w]
                  rfl
                refine pure_ (i := 9) (N := some 40) (v := ?_) (a' := ?_) #[true, true, true, true, true, true, true, true, true, true, false] rfl rfl (any_of HT_.out (by kernel_rfl)) (fun _ _ _ h => h) (Or.inl ⟨by rfl, ?_⟩) ?_ ?_
                rotate_left
                · intro w'
                  go_simp
                  with_reducible rfl
                rotate_left
                · simp only [Act.put, List.setIfInBounds_toArray, List.set_cons_zero, List.set_cons_succ, i64_w, i32_w]
                  rfl
                refine last_ (i := 10) (N := none) #[true, true, true, true, true, true, true, true, true, true, true] rfl rfl (one_of HT_.out (by kernel_rfl)) (by decide) (fun K hK => ?_)
                refine skip_ (w1 := ?_) (by rfl) rfl ?_ ?_
                rotate_left
                · go_simp
                  rfl
                refine hK.out _ _ ?_
                clear hK K
                refine done_ (done_of HT_.out (by kernel_rfl)) ?_
                try go_wp2
                go_roundg kj25
                case measure => have := HK1.out; have := HJ25.out; omega
                case rel => exact ⟨(wrap64 (x6_1 - 1)), (t55020), (x55011003_1), (y55021), (u55011003), (.slice (some ⟨go39, oo39, none⟩) x55015003_1.length co41), (by first | rfl | (simp; done) | (simp [*]; done)), H', ⟨by have := HK1.out; have := HJ25.out; omega⟩, ⟨by (with_reducible repeat (first | apply Kd.Q_alloc | apply Kd.Q_drewN | apply Kd.Q_drew)); exact Kd.Q_mono (Kd.Q_far (p := ⟨go39, oo39 + (t55017 : Int).toNat, none⟩) (Kd.Q_mono HO_55011003.out (fun k_ hk => (⟨hk, fun e_ => hk (by rw [e_]; rfl)⟩ : _ ∧ k_ ≠ go39))) (fun _ hk => hk.2) (.int .i64 t55019)) (fun _ hk => hk.1)⟩, ⟨by (with_reducible repeat (first | apply Kd.Q_alloc | apply Kd.Q_drewN | apply Kd.Q_drew)); exact HQ44.out⟩, ⟨by (with_reducible repeat (first | refine blk_drewN ?_ _ | refine blk_drew ?_ | refine blk_alloc ?_ _)); refine blk_far ?_ (by have h_ := Kd.Q_ne HO_55015003.out BK55001.out (by decide); intro e_; exact h_ (by rw [e_]; rfl)) _; (with_reducible repeat (first | refine blk_drewN ?_ _ | refine blk_drew ?_ | refine blk_alloc ?_ _)); exact BK55001.out⟩, ⟨by (with_reducible repeat (first | refine blk_drewN ?_ _ | refine blk_drew ?_ | refine blk_alloc ?_ _)); refine blk_far ?_ (by have h_ := Kd.Q_ne HO_55015003.out BK55002.out (by decide); intro e_; exact h_ (by rw [e_]; rfl)) _; (with_reducible repeat (first | refine blk_drewN ?_ _ | refine blk_drew ?_ | refine blk_alloc ?_ _)); exact BK55002.out⟩, ⟨by (with_reducible repeat (first | refine blk_drewN ?_ _ | refine blk_drew ?_ | refine blk_alloc ?_ _)); refine blk_far ?_ (by have h_ := Kd.Q_ne HO_55015003.out BK55010.out (by decide); intro e_; exact h_ (by rw [e_]; rfl)) _; (with_reducible repeat (first | refine blk_drewN ?_ _ | refine blk_drew ?_ | refine blk_alloc ?_ _)); exact BK55010.out⟩, ⟨by (with_reducible repeat (first | refine blk_drewN ?_ _ | refine blk_drew ?_ | refine blk_alloc ?_ _)); refine blk_far ?_ (by have h_ := Kd.Q_ne HO_55015003.out BK55014.out (by decide); intro e_; exact h_ (by rw [e_]; rfl)) _; (with_reducible repeat (first | refine blk_drewN ?_ _ | refine blk_drew ?_ | refine blk_alloc ?_ _)); exact BK55014.out⟩, ⟨by repeat (first | (with_reducible first | exact HI0.out | apply IsS100.alloc | apply IsS100.drewN | apply IsS100.drew | apply IsS100.set_1 | refine IsS100.far ?_ HN0_go39.out _ | refine IsS100.far ?_ NB0_55001.out _ | refine IsS100.far ?_ NB0_55002.out _ | refine IsS100.far ?_ NB0_55010.out _ | refine IsS100.far ?_ NB0_55014.out _) | exact HI0.out)⟩, ⟨by repeat (first | (with_reducible first | exact HK.out | apply KeepBut.set_ | apply keep_drewN | apply keep_drew | apply keep_alloc | refine keep_far ?_ GB39.out _ | refine keep_far ?_ GW55001.out _ | refine keep_far ?_ GW55002.out _ | refine keep_far ?_ GW55010.out _ | refine keep_far ?_ GW55014.out _) | exact HK.out)⟩, ⟨by repeat (first | (with_reducible first | exact HB.out | apply below_alloc | apply pw_below_drewN | apply below_drew1 | refine below_set ?_ (Nat.le_trans HL.out GB39.out) | refine below_set ?_ (IsS100.ge HI0.out) | refine below_set ?_ GE55001.out | refine below_set ?_ GE55002.out | refine below_set ?_ GE55010.out | refine below_set ?_ GE55014.out) | exact HB.out)⟩⟩
              · rw [if_neg c38] at H
                exact absurd H (by simp)
            · rw [if_neg c37] at H
              exact absurd H (by simp)
          · replace c34 := Bool.eq_false_iff.mpr c34
            subst c34
            have H1 : ((spec_reader_pick.f kj25 s0_0 x1001_1 16).bind fun bt55022 => (if bt55022.1 = 0 then ((spec_anyImage.f kj25 s0_0 bt55022.2).bind fun bt55024 => (some (t55003, t55004, t55005, x55011003_1, bt55024.1, bt55024.2.1, bt55024.2.2.1, bt55024.2.2.2.1, bt55024.2.2.2.2))) else (some (t55003, t55004, t55005, x55011003_1, t55003, t55004, t55005, x55015003_1, bt55022.2)))) = some (r1, r2, r3, r4, r5, r6, r7, r8, r9) := by rw [if_neg (show ¬ (false = true) by decide)] at H; exact H
            clear H
            have H := H1
            clear H1
            replace H := Option.bind_eq_some_iff.mp H
            obtain ⟨⟨t55022, t55023⟩, A450, H⟩ := H
            replace H : (if t55022 = 0 then ((spec_anyImage.f kj25 s0_0 t55023).bind fun bt55024 => (some (t55003, t55004, t55005, x55011003_1, bt55024.1, bt55024.2.1, bt55024.2.2.1, bt55024.2.2.2.1, bt55024.2.2.2.2))) else (some (t55003, t55004, t55005, x55011003_1, t55003, t55004, t55005, x55015003_1, t55023))) = some (r1, r2, r3, r4, r5, r6, r7, r8, r9) := H
            have A45 := Aside0.mk A450
            clear A450
            by_cases c46 : t55022 = 0
            · rw [if_pos c46] at H
              have c46b0 : (t55022 == 0) = true := beq_iff_eq.mpr c46
              have c46b1 : (t55022 != 0) = false := bne_eq_false_iff_eq.mpr c46
              clear c46
              replace H := Option.bind_eq_some_iff.mp H
              obtain ⟨⟨t55024, t55025, t55026, t55027, t55030⟩, A470, H⟩ := H
              replace H : (some (t55003, t55004, t55005, x55011003_1, t55024, t55025, t55026, t55027, t55030)) = some (r1, r2, r3, r4, r5, r6, r7, r8, r9) := H
              have A47 := Aside0.mk A470
              clear A470
              simp only [Option.some.injEq, Prod.mk.injEq] at H
              obtain ⟨rfl, rfl, rfl, rfl, rfl, rfl, rfl, rfl, rfl⟩ := H
              try go_wp2_with (first | ((with_reducible refine gate_callee (f := 82) rfl ?_); refine goesL_ (some 42) rfl rfl Try.func82 (by kernel_rfl) rfl #[.pointer (some ⟨g, 0, none⟩), .int .i64 16] rfl (by (try simp only [List.map_toArray, List.map_cons, List.map_nil]); first | done | rfl | (simp only [List.length_drop, List.length_take]; rfl)) ?_; (with_reducible refine (spec_reader_pick.calls kj25 g s0_0 x1001_1 16 t55022 t55023 w0 _ ?side1 ?side2 A45.out).mono ?_); (case side1 => repeat (first | (with_reducible first | exact HI0.out | apply IsS100.alloc | apply IsS100.drewN | apply IsS100.drew | apply IsS100.set_1 | refine IsS100.far ?_ NB0_55001.out _ | refine IsS100.far ?_ NB0_55002.out _ | refine IsS100.far ?_ NB0_55010.out _ | refine IsS100.far ?_ NB0_55014.out _) | exact HI0.out)); (case side2 => repeat (first | (with_reducible first | exact HB.out | apply below_alloc | apply pw_below_drewN | apply below_drew1 | refine below_set ?_ (IsS100.ge HI0.out) | refine below_set ?_ GE55001.out | refine below_set ?_ GE55002.out | refine below_set ?_ GE55010.out | refine below_set ?_ GE55014.out) | exact HB.out)); rintro e w48 ⟨rfl, hi, hb, hk⟩; refine ⟨_, rfl, ?_⟩; have n0_ := Aside0.mk (Kd.Q_mono (Kd.Q_keep (IsS100.apartQ (show IsS100 w0 _ g s0_0 x1001_1 from by repeat (first | (with_reducible first | exact HI0.out | apply IsS100.alloc | apply IsS100.drewN | apply IsS100.drew | apply IsS100.set_1 | refine IsS100.far ?_ NB0_55001.out _ | refine IsS100.far ?_ NB0_55002.out _ | refine IsS100.far ?_ NB0_55010.out _ | refine IsS100.far ?_ NB0_55014.out _) | exact HI0.out)) (by (with_reducible repeat (first | apply Kd.Q_alloc | apply Kd.Q_drewN | apply Kd.Q_drew)); exact HO_55011003.out) (by decide)) hk (fun _ h => h.2)) (fun _ h => h.1)); have n1_ := Aside0.mk (Kd.Q_mono (Kd.Q_keep (IsS100.apartQ (show IsS100 w0 _ g s0_0 x1001_1 from by repeat (first | (with_reducible first | exact HI0.out | apply IsS100.alloc | apply IsS100.drewN | apply IsS100.drew | apply IsS100.set_1 | refine IsS100.far ?_ NB0_55001.out _ | refine IsS100.far ?_ NB0_55002.out _ | refine IsS100.far ?_ NB0_55010.out _ | refine IsS100.far ?_ NB0_55014.out _) | exact HI0.out)) (by (with_reducible repeat (first | apply Kd.Q_alloc | apply Kd.Q_drewN | apply Kd.Q_drew)); exact HO_55015003.out) (by decide)) hk (fun _ h => h.2)) (fun _ h => h.1)); have n2_ := Aside0.mk (KeepBut.blk hk (g' := gb55001) (o := .cells #[.int .i64 0, .int .i64 0, .int .i64 0, .slice none 0 0] 28 (0, 0)) (by (with_reducible repeat (first | refine blk_drewN ?_ _ | refine blk_drew ?_ | refine blk_alloc ?_ _)); exact BK55001.out) NB55001_0.out (by simp)); have n3_ := Aside0.mk (KeepBut.blk hk (g' := gb55002) (o := .cells #[.int .i64 0, .int .i64 0, .int .i64 0, .slice none 0 0] 28 (0, 0)) (by (with_reducible repeat (first | refine blk_drewN ?_ _ | refine blk_drew ?_ | refine blk_alloc ?_ _)); exact BK55002.out) NB55002_0.out (by simp)); have n4_ := Aside0.mk (KeepBut.blk hk (g' := gb55010) (o := .cells #[.int .i64 t55003, .int .i64 t55004, .int .i64 t55005, u55011003] 28 (0, 0)) (by (with_reducible repeat (first | refine blk_drewN ?_ _ | refine blk_drew ?_ | refine blk_alloc ?_ _)); exact BK55010.out) NB55010_0.out (by simp)); have n5_ := Aside0.mk (KeepBut.blk hk (g' := gb55014) (o := .cells #[.int .i64 t55003, .int .i64 t55004, .int .i64 t55005, u55015003] 28 (0, 0)) (by (with_reducible repeat (first | refine blk_drewN ?_ _ | refine blk_drew ?_ | refine blk_alloc ?_ _)); exact BK55014.out) NB55014_0.out (by simp)); have n6_ := Aside0.mk (KeepBut.trans (by repeat (first | (with_reducible first | exact HK.out | apply KeepBut.set_ | apply keep_drewN | apply keep_drew | apply keep_alloc | refine keep_far ?_ GW55001.out _ | refine keep_far ?_ GW55002.out _ | refine keep_far ?_ GW55010.out _ | refine keep_far ?_ GW55014.out _) | exact HK.out)) hk (.inl rfl)); have n7_ := Aside0.mk (hb); have n8_ := Aside0.mk (hi); clear HO_55011003; clear HO_55015003; clear BK55001; clear BK55002; clear BK55010; clear BK55014; clear HK; clear HB; clear HI0; have HO_55011003 := n0_; have HO_55015003 := n1_; have BK55001 := n2_; have BK55002 := n3_; have BK55010 := n4_; have BK55014 := n5_; have HK := n6_; have HB := n7_; have HI0 := n8_; clear n0_ n1_ n2_ n3_ n4_ n5_ n6_ n7_ n8_; (try clear hb); (try clear hb2); (try clear hk); (try clear hi)) | ((with_reducible refine gate_callee (f := 72) rfl ?_); refine goesL_ (some 45) rfl rfl Try.func72 (by kernel_rfl) rfl #[.pointer (some ⟨g, 0, none⟩)] rfl (by (try simp only [List.map_toArray, List.map_cons, List.map_nil]); first | done | rfl | (simp only [List.length_drop, List.length_take]; rfl)) ?_; (with_reducible refine (spec_anyImage.calls kj25 g s0_0 t55023 t55024 t55025 t55026 t55027 t55030 w0 _ ?side1 ?side2 A47.out).mono ?_); (case side1 => repeat (first | (with_reducible first | exact HI0.out | apply IsS100.alloc | apply IsS100.drewN | apply IsS100.drew | apply IsS100.set_1 | refine IsS100.far ?_ NB0_55001.out _ | refine IsS100.far ?_ NB0_55002.out _ | refine IsS100.far ?_ NB0_55010.out _ | refine IsS100.far ?_ NB0_55014.out _) | exact HI0.out)); (case side2 => repeat (first | (with_reducible first | exact HB.out | apply below_alloc | apply pw_below_drewN | apply below_drew1 | refine below_set ?_ (IsS100.ge HI0.out) | refine below_set ?_ GE55001.out | refine below_set ?_ GE55002.out | refine below_set ?_ GE55010.out | refine below_set ?_ GE55014.out) | exact HB.out)); rintro e w49 ⟨v55028, rfl, ho0, hi, hb, hk⟩; refine ⟨_, rfl, ?_⟩; have n0_ := Aside0.mk (Kd.Q_mono (Kd.Q_told (Kd.Q_oldK (IsS100.apartQ (show IsS100 w0 _ g s0_0 t55023 from by repeat (first | (with_reducible first | exact HI0.out | apply IsS100.alloc | apply IsS100.drewN | apply IsS100.drew | apply IsS100.set_1 | refine IsS100.far ?_ NB0_55001.out _ | refine IsS100.far ?_ NB0_55002.out _ | refine IsS100.far ?_ NB0_55010.out _ | refine IsS100.far ?_ NB0_55014.out _) | exact HI0.out)) (by (with_reducible repeat (first | apply Kd.Q_alloc | apply Kd.Q_drewN | apply Kd.Q_drew)); exact HO_55011003.out) (by decide)) hk) (Kd.Q_base ho0)) (fun _ h_ => h_.1)); have n1_ := Aside0.mk (Kd.Q_mono (Kd.Q_told (Kd.Q_oldK (IsS100.apartQ (show IsS100 w0 _ g s0_0 t55023 from by repeat (first | (with_reducible first | exact HI0.out | apply IsS100.alloc | apply IsS100.drewN | apply IsS100.drew | apply IsS100.set_1 | refine IsS100.far ?_ NB0_55001.out _ | refine IsS100.far ?_ NB0_55002.out _ | refine IsS100.far ?_ NB0_55010.out _ | refine IsS100.far ?_ NB0_55014.out _) | exact HI0.out)) (by (with_reducible repeat (first | apply Kd.Q_alloc | apply Kd.Q_drewN | apply Kd.Q_drew)); exact HO_55015003.out) (by decide)) hk) (Kd.Q_base ho0)) (fun _ h_ => h_.1)); have n2_ := Aside0.mk (KeepBut.blk hk (g' := gb55001) (o := .cells #[.int .i64 0, .int .i64 0, .int .i64 0, .slice none 0 0] 28 (0, 0)) (by (with_reducible repeat (first | refine blk_drewN ?_ _ | refine blk_drew ?_ | refine blk_alloc ?_ _)); exact BK55001.out) NB55001_0.out (by simp)); have n3_ := Aside0.mk (KeepBut.blk hk (g' := gb55002) (o := .cells #[.int .i64 0, .int .i64 0, .int .i64 0, .slice none 0 0] 28 (0, 0)) (by (with_reducible repeat (first | refine blk_drewN ?_ _ | refine blk_drew ?_ | refine blk_alloc ?_ _)); exact BK55002.out) NB55002_0.out (by simp)); have n4_ := Aside0.mk (KeepBut.blk hk (g' := gb55010) (o := .cells #[.int .i64 t55003, .int .i64 t55004, .int .i64 t55005, u55011003] 28 (0, 0)) (by (with_reducible repeat (first | refine blk_drewN ?_ _ | refine blk_drew ?_ | refine blk_alloc ?_ _)); exact BK55010.out) NB55010_0.out (by simp)); have n5_ := Aside0.mk (KeepBut.blk hk (g' := gb55014) (o := .cells #[.int .i64 t55003, .int .i64 t55004, .int .i64 t55005, u55015003] 28 (0, 0)) (by (with_reducible repeat (first | refine blk_drewN ?_ _ | refine blk_drew ?_ | refine blk_alloc ?_ _)); exact BK55014.out) NB55014_0.out (by simp)); have n6_ := Aside0.mk (Kd.Q_lower (Kd.Q_new' (Kd.Q_new' ho0 (Kd.Q_lt (by (with_reducible repeat (first | apply Kd.Q_alloc | apply Kd.Q_drewN | apply Kd.Q_drew)); exact HO_55011003.out))) (Kd.Q_lt (by (with_reducible repeat (first | apply Kd.Q_alloc | apply Kd.Q_drewN | apply Kd.Q_drew)); exact HO_55015003.out))) (keep_size (w := w) (g := g) (row := none) (by repeat (first | (with_reducible first | exact HK.out | apply KeepBut.set_ | apply keep_drewN | apply keep_drew | apply keep_alloc | refine keep_far ?_ GW55001.out _ | refine keep_far ?_ GW55002.out _ | refine keep_far ?_ GW55010.out _ | refine keep_far ?_ GW55014.out _) | exact HK.out)))); have n7_ := Aside0.mk (KeepBut.trans (by repeat (first | (with_reducible first | exact HK.out | apply KeepBut.set_ | apply keep_drewN | apply keep_drew | apply keep_alloc | refine keep_far ?_ GW55001.out _ | refine keep_far ?_ GW55002.out _ | refine keep_far ?_ GW55010.out _ | refine keep_far ?_ GW55014.out _) | exact HK.out)) hk (.inl rfl)); have n8_ := Aside0.mk (hb); have n9_ := Aside0.mk (hi); clear HO_55011003; clear HO_55015003; clear BK55001; clear BK55002; clear BK55010; clear BK55014; clear HK; clear HB; clear HI0; have HO_55011003 := n0_; have HO_55015003 := n1_; have BK55001 := n2_; have BK55002 := n3_; have BK55010 := n4_; have BK55014 := n5_; have HO55029 := n6_; have HK := n7_; have HB := n8_; have HI0 := n9_; clear n0_ n1_ n2_ n3_ n4_ n5_ n6_ n7_ n8_ n9_; (try clear hb); (try clear hb2); (try clear hk); (try clear hi); (try clear ho0); have hnb50 := NB55014_55001.out; have hnc50 := NB55001_55014.out; have hnb51 := NB55014_55002.out; have hnc51 := NB55002_55014.out; have hnb52 := NB55014_55010.out; have hnc52 := NB55010_55014.out; have hnb53 := NB55014_0.out; have hnc53 := NB0_55014.out; have hcz54_0 : w49.cell? ⟨gb55014, 0, none⟩ = some (.int .i64 t55003) := (blk_cell BK55014.out 0).trans rfl; have hcz54_1 : w49.cell? ⟨gb55014, 1, none⟩ = some (.int .i64 t55004) := (blk_cell BK55014.out 1).trans rfl; have hcz54_2 : w49.cell? ⟨gb55014, 2, none⟩ = some (.int .i64 t55005) := (blk_cell BK55014.out 2).trans rfl; have hcz54_3 : w49.cell? ⟨gb55014, 3, none⟩ = some (u55015003) := (blk_cell BK55014.out 3).trans rfl; have hfz54_0 := blk_frozen BK55014.out 0; have hfz54_1 := blk_frozen BK55014.out 1; have hfz54_2 := blk_frozen BK55014.out 2; have hfz54_3 := blk_frozen BK55014.out 3; obtain ⟨Ao55, co55, eo55, _⟩ := Kd.Q_slice HO55029.out; subst eo55))
              have n0_ : Aside0 (Kd.Q (Kd.int .i64) 3 ((((w49.setCell ⟨gb55014, 0, none⟩ (.int .i64 t55024)).setCell ⟨gb55014, 1, none⟩ (.int .i64 t55025)).setCell ⟨gb55014, 2, none⟩ (.int .i64 t55026)).setCell ⟨gb55014, 3, none⟩ (.slice Ao55 t55027.length co55)) w.heap.size (fun k_ => some k_ ≠ (u55015003 : Value).ownBlock ∧ some k_ ≠ (.slice Ao55 t55027.length co55 : Value).ownBlock) u55011003 x55011003_1) := ⟨by (with_reducible repeat (first | apply Kd.Q_alloc | apply Kd.Q_drewN | apply Kd.Q_drew)); exact Kd.Q_mono (Kd.Q_far (p := ⟨gb55014, 3, none⟩) (Kd.Q_far (p := ⟨gb55014, 2, none⟩) (Kd.Q_far (p := ⟨gb55014, 1, none⟩) (Kd.Q_far (p := ⟨gb55014, 0, none⟩) (Kd.Q_types HO_55011003.out BK55014.out (by decide)) (fun _ hk => hk.2) (.int .i64 t55024)) (fun _ hk => hk.2) (.int .i64 t55025)) (fun _ hk => hk.2) (.int .i64 t55026)) (fun _ hk => hk.2) (.slice Ao55 t55027.length co55)) (fun _ hk => ⟨hk.1.1, hk.1.2⟩)⟩
              have n1_ : Aside0 (Kd.Q (Kd.int .i64) 3 ((((w49.setCell ⟨gb55014, 0, none⟩ (.int .i64 t55024)).setCell ⟨gb55014, 1, none⟩ (.int .i64 t55025)).setCell ⟨gb55014, 2, none⟩ (.int .i64 t55026)).setCell ⟨gb55014, 3, none⟩ (.slice Ao55 t55027.length co55)) w.heap.size (fun k_ => some k_ ≠ (u55011003 : Value).ownBlock ∧ some k_ ≠ (.slice Ao55 t55027.length co55 : Value).ownBlock) u55015003 x55015003_1) := ⟨by (with_reducible repeat (first | apply Kd.Q_alloc | apply Kd.Q_drewN | apply Kd.Q_drew)); exact Kd.Q_mono (Kd.Q_far (p := ⟨gb55014, 3, none⟩) (Kd.Q_far (p := ⟨gb55014, 2, none⟩) (Kd.Q_far (p := ⟨gb55014, 1, none⟩) (Kd.Q_far (p := ⟨gb55014, 0, none⟩) (Kd.Q_types HO_55015003.out BK55014.out (by decide)) (fun _ hk => hk.2) (.int .i64 t55024)) (fun _ hk => hk.2) (.int .i64 t55025)) (fun _ hk => hk.2) (.int .i64 t55026)) (fun _ hk => hk.2) (.slice Ao55 t55027.length co55)) (fun _ hk => ⟨hk.1.1, hk.1.2⟩)⟩
              have n2_ : Aside0 (Kd.Q (Kd.int .i64) 3 ((((w49.setCell ⟨gb55014, 0, none⟩ (.int .i64 t55024)).setCell ⟨gb55014, 1, none⟩ (.int .i64 t55025)).setCell ⟨gb55014, 2, none⟩ (.int .i64 t55026)).setCell ⟨gb55014, 3, none⟩ (.slice Ao55 t55027.length co55)) w.heap.size (fun k_ => some k_ ≠ (u55011003 : Value).ownBlock ∧ some k_ ≠ (u55015003 : Value).ownBlock) (.slice Ao55 t55027.length co55) t55027) := ⟨by (with_reducible repeat (first | apply Kd.Q_alloc | apply Kd.Q_drewN | apply Kd.Q_drew)); exact Kd.Q_mono (Kd.Q_far (p := ⟨gb55014, 3, none⟩) (Kd.Q_far (p := ⟨gb55014, 2, none⟩) (Kd.Q_far (p := ⟨gb55014, 1, none⟩) (Kd.Q_far (p := ⟨gb55014, 0, none⟩) (Kd.Q_types HO55029.out BK55014.out (by decide)) (fun _ hk => hk.2) (.int .i64 t55024)) (fun _ hk => hk.2) (.int .i64 t55025)) (fun _ hk => hk.2) (.int .i64 t55026)) (fun _ hk => hk.2) (.slice Ao55 t55027.length co55)) (fun _ hk => ⟨hk.1.1.2, hk.1.2⟩)⟩
              have n3_ : Aside0 (((((w49.setCell ⟨gb55014, 0, none⟩ (.int .i64 t55024)).setCell ⟨gb55014, 1, none⟩ (.int .i64 t55025)).setCell ⟨gb55014, 2, none⟩ (.int .i64 t55026)).setCell ⟨gb55014, 3, none⟩ (.slice Ao55 t55027.length co55)).heap[gb55001]? = some (.cells #[.int .i64 0, .int .i64 0, .int .i64 0, .slice none 0 0] 28 (0, 0))) := ⟨by (with_reducible repeat (first | refine blk_drewN ?_ _ | refine blk_drew ?_ | refine blk_alloc ?_ _)); refine blk_far ?_ NB55001_55014.out _; (with_reducible repeat (first | refine blk_drewN ?_ _ | refine blk_drew ?_ | refine blk_alloc ?_ _)); refine blk_far ?_ NB55001_55014.out _; (with_reducible repeat (first | refine blk_drewN ?_ _ | refine blk_drew ?_ | refine blk_alloc ?_ _)); refine blk_far ?_ NB55001_55014.out _; (with_reducible repeat (first | refine blk_drewN ?_ _ | refine blk_drew ?_ | refine blk_alloc ?_ _)); refine blk_far ?_ NB55001_55014.out _; (with_reducible repeat (first | refine blk_drewN ?_ _ | refine blk_drew ?_ | refine blk_alloc ?_ _)); exact BK55001.out⟩
              have n4_ : Aside0 (((((w49.setCell ⟨gb55014, 0, none⟩ (.int .i64 t55024)).setCell ⟨gb55014, 1, none⟩ (.int .i64 t55025)).setCell ⟨gb55014, 2, none⟩ (.int .i64 t55026)).setCell ⟨gb55014, 3, none⟩ (.slice Ao55 t55027.length co55)).heap[gb55002]? = some (.cells #[.int .i64 0, .int .i64 0, .int .i64 0, .slice none 0 0] 28 (0, 0))) := ⟨by (with_reducible repeat (first | refine blk_drewN ?_ _ | refine blk_drew ?_ | refine blk_alloc ?_ _)); refine blk_far ?_ NB55002_55014.out _; (with_reducible repeat (first | refine blk_drewN ?_ _ | refine blk_drew ?_ | refine blk_alloc ?_ _)); refine blk_far ?_ NB55002_55014.out _; (with_reducible repeat (first | refine blk_drewN ?_ _ | refine blk_drew ?_ | refine blk_alloc ?_ _)); refine blk_far ?_ NB55002_55014.out _; (with_reducible repeat (first | refine blk_drewN ?_ _ | refine blk_drew ?_ | refine blk_alloc ?_ _)); refine blk_far ?_ NB55002_55014.out _; (with_reducible repeat (first | refine blk_drewN ?_ _ | refine blk_drew ?_ | refine blk_alloc ?_ _)); exact BK55002.out⟩
              have n5_ : Aside0 (((((w49.setCell ⟨gb55014, 0, none⟩ (.int .i64 t55024)).setCell ⟨gb55014, 1, none⟩ (.int .i64 t55025)).setCell ⟨gb55014, 2, none⟩ (.int .i64 t55026)).setCell ⟨gb55014, 3, none⟩ (.slice Ao55 t55027.length co55)).heap[gb55010]? = some (.cells #[.int .i64 t55003, .int .i64 t55004, .int .i64 t55005, u55011003] 28 (0, 0))) := ⟨by (with_reducible repeat (first | refine blk_drewN ?_ _ | refine blk_drew ?_ | refine blk_alloc ?_ _)); refine blk_far ?_ NB55010_55014.out _; (with_reducible repeat (first | refine blk_drewN ?_ _ | refine blk_drew ?_ | refine blk_alloc ?_ _)); refine blk_far ?_ NB55010_55014.out _; (with_reducible repeat (first | refine blk_drewN ?_ _ | refine blk_drew ?_ | refine blk_alloc ?_ _)); refine blk_far ?_ NB55010_55014.out _; (with_reducible repeat (first | refine blk_drewN ?_ _ | refine blk_drew ?_ | refine blk_alloc ?_ _)); refine blk_far ?_ NB55010_55014.out _; (with_reducible repeat (first | refine blk_drewN ?_ _ | refine blk_drew ?_ | refine blk_alloc ?_ _)); exact BK55010.out⟩
              have n6_ : Aside0 (((((w49.setCell ⟨gb55014, 0, none⟩ (.int .i64 t55024)).setCell ⟨gb55014, 1, none⟩ (.int .i64 t55025)).setCell ⟨gb55014, 2, none⟩ (.int .i64 t55026)).setCell ⟨gb55014, 3, none⟩ (.slice Ao55 t55027.length co55)).heap[gb55014]? = some (.cells #[.int .i64 t55024, .int .i64 t55025, .int .i64 t55026, .slice Ao55 t55027.length co55] 28 (0, 0))) := ⟨by (with_reducible repeat (first | refine blk_drewN ?_ _ | refine blk_drew ?_ | refine blk_alloc ?_ _)); refine blk_put (cs := #[.int .i64 t55024, .int .i64 t55025, .int .i64 t55026, u55015003]) ?_ 3 _ rfl; (with_reducible repeat (first | refine blk_drewN ?_ _ | refine blk_drew ?_ | refine blk_alloc ?_ _)); refine blk_put (cs := #[.int .i64 t55024, .int .i64 t55025, .int .i64 t55005, u55015003]) ?_ 2 _ rfl; (with_reducible repeat (first | refine blk_drewN ?_ _ | refine blk_drew ?_ | refine blk_alloc ?_ _)); refine blk_put (cs := #[.int .i64 t55024, .int .i64 t55004, .int .i64 t55005, u55015003]) ?_ 1 _ rfl; (with_reducible repeat (first | refine blk_drewN ?_ _ | refine blk_drew ?_ | refine blk_alloc ?_ _)); refine blk_put (cs := #[.int .i64 t55003, .int .i64 t55004, .int .i64 t55005, u55015003]) ?_ 0 _ rfl; (with_reducible repeat (first | refine blk_drewN ?_ _ | refine blk_drew ?_ | refine blk_alloc ?_ _)); exact BK55014.out⟩
              have n7_ : Aside0 (IsS100 w0 ((((w49.setCell ⟨gb55014, 0, none⟩ (.int .i64 t55024)).setCell ⟨gb55014, 1, none⟩ (.int .i64 t55025)).setCell ⟨gb55014, 2, none⟩ (.int .i64 t55026)).setCell ⟨gb55014, 3, none⟩ (.slice Ao55 t55027.length co55)) g s0_0 t55030) := ⟨by repeat (first | (with_reducible first | exact HI0.out | apply IsS100.alloc | apply IsS100.drewN | apply IsS100.drew | apply IsS100.set_1 | refine IsS100.far ?_ NB0_55001.out _ | refine IsS100.far ?_ NB0_55002.out _ | refine IsS100.far ?_ NB0_55010.out _ | refine IsS100.far ?_ NB0_55014.out _) | exact HI0.out)⟩
              have n8_ : Aside0 (KeepBut w ((((w49.setCell ⟨gb55014, 0, none⟩ (.int .i64 t55024)).setCell ⟨gb55014, 1, none⟩ (.int .i64 t55025)).setCell ⟨gb55014, 2, none⟩ (.int .i64 t55026)).setCell ⟨gb55014, 3, none⟩ (.slice Ao55 t55027.length co55)) g none) := ⟨by repeat (first | (with_reducible first | exact HK.out | apply KeepBut.set_ | apply keep_drewN | apply keep_drew | apply keep_alloc | refine keep_far ?_ GW55001.out _ | refine keep_far ?_ GW55002.out _ | refine keep_far ?_ GW55010.out _ | refine keep_far ?_ GW55014.out _) | exact HK.out)⟩
              have n9_ : Aside0 (Below w0.heap.size w0 ((((w49.setCell ⟨gb55014, 0, none⟩ (.int .i64 t55024)).setCell ⟨gb55014, 1, none⟩ (.int .i64 t55025)).setCell ⟨gb55014, 2, none⟩ (.int .i64 t55026)).setCell ⟨gb55014, 3, none⟩ (.slice Ao55 t55027.length co55))) := ⟨by repeat (first | (with_reducible first | exact HB.out | apply below_alloc | apply pw_below_drewN | apply below_drew1 | refine below_set ?_ (IsS100.ge HI0.out) | refine below_set ?_ GE55001.out | refine below_set ?_ GE55002.out | refine below_set ?_ GE55010.out | refine below_set ?_ GE55014.out) | exact HB.out)⟩
              (try clear HO_55011003)
              (try clear HO_55015003)
              (try clear HO55029)
              (try clear BK55001)
              (try clear BK55002)
              (try clear BK55010)
              (try clear BK55014)
              (try clear HI0)
              (try clear HK)
              (try clear HB)
              generalize ((((w49.setCell ⟨gb55014, 0, none⟩ (.int .i64 t55024)).setCell ⟨gb55014, 1, none⟩ (.int .i64 t55025)).setCell ⟨gb55014, 2, none⟩ (.int .i64 t55026)).setCell ⟨gb55014, 3, none⟩ (.slice Ao55 t55027.length co55)) = w56 at n0_ n1_ n2_ n3_ n4_ n5_ n6_ n7_ n8_ n9_ ⊢
              have HO_55011003 := n0_
              have HO_55015003 := n1_
              have HO55029 := n2_
              have BK55001 := n3_
              have BK55002 := n4_
              have BK55010 := n5_
              have BK55014 := n6_
              have HI0 := n7_
              have HK := n8_
              have HB := n9_
              clear n0_ n1_ n2_ n3_ n4_ n5_ n6_ n7_ n8_ n9_
              have n0_ := Aside0.mk (Kd.Q_drew HO_55011003.out)
              have n1_ := Aside0.mk (Kd.Q_drew HO_55015003.out)
              have n2_ := Aside0.mk (Kd.Q_drew HO55029.out)
              have n3_ := Aside0.mk (blk_drew BK55001.out)
              have n4_ := Aside0.mk (blk_drew BK55002.out)
              have n5_ := Aside0.mk (blk_drew BK55010.out)
              have n6_ := Aside0.mk (blk_drew BK55014.out)
              have n7_ := Aside0.mk (IsS100.drew HI0.out)
              have n8_ := Aside0.mk (keep_drew HK.out)
              have n9_ := Aside0.mk (below_drew1 HB.out)
              clear HO_55011003
              clear HO_55015003
              clear HO55029
              clear BK55001
              clear BK55002
              clear BK55010
              clear BK55014
              clear HI0
              clear HK
              clear HB
              have HO_55011003 := n0_
              have HO_55015003 := n1_
              have HO55029 := n2_
              have BK55001 := n3_
              have BK55002 := n4_
              have BK55010 := n5_
              have BK55014 := n6_
              have HI0 := n7_
              have HK := n8_
              have HB := n9_
              clear n0_ n1_ n2_ n3_ n4_ n5_ n6_ n7_ n8_ n9_
              obtain ⟨Ao61, co61, eo61, _⟩ := Kd.Q_slice HO_55011003.out
              (first | subst eo61 | (injection eo61 with f1_ f2_ f3_; have f4_ := f1_.symm; have f5_ := f3_.symm; clear f1_ f2_ f3_; subst f4_; subst f5_))
              refine start_ (n := 4) (S := fun w' => w'.cell? ⟨gb55010, 0, none⟩ = some (.int .i64 t55003) ∧ w'.cell? ⟨gb55010, 1, none⟩ = some (.int .i64 t55004) ∧ w'.cell? ⟨gb55010, 2, none⟩ = some (.int .i64 t55005) ∧ w'.cell? ⟨gb55010, 3, none⟩ = some (.slice Ao61 x55011003_1.length co61) ∧ w'.cell? ⟨gb55014, 0, none⟩ = some (.int .i64 t55024) ∧ w'.cell? ⟨gb55014, 1, none⟩ = some (.int .i64 t55025) ∧ w'.cell? ⟨gb55014, 2, none⟩ = some (.int .i64 t55026) ∧ w'.cell? ⟨gb55014, 3, none⟩ = some (.slice Ao55 t55027.length co55)) (ds := []) #[false, false, false, false] (by kernel_rfl) rfl rfl ⟨(blk_cell BK55010.out 0).trans rfl, (blk_cell BK55010.out 1).trans rfl, (blk_cell BK55010.out 2).trans rfl, (blk_cell BK55010.out 3).trans rfl, (blk_cell BK55014.out 0).trans rfl, (blk_cell BK55014.out 1).trans rfl, (blk_cell BK55014.out 2).trans rfl, (blk_cell BK55014.out 3).trans rfl⟩ (fun hHeld => ?_)
              generalize w56.drew = w57 at HO_55011003 HO_55015003 HO55029 BK55001 BK55002 BK55010 BK55014 HI0 HK HB hHeld ⊢
              refine take_ (i := 0) (N := some 46) (v := ?_) (a' := ?_) #[true, false, false, false] rfl rfl (by kernel_rfl) (fun _ _ _ h => h) (Or.inl ⟨by rfl, ?_⟩) hHeld ?_ ?_
              rotate_left
              · rintro w' ⟨s0, s1, s2, s3, s4, s5, s6, s7⟩
                go_simp
                with_reducible rfl
              rotate_left
              · simp only [Act.put, List.setIfInBounds_toArray, List.set_cons_zero, List.set_cons_succ, i64_w, i32_w]
                rfl
              refine take_ (i := 1) (N := some 47) (v := ?_) (a' := ?_) #[true, true, false, false] rfl rfl (by kernel_rfl) (fun _ _ _ h => h) (Or.inl ⟨by rfl, ?_⟩) hHeld ?_ ?_
              rotate_left
              · rintro w' ⟨s0, s1, s2, s3, s4, s5, s6, s7⟩
                go_simp
                with_reducible rfl
              rotate_left
              · simp only [Act.put, List.setIfInBounds_toArray, List.set_cons_zero, List.set_cons_succ, i64_w, i32_w]
                rfl
              refine one_ (i := 2) (N := none) #[true, true, true, false] rfl rfl (by kernel_rfl) (by decide) (fun K hK => ?_)
              have hs58 : w57.cell? ⟨gb55001, 0, none⟩ = some (.int .i64 0) := (blk_cell BK55001.out 0).trans rfl
              have hfs58 := blk_frozen BK55001.out 0
              have hns58_1 := NB55002_55001.out
              have hns58_2 := NB55010_55001.out
              have hns58_3 := NB55014_55001.out
              have hms58_1 := NB55001_55002.out
              have hms58_2 := NB55001_55010.out
              have hms58_3 := NB55001_55014.out
              have hs59 : w57.cell? ⟨gb55001, 1, none⟩ = some (.int .i64 0) := (blk_cell BK55001.out 1).trans rfl
              have hfs59 := blk_frozen BK55001.out 1
              have hns59_1 := NB55002_55001.out
              have hns59_2 := NB55010_55001.out
              have hns59_3 := NB55014_55001.out
              have hms59_1 := NB55001_55002.out
              have hms59_2 := NB55001_55010.out
              have hms59_3 := NB55001_55014.out
              have hs60 : w57.cell? ⟨gb55001, 2, none⟩ = some (.int .i64 0) := (blk_cell BK55001.out 2).trans rfl
              have hfs60 := blk_frozen BK55001.out 2
              have hns60_1 := NB55002_55001.out
              have hns60_2 := NB55010_55001.out
              have hns60_3 := NB55014_55001.out
              have hms60_1 := NB55001_55002.out
              have hms60_2 := NB55001_55010.out
              have hms60_3 := NB55001_55014.out
              have hs62 : w57.cell? ⟨gb55001, 3, none⟩ = some (.slice none 0 0) := (blk_cell BK55001.out 3).trans rfl
              have hfs62 := blk_frozen BK55001.out 3
              have hns62_1 := NB55002_55001.out
              have hns62_2 := NB55010_55001.out
              have hns62_3 := NB55014_55001.out
              have hms62_1 := NB55001_55002.out
              have hms62_2 := NB55001_55010.out
              have hms62_3 := NB55001_55014.out
              refine skip_ (w1 := ?_) (by rfl) rfl ?_ ?_
              rotate_left
              · go_simp
                rfl
              refine hK.out _ _ ⟨((cell_far (p := ⟨gb55001, _, none⟩) NB55010_55001.out _).trans (((cell_far (p := ⟨gb55001, _, none⟩) NB55010_55001.out _).trans (((cell_far (p := ⟨gb55001, _, none⟩) NB55010_55001.out _).trans (((cell_far (p := ⟨gb55001, _, none⟩) NB55010_55001.out _).trans (hHeld.1)))))))), ((cell_far (p := ⟨gb55001, _, none⟩) NB55010_55001.out _).trans (((cell_far (p := ⟨gb55001, _, none⟩) NB55010_55001.out _).trans (((cell_far (p := ⟨gb55001, _, none⟩) NB55010_55001.out _).trans (((cell_far (p := ⟨gb55001, _, none⟩) NB55010_55001.out _).trans (hHeld.2.1)))))))), ((cell_far (p := ⟨gb55001, _, none⟩) NB55010_55001.out _).trans (((cell_far (p := ⟨gb55001, _, none⟩) NB55010_55001.out _).trans (((cell_far (p := ⟨gb55001, _, none⟩) NB55010_55001.out _).trans (((cell_far (p := ⟨gb55001, _, none⟩) NB55010_55001.out _).trans (hHeld.2.2.1)))))))), ((cell_far (p := ⟨gb55001, _, none⟩) NB55010_55001.out _).trans (((cell_far (p := ⟨gb55001, _, none⟩) NB55010_55001.out _).trans (((cell_far (p := ⟨gb55001, _, none⟩) NB55010_55001.out _).trans (((cell_far (p := ⟨gb55001, _, none⟩) NB55010_55001.out _).trans (hHeld.2.2.2.1)))))))), ((cell_far (p := ⟨gb55001, _, none⟩) NB55014_55001.out _).trans (((cell_far (p := ⟨gb55001, _, none⟩) NB55014_55001.out _).trans (((cell_far (p := ⟨gb55001, _, none⟩) NB55014_55001.out _).trans (((cell_far (p := ⟨gb55001, _, none⟩) NB55014_55001.out _).trans (hHeld.2.2.2.2.1)))))))), ((cell_far (p := ⟨gb55001, _, none⟩) NB55014_55001.out _).trans (((cell_far (p := ⟨gb55001, _, none⟩) NB55014_55001.out _).trans (((cell_far (p := ⟨gb55001, _, none⟩) NB55014_55001.out _).trans (((cell_far (p := ⟨gb55001, _, none⟩) NB55014_55001.out _).trans (hHeld.2.2.2.2.2.1)))))))), ((cell_far (p := ⟨gb55001, _, none⟩) NB55014_55001.out _).trans (((cell_far (p := ⟨gb55001, _, none⟩) NB55014_55001.out _).trans (((cell_far (p := ⟨gb55001, _, none⟩) NB55014_55001.out _).trans (((cell_far (p := ⟨gb55001, _, none⟩) NB55014_55001.out _).trans (hHeld.2.2.2.2.2.2.1)))))))), ((cell_far (p := ⟨gb55001, _, none⟩) NB55014_55001.out _).trans (((cell_far (p := ⟨gb55001, _, none⟩) NB55014_55001.out _).trans (((cell_far (p := ⟨gb55001, _, none⟩) NB55014_55001.out _).trans (((cell_far (p := ⟨gb55001, _, none⟩) NB55014_55001.out _).trans (hHeld.2.2.2.2.2.2.2))))))))⟩ (fun hHeld => ?_)
              clear hK K
              refine one_ (i := 3) (N := none) #[true, true, true, true] rfl rfl (by kernel_rfl) (by decide) (fun K hK => ?_)
              have hs63 : w57.cell? ⟨gb55002, 0, none⟩ = some (.int .i64 0) := (blk_cell BK55002.out 0).trans rfl
              have hfs63 := blk_frozen BK55002.out 0
              have hns63_0 := NB55001_55002.out
              have hns63_2 := NB55010_55002.out
              have hns63_3 := NB55014_55002.out
              have hms63_0 := NB55002_55001.out
              have hms63_2 := NB55002_55010.out
              have hms63_3 := NB55002_55014.out
              have hs64 : w57.cell? ⟨gb55002, 1, none⟩ = some (.int .i64 0) := (blk_cell BK55002.out 1).trans rfl
              have hfs64 := blk_frozen BK55002.out 1
              have hns64_0 := NB55001_55002.out
              have hns64_2 := NB55010_55002.out
              have hns64_3 := NB55014_55002.out
              have hms64_0 := NB55002_55001.out
              have hms64_2 := NB55002_55010.out
              have hms64_3 := NB55002_55014.out
              have hs65 : w57.cell? ⟨gb55002, 2, none⟩ = some (.int .i64 0) := (blk_cell BK55002.out 2).trans rfl
              have hfs65 := blk_frozen BK55002.out 2
              have hns65_0 := NB55001_55002.out
              have hns65_2 := NB55010_55002.out
              have hns65_3 := NB55014_55002.out
              have hms65_0 := NB55002_55001.out
              have hms65_2 := NB55002_55010.out
              have hms65_3 := NB55002_55014.out
              have hs66 : w57.cell? ⟨gb55002, 3, none⟩ = some (.slice none 0 0) := (blk_cell BK55002.out 3).trans rfl
              have hfs66 := blk_frozen BK55002.out 3
              have hns66_0 := NB55001_55002.out
              have hns66_2 := NB55010_55002.out
              have hns66_3 := NB55014_55002.out
              have hms66_0 := NB55002_55001.out
              have hms66_2 := NB55002_55010.out
              have hms66_3 := NB55002_55014.out
              refine skip_ (w1 := ?_) (by rfl) rfl ?_ ?_
              rotate_left
              · go_simp
                rfl
              refine hK.out _ _ ⟨((cell_far (p := ⟨gb55002, _, none⟩) NB55010_55002.out _).trans (((cell_far (p := ⟨gb55002, _, none⟩) NB55010_55002.out _).trans (((cell_far (p := ⟨gb55002, _, none⟩) NB55010_55002.out _).trans (((cell_far (p := ⟨gb55002, _, none⟩) NB55010_55002.out _).trans (hHeld.1)))))))), ((cell_far (p := ⟨gb55002, _, none⟩) NB55010_55002.out _).trans (((cell_far (p := ⟨gb55002, _, none⟩) NB55010_55002.out _).trans (((cell_far (p := ⟨gb55002, _, none⟩) NB55010_55002.out _).trans (((cell_far (p := ⟨gb55002, _, none⟩) NB55010_55002.out _).trans (hHeld.2.1)))))))), ((cell_far (p := ⟨gb55002, _, none⟩) NB55010_55002.out _).trans (((cell_far (p := ⟨gb55002, _, none⟩) NB55010_55002.out _).trans (((cell_far (p := ⟨gb55002, _, none⟩) NB55010_55002.out _).trans (((cell_far (p := ⟨gb55002, _, none⟩) NB55010_55002.out _).trans (hHeld.2.2.1)))))))), ((cell_far (p := ⟨gb55002, _, none⟩) NB55010_55002.out _).trans (((cell_far (p := ⟨gb55002, _, none⟩) NB55010_55002.out _).trans (((cell_far (p := ⟨gb55002, _, none⟩) NB55010_55002.out _).trans (((cell_far (p := ⟨gb55002, _, none⟩) NB55010_55002.out _).trans (hHeld.2.2.2.1)))))))), ((cell_far (p := ⟨gb55002, _, none⟩) NB55014_55002.out _).trans (((cell_far (p := ⟨gb55002, _, none⟩) NB55014_55002.out _).trans (((cell_far (p := ⟨gb55002, _, none⟩) NB55014_55002.out _).trans (((cell_far (p := ⟨gb55002, _, none⟩) NB55014_55002.out _).trans (hHeld.2.2.2.2.1)))))))), ((cell_far (p := ⟨gb55002, _, none⟩) NB55014_55002.out _).trans (((cell_far (p := ⟨gb55002, _, none⟩) NB55014_55002.out _).trans (((cell_far (p := ⟨gb55002, _, none⟩) NB55014_55002.out _).trans (((cell_far (p := ⟨gb55002, _, none⟩) NB55014_55002.out _).trans (hHeld.2.2.2.2.2.1)))))))), ((cell_far (p := ⟨gb55002, _, none⟩) NB55014_55002.out _).trans (((cell_far (p := ⟨gb55002, _, none⟩) NB55014_55002.out _).trans (((cell_far (p := ⟨gb55002, _, none⟩) NB55014_55002.out _).trans (((cell_far (p := ⟨gb55002, _, none⟩) NB55014_55002.out _).trans (hHeld.2.2.2.2.2.2.1)))))))), ((cell_far (p := ⟨gb55002, _, none⟩) NB55014_55002.out _).trans (((cell_far (p := ⟨gb55002, _, none⟩) NB55014_55002.out _).trans (((cell_far (p := ⟨gb55002, _, none⟩) NB55014_55002.out _).trans (((cell_far (p := ⟨gb55002, _, none⟩) NB55014_55002.out _).trans (hHeld.2.2.2.2.2.2.2))))))))⟩ (fun hHeld => ?_)
              clear hK K
              refine done_ (by kernel_rfl) ?_
              try go_wp2
              refine bodyPost_ret (results_cc rfl _ _ gb55001 gb55002 28 28 #[.int .i64 t55003, .int .i64 t55004, .int .i64 t55005, .slice Ao61 x55011003_1.length co61] #[.int .i64 t55024, .int .i64 t55025, .int .i64 t55026, .slice Ao55 t55027.length co55] (0, 0) (0, 0) _ _ rfl (by (with_reducible repeat (first | refine blk_drewN ?_ _ | refine blk_drew ?_ | refine blk_alloc ?_ _)); refine blk_far ?_ NB55001_55002.out _; (with_reducible repeat (first | refine blk_drewN ?_ _ | refine blk_drew ?_ | refine blk_alloc ?_ _)); refine blk_far ?_ NB55001_55002.out _; (with_reducible repeat (first | refine blk_drewN ?_ _ | refine blk_drew ?_ | refine blk_alloc ?_ _)); refine blk_far ?_ NB55001_55002.out _; (with_reducible repeat (first | refine blk_drewN ?_ _ | refine blk_drew ?_ | refine blk_alloc ?_ _)); refine blk_far ?_ NB55001_55002.out _; (with_reducible repeat (first | refine blk_drewN ?_ _ | refine blk_drew ?_ | refine blk_alloc ?_ _)); refine blk_put (cs := #[.int .i64 t55003, .int .i64 t55004, .int .i64 t55005, .slice none 0 0]) ?_ 3 _ rfl; (with_reducible repeat (first | refine blk_drewN ?_ _ | refine blk_drew ?_ | refine blk_alloc ?_ _)); refine blk_put (cs := #[.int .i64 t55003, .int .i64 t55004, .int .i64 0, .slice none 0 0]) ?_ 2 _ rfl; (with_reducible repeat (first | refine blk_drewN ?_ _ | refine blk_drew ?_ | refine blk_alloc ?_ _)); refine blk_put (cs := #[.int .i64 t55003, .int .i64 0, .int .i64 0, .slice none 0 0]) ?_ 1 _ rfl; (with_reducible repeat (first | refine blk_drewN ?_ _ | refine blk_drew ?_ | refine blk_alloc ?_ _)); refine blk_put (cs := #[.int .i64 0, .int .i64 0, .int .i64 0, .slice none 0 0]) ?_ 0 _ rfl; (with_reducible repeat (first | refine blk_drewN ?_ _ | refine blk_drew ?_ | refine blk_alloc ?_ _)); exact BK55001.out) Try.underlying28 rfl (by kernel_rfl) rfl (by (with_reducible repeat (first | refine blk_drewN ?_ _ | refine blk_drew ?_ | refine blk_alloc ?_ _)); refine blk_put (cs := #[.int .i64 t55024, .int .i64 t55025, .int .i64 t55026, .slice none 0 0]) ?_ 3 _ rfl; (with_reducible repeat (first | refine blk_drewN ?_ _ | refine blk_drew ?_ | refine blk_alloc ?_ _)); refine blk_put (cs := #[.int .i64 t55024, .int .i64 t55025, .int .i64 0, .slice none 0 0]) ?_ 2 _ rfl; (with_reducible repeat (first | refine blk_drewN ?_ _ | refine blk_drew ?_ | refine blk_alloc ?_ _)); refine blk_put (cs := #[.int .i64 t55024, .int .i64 0, .int .i64 0, .slice none 0 0]) ?_ 1 _ rfl; (with_reducible repeat (first | refine blk_drewN ?_ _ | refine blk_drew ?_ | refine blk_alloc ?_ _)); refine blk_put (cs := #[.int .i64 0, .int .i64 0, .int .i64 0, .slice none 0 0]) ?_ 0 _ rfl; (with_reducible repeat (first | refine blk_drewN ?_ _ | refine blk_drew ?_ | refine blk_alloc ?_ _)); refine blk_far ?_ NB55002_55001.out _; (with_reducible repeat (first | refine blk_drewN ?_ _ | refine blk_drew ?_ | refine blk_alloc ?_ _)); refine blk_far ?_ NB55002_55001.out _; (with_reducible repeat (first | refine blk_drewN ?_ _ | refine blk_drew ?_ | refine blk_alloc ?_ _)); refine blk_far ?_ NB55002_55001.out _; (with_reducible repeat (first | refine blk_drewN ?_ _ | refine blk_drew ?_ | refine blk_alloc ?_ _)); refine blk_far ?_ NB55002_55001.out _; (with_reducible repeat (first | refine blk_drewN ?_ _ | refine blk_drew ?_ | refine blk_alloc ?_ _)); exact BK55002.out) Try.underlying28 rfl (by kernel_rfl)) rfl ?_
              exact ⟨_, _, by first | rfl | (simp [errW_none, errW_some] <;> rfl) | (simp [*, errW_none, errW_some] <;> rfl), by (with_reducible repeat (first | apply Kd.Q_alloc | apply Kd.Q_drewN | apply Kd.Q_drew)); exact Kd.Q_mono (Kd.Q_far (p := ⟨gb55002, 3, none⟩) (Kd.Q_far (p := ⟨gb55002, 2, none⟩) (Kd.Q_far (p := ⟨gb55002, 1, none⟩) (Kd.Q_far (p := ⟨gb55002, 0, none⟩) (Kd.Q_far (p := ⟨gb55001, 3, none⟩) (Kd.Q_far (p := ⟨gb55001, 2, none⟩) (Kd.Q_far (p := ⟨gb55001, 1, none⟩) (Kd.Q_far (p := ⟨gb55001, 0, none⟩) (Kd.Q_types (Kd.Q_types HO_55011003.out BK55001.out (by decide)) BK55002.out (by decide)) (fun _ hk => hk.1.2) (.int .i64 t55003)) (fun _ hk => hk.1.2) (.int .i64 t55004)) (fun _ hk => hk.1.2) (.int .i64 t55005)) (fun _ hk => hk.1.2) (.slice Ao61 x55011003_1.length co61)) (fun _ hk => hk.2) (.int .i64 t55024)) (fun _ hk => hk.2) (.int .i64 t55025)) (fun _ hk => hk.2) (.int .i64 t55026)) (fun _ hk => hk.2) (.slice Ao55 t55027.length co55)) (fun _ hk => hk.1.1.2), by (with_reducible repeat (first | apply Kd.Q_alloc | apply Kd.Q_drewN | apply Kd.Q_drew)); exact Kd.Q_mono (Kd.Q_far (p := ⟨gb55002, 3, none⟩) (Kd.Q_far (p := ⟨gb55002, 2, none⟩) (Kd.Q_far (p := ⟨gb55002, 1, none⟩) (Kd.Q_far (p := ⟨gb55002, 0, none⟩) (Kd.Q_far (p := ⟨gb55001, 3, none⟩) (Kd.Q_far (p := ⟨gb55001, 2, none⟩) (Kd.Q_far (p := ⟨gb55001, 1, none⟩) (Kd.Q_far (p := ⟨gb55001, 0, none⟩) (Kd.Q_types (Kd.Q_types HO55029.out BK55001.out (by decide)) BK55002.out (by decide)) (fun _ hk => hk.1.2) (.int .i64 t55003)) (fun _ hk => hk.1.2) (.int .i64 t55004)) (fun _ hk => hk.1.2) (.int .i64 t55005)) (fun _ hk => hk.1.2) (.slice Ao61 x55011003_1.length co61)) (fun _ hk => hk.2) (.int .i64 t55024)) (fun _ hk => hk.2) (.int .i64 t55025)) (fun _ hk => hk.2) (.int .i64 t55026)) (fun _ hk => hk.2) (.slice Ao55 t55027.length co55)) (fun _ hk => hk.1.1.1), by repeat (first | (with_reducible first | exact HI0.out | apply IsS100.alloc | apply IsS100.drewN | apply IsS100.drew | apply IsS100.set_1 | refine IsS100.far ?_ NB0_55001.out _ | refine IsS100.far ?_ NB0_55002.out _ | refine IsS100.far ?_ NB0_55010.out _ | refine IsS100.far ?_ NB0_55014.out _) | exact HI0.out), by repeat (first | (with_reducible first | exact HB.out | apply below_alloc | apply pw_below_drewN | apply below_drew1 | refine below_set ?_ (IsS100.ge HI0.out) | refine below_set ?_ GE55001.out | refine below_set ?_ GE55002.out | refine below_set ?_ GE55010.out | refine below_set ?_ GE55014.out) | exact HB.out), by repeat (first | (with_reducible first | exact HK.out | apply KeepBut.set_ | apply keep_drewN | apply keep_drew | apply keep_alloc | refine keep_far ?_ GW55001.out _ | refine keep_far ?_ GW55002.out _ | refine keep_far ?_ GW55010.out _ | refine keep_far ?_ GW55014.out _) | exact HK.out)⟩
            · rw [if_neg c46] at H
              have c46b0 : (t55022 == 0) = false := beq_eq_false_iff_ne.mpr c46
              have c46b1 : (t55022 != 0) = true := bne_iff_ne.mpr c46
              simp only [Option.some.injEq, Prod.mk.injEq] at H
              obtain ⟨rfl, rfl, rfl, rfl, rfl, rfl, rfl, rfl, rfl⟩ := H
              try go_wp2_with (first | ((with_reducible refine gate_callee (f := 82) rfl ?_); refine goesL_ (some 42) rfl rfl Try.func82 (by kernel_rfl) rfl #[.pointer (some ⟨g, 0, none⟩), .int .i64 16] rfl (by (try simp only [List.map_toArray, List.map_cons, List.map_nil]); first | done | rfl | (simp only [List.length_drop, List.length_take]; rfl)) ?_; (with_reducible refine (spec_reader_pick.calls kj25 g s0_0 x1001_1 16 t55022 t55023 w0 _ ?side1 ?side2 A45.out).mono ?_); (case side1 => repeat (first | (with_reducible first | exact HI0.out | apply IsS100.alloc | apply IsS100.drewN | apply IsS100.drew | apply IsS100.set_1 | refine IsS100.far ?_ NB0_55001.out _ | refine IsS100.far ?_ NB0_55002.out _ | refine IsS100.far ?_ NB0_55010.out _ | refine IsS100.far ?_ NB0_55014.out _) | exact HI0.out)); (case side2 => repeat (first | (with_reducible first | exact HB.out | apply below_alloc | apply pw_below_drewN | apply below_drew1 | refine below_set ?_ (IsS100.ge HI0.out) | refine below_set ?_ GE55001.out | refine below_set ?_ GE55002.out | refine below_set ?_ GE55010.out | refine below_set ?_ GE55014.out) | exact HB.out)); rintro e w67 ⟨rfl, hi, hb, hk⟩; refine ⟨_, rfl, ?_⟩; have n0_ := Aside0.mk (Kd.Q_mono (Kd.Q_keep (IsS100.apartQ (show IsS100 w0 _ g s0_0 x1001_1 from by repeat (first | (with_reducible first | exact HI0.out | apply IsS100.alloc | apply IsS100.drewN | apply IsS100.drew | apply IsS100.set_1 | refine IsS100.far ?_ NB0_55001.out _ | refine IsS100.far ?_ NB0_55002.out _ | refine IsS100.far ?_ NB0_55010.out _ | refine IsS100.far ?_ NB0_55014.out _) | exact HI0.out)) (by (with_reducible repeat (first | apply Kd.Q_alloc | apply Kd.Q_drewN | apply Kd.Q_drew)); exact HO_55011003.out) (by decide)) hk (fun _ h => h.2)) (fun _ h => h.1)); have n1_ := Aside0.mk (Kd.Q_mono (Kd.Q_keep (IsS100.apartQ (show IsS100 w0 _ g s0_0 x1001_1 from by repeat (first | (with_reducible first | exact HI0.out | apply IsS100.alloc | apply IsS100.drewN | apply IsS100.drew | apply IsS100.set_1 | refine IsS100.far ?_ NB0_55001.out _ | refine IsS100.far ?_ NB0_55002.out _ | refine IsS100.far ?_ NB0_55010.out _ | refine IsS100.far ?_ NB0_55014.out _) | exact HI0.out)) (by (with_reducible repeat (first | apply Kd.Q_alloc | apply Kd.Q_drewN | apply Kd.Q_drew)); exact HO_55015003.out) (by decide)) hk (fun _ h => h.2)) (fun _ h => h.1)); have n2_ := Aside0.mk (KeepBut.blk hk (g' := gb55001) (o := .cells #[.int .i64 0, .int .i64 0, .int .i64 0, .slice none 0 0] 28 (0, 0)) (by (with_reducible repeat (first | refine blk_drewN ?_ _ | refine blk_drew ?_ | refine blk_alloc ?_ _)); exact BK55001.out) NB55001_0.out (by simp)); have n3_ := Aside0.mk (KeepBut.blk hk (g' := gb55002) (o := .cells #[.int .i64 0, .int .i64 0, .int .i64 0, .slice none 0 0] 28 (0, 0)) (by (with_reducible repeat (first | refine blk_drewN ?_ _ | refine blk_drew ?_ | refine blk_alloc ?_ _)); exact BK55002.out) NB55002_0.out (by simp)); have n4_ := Aside0.mk (KeepBut.blk hk (g' := gb55010) (o := .cells #[.int .i64 t55003, .int .i64 t55004, .int .i64 t55005, u55011003] 28 (0, 0)) (by (with_reducible repeat (first | refine blk_drewN ?_ _ | refine blk_drew ?_ | refine blk_alloc ?_ _)); exact BK55010.out) NB55010_0.out (by simp)); have n5_ := Aside0.mk (KeepBut.blk hk (g' := gb55014) (o := .cells #[.int .i64 t55003, .int .i64 t55004, .int .i64 t55005, u55015003] 28 (0, 0)) (by (with_reducible repeat (first | refine blk_drewN ?_ _ | refine blk_drew ?_ | refine blk_alloc ?_ _)); exact BK55014.out) NB55014_0.out (by simp)); have n6_ := Aside0.mk (KeepBut.trans (by repeat (first | (with_reducible first | exact HK.out | apply KeepBut.set_ | apply keep_drewN | apply keep_drew | apply keep_alloc | refine keep_far ?_ GW55001.out _ | refine keep_far ?_ GW55002.out _ | refine keep_far ?_ GW55010.out _ | refine keep_far ?_ GW55014.out _) | exact HK.out)) hk (.inl rfl)); have n7_ := Aside0.mk (hb); have n8_ := Aside0.mk (hi); clear HO_55011003; clear HO_55015003; clear BK55001; clear BK55002; clear BK55010; clear BK55014; clear HK; clear HB; clear HI0; have HO_55011003 := n0_; have HO_55015003 := n1_; have BK55001 := n2_; have BK55002 := n3_; have BK55010 := n4_; have BK55014 := n5_; have HK := n6_; have HB := n7_; have HI0 := n8_; clear n0_ n1_ n2_ n3_ n4_ n5_ n6_ n7_ n8_; (try clear hb); (try clear hb2); (try clear hk); (try clear hi)))
              have n0_ := Aside0.mk (Kd.Q_drew HO_55011003.out)
              have n1_ := Aside0.mk (Kd.Q_drew HO_55015003.out)
              have n2_ := Aside0.mk (blk_drew BK55001.out)
              have n3_ := Aside0.mk (blk_drew BK55002.out)
              have n4_ := Aside0.mk (blk_drew BK55010.out)
              have n5_ := Aside0.mk (blk_drew BK55014.out)
              have n6_ := Aside0.mk (IsS100.drew HI0.out)
              have n7_ := Aside0.mk (keep_drew HK.out)
              have n8_ := Aside0.mk (below_drew1 HB.out)
              clear HO_55011003
              clear HO_55015003
              clear BK55001
              clear BK55002
              clear BK55010
              clear BK55014
              clear HI0
              clear HK
              clear HB
              have HO_55011003 := n0_
              have HO_55015003 := n1_
              have BK55001 := n2_
              have BK55002 := n3_
              have BK55010 := n4_
              have BK55014 := n5_
              have HI0 := n6_
              have HK := n7_
              have HB := n8_
              clear n0_ n1_ n2_ n3_ n4_ n5_ n6_ n7_ n8_
              obtain ⟨Ao72, co72, eo72, _⟩ := Kd.Q_slice HO_55011003.out
              (first | subst eo72 | (injection eo72 with f1_ f2_ f3_; have f4_ := f1_.symm; have f5_ := f3_.symm; clear f1_ f2_ f3_; subst f4_; subst f5_))
              obtain ⟨Ao77, co77, eo77, _⟩ := Kd.Q_slice HO_55015003.out
              (first | subst eo77 | (injection eo77 with f1_ f2_ f3_; have f4_ := f1_.symm; have f5_ := f3_.symm; clear f1_ f2_ f3_; subst f4_; subst f5_))
              refine start_ (n := 4) (S := fun w' => w'.cell? ⟨gb55010, 0, none⟩ = some (.int .i64 t55003) ∧ w'.cell? ⟨gb55010, 1, none⟩ = some (.int .i64 t55004) ∧ w'.cell? ⟨gb55010, 2, none⟩ = some (.int .i64 t55005) ∧ w'.cell? ⟨gb55010, 3, none⟩ = some (.slice Ao72 x55011003_1.length co72) ∧ w'.cell? ⟨gb55014, 0, none⟩ = some (.int .i64 t55003) ∧ w'.cell? ⟨gb55014, 1, none⟩ = some (.int .i64 t55004) ∧ w'.cell? ⟨gb55014, 2, none⟩ = some (.int .i64 t55005) ∧ w'.cell? ⟨gb55014, 3, none⟩ = some (.slice Ao77 x55015003_1.length co77)) (ds := []) #[false, false, false, false] (by kernel_rfl) rfl rfl ⟨(blk_cell BK55010.out 0).trans rfl, (blk_cell BK55010.out 1).trans rfl, (blk_cell BK55010.out 2).trans rfl, (blk_cell BK55010.out 3).trans rfl, (blk_cell BK55014.out 0).trans rfl, (blk_cell BK55014.out 1).trans rfl, (blk_cell BK55014.out 2).trans rfl, (blk_cell BK55014.out 3).trans rfl⟩ (fun hHeld => ?_)
              generalize w67.drew = w68 at HO_55011003 HO_55015003 BK55001 BK55002 BK55010 BK55014 HI0 HK HB hHeld ⊢
              refine take_ (i := 0) (N := some 46) (v := ?_) (a' := ?_) #[true, false, false, false] rfl rfl (by kernel_rfl) (fun _ _ _ h => h) (Or.inl ⟨by rfl, ?_⟩) hHeld ?_ ?_
              rotate_left
              · rintro w' ⟨s0, s1, s2, s3, s4, s5, s6, s7⟩
                go_simp
                with_reducible rfl
              rotate_left
              · simp only [Act.put, List.setIfInBounds_toArray, List.set_cons_zero, List.set_cons_succ, i64_w, i32_w]
                rfl
              refine take_ (i := 1) (N := some 47) (v := ?_) (a' := ?_) #[true, true, false, false] rfl rfl (by kernel_rfl) (fun _ _ _ h => h) (Or.inl ⟨by rfl, ?_⟩) hHeld ?_ ?_
              rotate_left
              · rintro w' ⟨s0, s1, s2, s3, s4, s5, s6, s7⟩
                go_simp
                with_reducible rfl
              rotate_left
              · simp only [Act.put, List.setIfInBounds_toArray, List.set_cons_zero, List.set_cons_succ, i64_w, i32_w]
                rfl
              refine one_ (i := 2) (N := none) #[true, true, true, false] rfl rfl (by kernel_rfl) (by decide) (fun K hK => ?_)
              have hs69 : w68.cell? ⟨gb55001, 0, none⟩ = some (.int .i64 0) := (blk_cell BK55001.out 0).trans rfl
              have hfs69 := blk_frozen BK55001.out 0
              have hns69_1 := NB55002_55001.out
              have hns69_2 := NB55010_55001.out
              have hns69_3 := NB55014_55001.out
              have hms69_1 := NB55001_55002.out
              have hms69_2 := NB55001_55010.out
              have hms69_3 := NB55001_55014.out
              have hs70 : w68.cell? ⟨gb55001, 1, none⟩ = some (.int .i64 0) := (blk_cell BK55001.out 1).trans rfl
              have hfs70 := blk_frozen BK55001.out 1
              have hns70_1 := NB55002_55001.out
              have hns70_2 := NB55010_55001.out
              have hns70_3 := NB55014_55001.out
              have hms70_1 := NB55001_55002.out
              have hms70_2 := NB55001_55010.out
              have hms70_3 := NB55001_55014.out
              have hs71 : w68.cell? ⟨gb55001, 2, none⟩ = some (.int .i64 0) := (blk_cell BK55001.out 2).trans rfl
              have hfs71 := blk_frozen BK55001.out 2
              have hns71_1 := NB55002_55001.out
              have hns71_2 := NB55010_55001.out
              have hns71_3 := NB55014_55001.out
              have hms71_1 := NB55001_55002.out
              have hms71_2 := NB55001_55010.out
              have hms71_3 := NB55001_55014.out
              have hs73 : w68.cell? ⟨gb55001, 3, none⟩ = some (.slice none 0 0) := (blk_cell BK55001.out 3).trans rfl
              have hfs73 := blk_frozen BK55001.out 3
              have hns73_1 := NB55002_55001.out
              have hns73_2 := NB55010_55001.out
              have hns73_3 := NB55014_55001.out
              have hms73_1 := NB55001_55002.out
              have hms73_2 := NB55001_55010.out
              have hms73_3 := NB55001_55014.out
              refine skip_ (w1 := ?_) (by rfl) rfl ?_ ?_
              rotate_left
              · go_simp
                rfl
              refine hK.out _ _ ⟨((cell_far (p := ⟨gb55001, _, none⟩) NB55010_55001.out _).trans (((cell_far (p := ⟨gb55001, _, none⟩) NB55010_55001.out _).trans (((cell_far (p := ⟨gb55001, _, none⟩) NB55010_55001.out _).trans (((cell_far (p := ⟨gb55001, _, none⟩) NB55010_55001.out _).trans (hHeld.1)))))))), ((cell_far (p := ⟨gb55001, _, none⟩) NB55010_55001.out _).trans (((cell_far (p := ⟨gb55001, _, none⟩) NB55010_55001.out _).trans (((cell_far (p := ⟨gb55001, _, none⟩) NB55010_55001.out _).trans (((cell_far (p := ⟨gb55001, _, none⟩) NB55010_55001.out _).trans (hHeld.2.1)))))))), ((cell_far (p := ⟨gb55001, _, none⟩) NB55010_55001.out _).trans (((cell_far (p := ⟨gb55001, _, none⟩) NB55010_55001.out _).trans (((cell_far (p := ⟨gb55001, _, none⟩) NB55010_55001.out _).trans (((cell_far (p := ⟨gb55001, _, none⟩) NB55010_55001.out _).trans (hHeld.2.2.1)))))))), ((cell_far (p := ⟨gb55001, _, none⟩) NB55010_55001.out _).trans (((cell_far (p := ⟨gb55001, _, none⟩) NB55010_55001.out _).trans (((cell_far (p := ⟨gb55001, _, none⟩) NB55010_55001.out _).trans (((cell_far (p := ⟨gb55001, _, none⟩) NB55010_55001.out _).trans (hHeld.2.2.2.1)))))))), ((cell_far (p := ⟨gb55001, _, none⟩) NB55014_55001.out _).trans (((cell_far (p := ⟨gb55001, _, none⟩) NB55014_55001.out _).trans (((cell_far (p := ⟨gb55001, _, none⟩) NB55014_55001.out _).trans (((cell_far (p := ⟨gb55001, _, none⟩) NB55014_55001.out _).trans (hHeld.2.2.2.2.1)))))))), ((cell_far (p := ⟨gb55001, _, none⟩) NB55014_55001.out _).trans (((cell_far (p := ⟨gb55001, _, none⟩) NB55014_55001.out _).trans (((cell_far (p := ⟨gb55001, _, none⟩) NB55014_55001.out _).trans (((cell_far (p := ⟨gb55001, _, none⟩) NB55014_55001.out _).trans (hHeld.2.2.2.2.2.1)))))))), ((cell_far (p := ⟨gb55001, _, none⟩) NB55014_55001.out _).trans (((cell_far (p := ⟨gb55001, _, none⟩) NB55014_55001.out _).trans (((cell_far (p := ⟨gb55001, _, none⟩) NB55014_55001.out _).trans (((cell_far (p := ⟨gb55001, _, none⟩) NB55014_55001.out _).trans (hHeld.2.2.2.2.2.2.1)))))))), ((cell_far (p := ⟨gb55001, _, none⟩) NB55014_55001.out _).trans (((cell_far (p := ⟨gb55001, _, none⟩) NB55014_55001.out _).trans (((cell_far (p := ⟨gb55001, _, none⟩) NB55014_55001.out _).trans (((cell_far (p := ⟨gb55001, _, none⟩) NB55014_55001.out _).trans (hHeld.2.2.2.2.2.2.2))))))))⟩ (fun hHeld => ?_)
              clear hK K
              refine one_ (i := 3) (N := none) #[true, true, true, true] rfl rfl (by kernel_rfl) (by decide) (fun K hK => ?_)
              have hs74 : w68.cell? ⟨gb55002, 0, none⟩ = some (.int .i64 0) := (blk_cell BK55002.out 0).trans rfl
              have hfs74 := blk_frozen BK55002.out 0
              have hns74_0 := NB55001_55002.out
              have hns74_2 := NB55010_55002.out
              have hns74_3 := NB55014_55002.out
              have hms74_0 := NB55002_55001.out
              have hms74_2 := NB55002_55010.out
              have hms74_3 := NB55002_55014.out
              have hs75 : w68.cell? ⟨gb55002, 1, none⟩ = some (.int .i64 0) := (blk_cell BK55002.out 1).trans rfl
              have hfs75 := blk_frozen BK55002.out 1
              have hns75_0 := NB55001_55002.out
              have hns75_2 := NB55010_55002.out
              have hns75_3 := NB55014_55002.out
              have hms75_0 := NB55002_55001.out
              have hms75_2 := NB55002_55010.out
              have hms75_3 := NB55002_55014.out
              have hs76 : w68.cell? ⟨gb55002, 2, none⟩ = some (.int .i64 0) := (blk_cell BK55002.out 2).trans rfl
              have hfs76 := blk_frozen BK55002.out 2
              have hns76_0 := NB55001_55002.out
              have hns76_2 := NB55010_55002.out
              have hns76_3 := NB55014_55002.out
              have hms76_0 := NB55002_55001.out
              have hms76_2 := NB55002_55010.out
              have hms76_3 := NB55002_55014.out
              have hs78 : w68.cell? ⟨gb55002, 3, none⟩ = some (.slice none 0 0) := (blk_cell BK55002.out 3).trans rfl
              have hfs78 := blk_frozen BK55002.out 3
              have hns78_0 := NB55001_55002.out
              have hns78_2 := NB55010_55002.out
              have hns78_3 := NB55014_55002.out
              have hms78_0 := NB55002_55001.out
              have hms78_2 := NB55002_55010.out
              have hms78_3 := NB55002_55014.out
              refine skip_ (w1 := ?_) (by rfl) rfl ?_ ?_
              rotate_left
              · go_simp
                rfl
              refine hK.out _ _ ⟨((cell_far (p := ⟨gb55002, _, none⟩) NB55010_55002.out _).trans (((cell_far (p := ⟨gb55002, _, none⟩) NB55010_55002.out _).trans (((cell_far (p := ⟨gb55002, _, none⟩) NB55010_55002.out _).trans (((cell_far (p := ⟨gb55002, _, none⟩) NB55010_55002.out _).trans (hHeld.1)))))))), ((cell_far (p := ⟨gb55002, _, none⟩) NB55010_55002.out _).trans (((cell_far (p := ⟨gb55002, _, none⟩) NB55010_55002.out _).trans (((cell_far (p := ⟨gb55002, _, none⟩) NB55010_55002.out _).trans (((cell_far (p := ⟨gb55002, _, none⟩) NB55010_55002.out _).trans (hHeld.2.1)))))))), ((cell_far (p := ⟨gb55002, _, none⟩) NB55010_55002.out _).trans (((cell_far (p := ⟨gb55002, _, none⟩) NB55010_55002.out _).trans (((cell_far (p := ⟨gb55002, _, none⟩) NB55010_55002.out _).trans (((cell_far (p := ⟨gb55002, _, none⟩) NB55010_55002.out _).trans (hHeld.2.2.1)))))))), ((cell_far (p := ⟨gb55002, _, none⟩) NB55010_55002.out _).trans (((cell_far (p := ⟨gb55002, _, none⟩) NB55010_55002.out _).trans (((cell_far (p := ⟨gb55002, _, none⟩) NB55010_55002.out _).trans (((cell_far (p := ⟨gb55002, _, none⟩) NB55010_55002.out _).trans (hHeld.2.2.2.1)))))))), ((cell_far (p := ⟨gb55002, _, none⟩) NB55014_55002.out _).trans (((cell_far (p := ⟨gb55002, _, none⟩) NB55014_55002.out _).trans (((cell_far (p := ⟨gb55002, _, none⟩) NB55014_55002.out _).trans (((cell_far (p := ⟨gb55002, _, none⟩) NB55014_55002.out _).trans (hHeld.2.2.2.2.1)))))))), ((cell_far (p := ⟨gb55002, _, none⟩) NB55014_55002.out _).trans (((cell_far (p := ⟨gb55002, _, none⟩) NB55014_55002.out _).trans (((cell_far (p := ⟨gb55002, _, none⟩) NB55014_55002.out _).trans (((cell_far (p := ⟨gb55002, _, none⟩) NB55014_55002.out _).trans (hHeld.2.2.2.2.2.1)))))))), ((cell_far (p := ⟨gb55002, _, none⟩) NB55014_55002.out _).trans (((cell_far (p := ⟨gb55002, _, none⟩) NB55014_55002.out _).trans (((cell_far (p := ⟨gb55002, _, none⟩) NB55014_55002.out _).trans (((cell_far (p := ⟨gb55002, _, none⟩) NB55014_55002.out _).trans (hHeld.2.2.2.2.2.2.1)))))))), ((cell_far (p := ⟨gb55002, _, none⟩) NB55014_55002.out _).trans (((cell_far (p := ⟨gb55002, _, none⟩) NB55014_55002.out _).trans (((cell_far (p := ⟨gb55002, _, none⟩) NB55014_55002.out _).trans (((cell_far (p := ⟨gb55002, _, none⟩) NB55014_55002.out _).trans (hHeld.2.2.2.2.2.2.2))))))))⟩ (fun hHeld => ?_)
              clear hK K
              refine done_ (by kernel_rfl) ?_
              try go_wp2
              refine bodyPost_ret (results_cc rfl _ _ gb55001 gb55002 28 28 #[.int .i64 t55003, .int .i64 t55004, .int .i64 t55005, .slice Ao72 x55011003_1.length co72] #[.int .i64 t55003, .int .i64 t55004, .int .i64 t55005, .slice Ao77 x55015003_1.length co77] (0, 0) (0, 0) _ _ rfl (by (with_reducible repeat (first | refine blk_drewN ?_ _ | refine blk_drew ?_ | refine blk_alloc ?_ _)); refine blk_far ?_ NB55001_55002.out _; (with_reducible repeat (first | refine blk_drewN ?_ _ | refine blk_drew ?_ | refine blk_alloc ?_ _)); refine blk_far ?_ NB55001_55002.out _; (with_reducible repeat (first | refine blk_drewN ?_ _ | refine blk_drew ?_ | refine blk_alloc ?_ _)); refine blk_far ?_ NB55001_55002.out _; (with_reducible repeat (first | refine blk_drewN ?_ _ | refine blk_drew ?_ | refine blk_alloc ?_ _)); refine blk_far ?_ NB55001_55002.out _; (with_reducible repeat (first | refine blk_drewN ?_ _ | refine blk_drew ?_ | refine blk_alloc ?_ _)); refine blk_put (cs := #[.int .i64 t55003, .int .i64 t55004, .int .i64 t55005, .slice none 0 0]) ?_ 3 _ rfl; (with_reducible repeat (first | refine blk_drewN ?_ _ | refine blk_drew ?_ | refine blk_alloc ?_ _)); refine blk_put (cs := #[.int .i64 t55003, .int .i64 t55004, .int .i64 0, .slice none 0 0]) ?_ 2 _ rfl; (with_reducible repeat (first | refine blk_drewN ?_ _ | refine blk_drew ?_ | refine blk_alloc ?_ _)); refine blk_put (cs := #[.int .i64 t55003, .int .i64 0, .int .i64 0, .slice none 0 0]) ?_ 1 _ rfl; (with_reducible repeat (first | refine blk_drewN ?_ _ | refine blk_drew ?_ | refine blk_alloc ?_ _)); refine blk_put (cs := #[.int .i64 0, .int .i64 0, .int .i64 0, .slice none 0 0]) ?_ 0 _ rfl; (with_reducible repeat (first | refine blk_drewN ?_ _ | refine blk_drew ?_ | refine blk_alloc ?_ _)); exact BK55001.out) Try.underlying28 rfl (by kernel_rfl) rfl (by (with_reducible repeat (first | refine blk_drewN ?_ _ | refine blk_drew ?_ | refine blk_alloc ?_ _)); refine blk_put (cs := #[.int .i64 t55003, .int .i64 t55004, .int .i64 t55005, .slice none 0 0]) ?_ 3 _ rfl; (with_reducible repeat (first | refine blk_drewN ?_ _ | refine blk_drew ?_ | refine blk_alloc ?_ _)); refine blk_put (cs := #[.int .i64 t55003, .int .i64 t55004, .int .i64 0, .slice none 0 0]) ?_ 2 _ rfl; (with_reducible repeat (first | refine blk_drewN ?_ _ | refine blk_drew ?_ | refine blk_alloc ?_ _)); refine blk_put (cs := #[.int .i64 t55003, .int .i64 0, .int .i64 0, .slice none 0 0]) ?_ 1 _ rfl; (with_reducible repeat (first | refine blk_drewN ?_ _ | refine blk_drew ?_ | refine blk_alloc ?_ _)); refine blk_put (cs := #[.int .i64 0, .int .i64 0, .int .i64 0, .slice none 0 0]) ?_ 0 _ rfl; (with_reducible repeat (first | refine blk_drewN ?_ _ | refine blk_drew ?_ | refine blk_alloc ?_ _)); refine blk_far ?_ NB55002_55001.out _; (with_reducible repeat (first | refine blk_drewN ?_ _ | refine blk_drew ?_ | refine blk_alloc ?_ _)); refine blk_far ?_ NB55002_55001.out _; (with_reducible repeat (first | refine blk_drewN ?_ _ | refine blk_drew ?_ | refine blk_alloc ?_ _)); refine blk_far ?_ NB55002_55001.out _; (with_reducible repeat (first | refine blk_drewN ?_ _ | refine blk_drew ?_ | refine blk_alloc ?_ _)); refine blk_far ?_ NB55002_55001.out _; (with_reducible repeat (first | refine blk_drewN ?_ _ | refine blk_drew ?_ | refine blk_alloc ?_ _)); exact BK55002.out) Try.underlying28 rfl (by kernel_rfl)) rfl ?_
              exact ⟨_, _, by first | rfl | (simp [errW_none, errW_some] <;> rfl) | (simp [*, errW_none, errW_some] <;> rfl), by (with_reducible repeat (first | apply Kd.Q_alloc | apply Kd.Q_drewN | apply Kd.Q_drew)); exact Kd.Q_mono (Kd.Q_far (p := ⟨gb55002, 3, none⟩) (Kd.Q_far (p := ⟨gb55002, 2, none⟩) (Kd.Q_far (p := ⟨gb55002, 1, none⟩) (Kd.Q_far (p := ⟨gb55002, 0, none⟩) (Kd.Q_far (p := ⟨gb55001, 3, none⟩) (Kd.Q_far (p := ⟨gb55001, 2, none⟩) (Kd.Q_far (p := ⟨gb55001, 1, none⟩) (Kd.Q_far (p := ⟨gb55001, 0, none⟩) (Kd.Q_types (Kd.Q_types HO_55011003.out BK55001.out (by decide)) BK55002.out (by decide)) (fun _ hk => hk.1.2) (.int .i64 t55003)) (fun _ hk => hk.1.2) (.int .i64 t55004)) (fun _ hk => hk.1.2) (.int .i64 t55005)) (fun _ hk => hk.1.2) (.slice Ao72 x55011003_1.length co72)) (fun _ hk => hk.2) (.int .i64 t55003)) (fun _ hk => hk.2) (.int .i64 t55004)) (fun _ hk => hk.2) (.int .i64 t55005)) (fun _ hk => hk.2) (.slice Ao77 x55015003_1.length co77)) (fun _ hk => hk.1.1), by (with_reducible repeat (first | apply Kd.Q_alloc | apply Kd.Q_drewN | apply Kd.Q_drew)); exact Kd.Q_mono (Kd.Q_far (p := ⟨gb55002, 3, none⟩) (Kd.Q_far (p := ⟨gb55002, 2, none⟩) (Kd.Q_far (p := ⟨gb55002, 1, none⟩) (Kd.Q_far (p := ⟨gb55002, 0, none⟩) (Kd.Q_far (p := ⟨gb55001, 3, none⟩) (Kd.Q_far (p := ⟨gb55001, 2, none⟩) (Kd.Q_far (p := ⟨gb55001, 1, none⟩) (Kd.Q_far (p := ⟨gb55001, 0, none⟩) (Kd.Q_types (Kd.Q_types HO_55015003.out BK55001.out (by decide)) BK55002.out (by decide)) (fun _ hk => hk.1.2) (.int .i64 t55003)) (fun _ hk => hk.1.2) (.int .i64 t55004)) (fun _ hk => hk.1.2) (.int .i64 t55005)) (fun _ hk => hk.1.2) (.slice Ao72 x55011003_1.length co72)) (fun _ hk => hk.2) (.int .i64 t55003)) (fun _ hk => hk.2) (.int .i64 t55004)) (fun _ hk => hk.2) (.int .i64 t55005)) (fun _ hk => hk.2) (.slice Ao77 x55015003_1.length co77)) (fun _ hk => hk.1.1), by repeat (first | (with_reducible first | exact HI0.out | apply IsS100.alloc | apply IsS100.drewN | apply IsS100.drew | apply IsS100.set_1 | refine IsS100.far ?_ NB0_55001.out _ | refine IsS100.far ?_ NB0_55002.out _ | refine IsS100.far ?_ NB0_55010.out _ | refine IsS100.far ?_ NB0_55014.out _) | exact HI0.out), by repeat (first | (with_reducible first | exact HB.out | apply below_alloc | apply pw_below_drewN | apply below_drew1 | refine below_set ?_ (IsS100.ge HI0.out) | refine below_set ?_ GE55001.out | refine below_set ?_ GE55002.out | refine below_set ?_ GE55010.out | refine below_set ?_ GE55014.out) | exact HB.out), by repeat (first | (with_reducible first | exact HK.out | apply KeepBut.set_ | apply keep_drewN | apply keep_drew | apply keep_alloc | refine keep_far ?_ GW55001.out _ | refine keep_far ?_ GW55002.out _ | refine keep_far ?_ GW55010.out _ | refine keep_far ?_ GW55014.out _) | exact HK.out)⟩

end Go.Proofs.Ytbgohbinonkhfaa.Q

namespace Go.Proofs.Ytbgohbinonkhfaa.Q
open Go.RowKit Go.Proofs.YtbgohbinonkhfaaW.PrintWords Go.Proofs.YtbgohbinonkhfaaW.PrintLast Go.Proofs.YtbgohbinonkhfaaW.PrintMore
attribute [local go_sem] max2_int min2_int max_two min_two max_three min_three max_four min_four
set_option linter.unusedVariables false
set_option linter.unusedSimpArgs false
/-! ### spec_newReader: function 55 -/
def spec_newReader.f (l0 : List Int) : Option (List Int × Int) := if (l0.length : Int) > 2000 then (if 2000 ≤ (l0.length : Int) then (some (l0.take 2000, 0)) else (none)) else (some (l0, 0))
set_option maxHeartbeats 8000000 in
set_option maxRecDepth 100000 in
theorem spec_newReader.calls (A0 : Option Addr) (c0 : Nat) (l0 : List Int) (r1 : List Int) (r2 : Int) (w0 w : World) (hB : Below w0.heap.size w0 w) (hr0 : Kd.C (Kd.int .u8) w0 A0 l0.length l0) (hc0 : l0.length ≤ c0) (h : spec_newReader.f l0 = some (r1, r2)) :
    Calls Try.prog 55 #[.slice A0 l0.length c0] w fun e w' => ∃ g_ : Nat, e = .returned (.pointer (some ⟨g_, 0, none⟩)) ∧ IsS100 w0 w' g_ r1 r2 ∧ Below w0.heap.size w0 w' ∧ Below w.heap.size w w' := by
  have hu100 := Try.underlying100
  have HR0 := Aside0.mk hr0
  have HC0 := Aside0.mk hc0
  clear hr0 hc0
  have HBW := Aside0.mk (Below.refl w.heap.size w)
  have HW0 := Aside0.mk hB.size
  have HB := Aside0.mk hB
  clear hB
  have H : (if (l0.length : Int) > 2000 then (if 2000 ≤ (l0.length : Int) then (some (l0.take 2000, 0)) else (none)) else (some (l0, 0))) = some (r1, r2) := h
  clear h
  by_cases c2 : (l0.length : Int) > 2000
  · rw [if_pos c2] at H
    have c2b0 : decide (2000 < (l0.length : Int)) = true := decide_eq_true c2
    have c2b1 : decide (2000 < l0.length) = true := decide_eq_true (by omega)
    clear c2
    by_cases c3 : 2000 ≤ (l0.length : Int)
    · rw [if_pos c3] at H
      have c3b0 := eq_true c3
      have c3b1 : decide (2000 ≤ (l0.length : Int)) = true := decide_eq_true c3
      clear c3
      simp only [Option.some.injEq, Prod.mk.injEq] at H
      obtain ⟨rfl, rfl⟩ := H
      obtain ⟨i04, hi04, _, hsz4, _⟩ := info_parts info5
      obtain ⟨hcut4, hA4, hC4⟩ := print_take_of (P := Try.prog) (Value.int .u8) 0 35 5 .i64 Try.underlying35 hi04 hsz4 A0 c0 l0 2000 (by omega) (of_decide_eq_true (by first | (with_reducible assumption) | assumption)) HC0.out
      have HR56001 := Aside0.mk (Kd.C_of_reads (h1 := fun _ => rfl) (hA4 _ (Kd.reads_of_C HR0.out)))
      have HC56001 := Aside0.mk hC4
      clear hA4 hC4 hi04 hsz4
      go_enter Try.func55, Try.ntmps55
      go_wp2_with (first | ((with_reducible refine gate_dst (N := 10) rfl ?_); refine box_event ?hg (N := 10) ?hd (cs := #[.slice A0 (l0.take 2000).length c0, .int .i64 0]) (t := 100) ?hr ?_; (case hd => rfl); (case hg => rfl); (case hr => first | (go_simp; done) | (go_simp; rfl)); intro gb56002 hg w5 hbox hb; have n0_ := Aside0.mk (below_step HBW.out hb); have n1_ := Aside0.mk (below_step (by repeat (first | (with_reducible first | exact HB.out | apply below_alloc | apply pw_below_drewN | apply below_drew1) | exact HB.out)) hb); have n2_ := Aside0.mk (hbox); have n3_ := Aside0.mk ((by rw [hg]; exact (below_size (by repeat (first | (with_reducible first | exact HBW.out | apply below_alloc | apply pw_below_drewN | apply below_drew1) | exact HBW.out))) : w.heap.size ≤ gb56002)); have n4_ := Aside0.mk ((Nat.le_trans HW0.out (by rw [hg]; exact (below_size (by repeat (first | (with_reducible first | exact HBW.out | apply below_alloc | apply pw_below_drewN | apply below_drew1) | exact HBW.out))) : w.heap.size ≤ gb56002) : w0.heap.size ≤ gb56002)); clear HBW; clear HB; have HBW := n0_; have HB := n1_; have BK56002 := n2_; have GW56002 := n3_; have GE56002 := n4_; clear n0_ n1_ n2_ n3_ n4_; clear hb hbox hg))
      go_ret
      exact ⟨_, rfl, (show IsS100 w0 _ gb56002 (l0.take 2000) 0 from ⟨_, _, by (with_reducible repeat (first | refine blk_drewN ?_ _ | refine blk_drew ?_ | refine blk_alloc ?_ _)); exact BK56002.out, GE56002.out, HR56001.out⟩), by repeat (first | (with_reducible first | exact HB.out | apply below_alloc | apply pw_below_drewN | apply below_drew1 | refine below_set ?_ GE56002.out) | exact HB.out), by repeat (first | (with_reducible first | exact HBW.out | apply below_alloc | apply pw_below_drewN | apply below_drew1 | refine below_set ?_ GW56002.out) | exact HBW.out)⟩
    · rw [if_neg c3] at H
      exact absurd H (by simp)
  · rw [if_neg c2] at H
    have c2b0 : decide (2000 < (l0.length : Int)) = false := decide_eq_false c2
    have c2b1 : decide (2000 < l0.length) = false := decide_eq_false (by omega)
    clear c2
    simp only [Option.some.injEq, Prod.mk.injEq] at H
    obtain ⟨rfl, rfl⟩ := H
    go_enter Try.func55, Try.ntmps55
    go_wp2_with (first | ((with_reducible refine gate_dst (N := 10) rfl ?_); refine box_event ?hg (N := 10) ?hd (cs := #[.slice A0 l0.length c0, .int .i64 0]) (t := 100) ?hr ?_; (case hd => rfl); (case hg => rfl); (case hr => first | (go_simp; done) | (go_simp; rfl)); intro gb56003 hg w6 hbox hb; have n0_ := Aside0.mk (below_step HBW.out hb); have n1_ := Aside0.mk (below_step (by repeat (first | (with_reducible first | exact HB.out | apply below_alloc | apply pw_below_drewN | apply below_drew1) | exact HB.out)) hb); have n2_ := Aside0.mk (hbox); have n3_ := Aside0.mk ((by rw [hg]; exact (below_size (by repeat (first | (with_reducible first | exact HBW.out | apply below_alloc | apply pw_below_drewN | apply below_drew1) | exact HBW.out))) : w.heap.size ≤ gb56003)); have n4_ := Aside0.mk ((Nat.le_trans HW0.out (by rw [hg]; exact (below_size (by repeat (first | (with_reducible first | exact HBW.out | apply below_alloc | apply pw_below_drewN | apply below_drew1) | exact HBW.out))) : w.heap.size ≤ gb56003) : w0.heap.size ≤ gb56003)); clear HBW; clear HB; have HBW := n0_; have HB := n1_; have BK56003 := n2_; have GW56003 := n3_; have GE56003 := n4_; clear n0_ n1_ n2_ n3_ n4_; clear hb hbox hg))
    go_ret
    exact ⟨_, rfl, (show IsS100 w0 _ gb56003 l0 0 from ⟨_, _, by (with_reducible repeat (first | refine blk_drewN ?_ _ | refine blk_drew ?_ | refine blk_alloc ?_ _)); exact BK56003.out, GE56003.out, HR0.out⟩), by repeat (first | (with_reducible first | exact HB.out | apply below_alloc | apply pw_below_drewN | apply below_drew1 | refine below_set ?_ GE56003.out) | exact HB.out), by repeat (first | (with_reducible first | exact HBW.out | apply below_alloc | apply pw_below_drewN | apply below_drew1 | refine below_set ?_ GW56003.out) | exact HBW.out)⟩

end Go.Proofs.Ytbgohbinonkhfaa.Q

namespace Go.Proofs.Ytbgohbinonkhfaa.Q
open Go.RowKit Go.Proofs.YtbgohbinonkhfaaW.PrintWords Go.Proofs.YtbgohbinonkhfaaW.PrintLast Go.Proofs.YtbgohbinonkhfaaW.PrintMore
attribute [local go_sem] max2_int min2_int max_two min_two max_three min_three max_four min_four
set_option linter.unusedVariables false
set_option linter.unusedSimpArgs false
/-! ### spec_DrawChangedRegion: function 20 -/
def spec_DrawChangedRegion.f (k : Nat) (l0 : List Int) : Option (Int × Int × Int × List Int × Int × Int × Int × List Int) := (spec_newReader.f l0).bind fun bt21003 => ((spec_twoImages.f k bt21003.1 bt21003.2).bind fun bt21006 => (some (bt21006.1, bt21006.2.1, bt21006.2.2.1, bt21006.2.2.2.1, bt21006.2.2.2.2.1, bt21006.2.2.2.2.2.1, bt21006.2.2.2.2.2.2.1, bt21006.2.2.2.2.2.2.2.1)))
theorem spec_DrawChangedRegion.mono : ∀ a0 k, LeO (spec_DrawChangedRegion.f k a0) (spec_DrawChangedRegion.f (k + 1) a0) := by
  intro a0 k
  unfold spec_DrawChangedRegion.f
  repeat' first
      | (with_reducible exact spec_twoImages.mono _ _ _)
      | (with_reducible exact LeO.refl _)
      | (with_reducible exact LeO.none _)
      | (with_reducible refine LeO.ite ?_ ?_)
      | (with_reducible refine LeO.bind ?_ (fun _ => ?_))
      | exact spec_twoImages.mono _ _ _
      | exact LeO.none _
      | refine LeO.ite ?_ ?_
      | refine LeO.bind ?_ (fun _ => ?_)
set_option maxHeartbeats 8000000 in
set_option maxRecDepth 100000 in
theorem spec_DrawChangedRegion.calls (k : Nat) (A0 : Option Addr) (c0 : Nat) (l0 : List Int) (r1 : Int) (r2 : Int) (r3 : Int) (r4 : List Int) (r5 : Int) (r6 : Int) (r7 : Int) (r8 : List Int) (w : World) (hr0 : Kd.C (Kd.int .u8) w A0 l0.length l0) (hc0 : l0.length ≤ c0) (h : spec_DrawChangedRegion.f k l0 = some (r1, r2, r3, r4, r5, r6, r7, r8)) :
    Calls Try.prog 20 #[.slice A0 l0.length c0] w fun e w' => ∃ v3_ v7_ : Value, e = .returned (.tuple #[.agg #[.int .i64 r1, .int .i64 r2, .int .i64 r3, v3_], .agg #[.int .i64 r5, .int .i64 r6, .int .i64 r7, v7_]]) ∧ Kd.Q (Kd.int .i64) 3 w' w.heap.size (fun k_ => some k_ ≠ (v7_ : Value).ownBlock) v3_ r4 ∧ Kd.Q (Kd.int .i64) 3 w' w.heap.size (fun k_ => some k_ ≠ (v3_ : Value).ownBlock) v7_ r8 ∧ Below w.heap.size w w' := by
  have hu28 := Try.underlying28
  have HR0 := Aside0.mk hr0
  have HC0 := Aside0.mk hc0
  clear hr0 hc0
  have HB := Aside0.mk (Below.refl w.heap.size w)
  have H : ((spec_newReader.f l0).bind fun bt21003 => ((spec_twoImages.f k bt21003.1 bt21003.2).bind fun bt21006 => (some (bt21006.1, bt21006.2.1, bt21006.2.2.1, bt21006.2.2.2.1, bt21006.2.2.2.2.1, bt21006.2.2.2.2.2.1, bt21006.2.2.2.2.2.2.1, bt21006.2.2.2.2.2.2.2.1)))) = some (r1, r2, r3, r4, r5, r6, r7, r8) := h
  clear h
  replace H := Option.bind_eq_some_iff.mp H
  obtain ⟨⟨t21003, t21004⟩, A20, H⟩ := H
  replace H : ((spec_twoImages.f k t21003 t21004).bind fun bt21006 => (some (bt21006.1, bt21006.2.1, bt21006.2.2.1, bt21006.2.2.2.1, bt21006.2.2.2.2.1, bt21006.2.2.2.2.2.1, bt21006.2.2.2.2.2.2.1, bt21006.2.2.2.2.2.2.2.1))) = some (r1, r2, r3, r4, r5, r6, r7, r8) := H
  have A2 := Aside0.mk A20
  clear A20
  replace H := Option.bind_eq_some_iff.mp H
  obtain ⟨⟨t21006, t21007, t21008, t21009, t21012, t21013, t21014, t21015, t21018⟩, A30, H⟩ := H
  replace H : (some (t21006, t21007, t21008, t21009, t21012, t21013, t21014, t21015)) = some (r1, r2, r3, r4, r5, r6, r7, r8) := H
  have A3 := Aside0.mk A30
  clear A30
  simp only [Option.some.injEq, Prod.mk.injEq] at H
  obtain ⟨rfl, rfl, rfl, rfl, rfl, rfl, rfl, rfl⟩ := H
  go_enter Try.func20, Try.ntmps20
  go_wp2_with (first | ((with_reducible refine gate_dst (N := 2) rfl ?_); refine box_event ?hg (N := 2) ?hd (cs := #[.int .i64 0, .int .i64 0, .int .i64 0, .slice none 0 0]) (t := 28) ?hr ?_; (case hd => rfl); (case hg => rfl); (case hr => first | (go_simp; done) | (go_simp; rfl)); intro gb21001 hg w4 hbox hb; have n0_ := Aside0.mk (below_step (by repeat (first | (with_reducible first | exact HB.out | apply below_alloc | apply pw_below_drewN | apply below_drew1) | exact HB.out)) hb); have n1_ := Aside0.mk (hbox); have n2_ := Aside0.mk ((by rw [hg]; exact (below_size (by repeat (first | (with_reducible first | exact HB.out | apply below_alloc | apply pw_below_drewN | apply below_drew1) | exact HB.out))) : w.heap.size ≤ gb21001)); have n3_ := Aside0.mk ((by rw [hg]; exact (below_size (by repeat (first | (with_reducible first | exact HB.out | apply below_alloc | apply pw_below_drewN | apply below_drew1) | exact HB.out))) : w.heap.size ≤ gb21001)); clear HB; have HB := n0_; have BK21001 := n1_; have GW21001 := n2_; have GE21001 := n3_; clear n0_ n1_ n2_ n3_; clear hb hbox hg) | ((with_reducible refine gate_dst (N := 3) rfl ?_); refine box_event ?hg (N := 3) ?hd (cs := #[.int .i64 0, .int .i64 0, .int .i64 0, .slice none 0 0]) (t := 28) ?hr ?_; (case hd => rfl); (case hg => rfl); (case hr => first | (go_simp; done) | (go_simp; rfl)); intro gb21002 hg w5 hbox hb; have n0_ := Aside0.mk (blk_below (g := gb21001) (o := .cells #[.int .i64 0, .int .i64 0, .int .i64 0, .slice none 0 0] 28 (0, 0)) (by (with_reducible repeat (first | refine blk_drewN ?_ _ | refine blk_drew ?_ | refine blk_alloc ?_ _)); exact BK21001.out) hb); have n1_ := Aside0.mk (below_step (by repeat (first | (with_reducible first | exact HB.out | apply below_alloc | apply pw_below_drewN | apply below_drew1 | refine below_set ?_ GE21001.out) | exact HB.out)) hb); have n2_ := Aside0.mk (hbox); have n3_ := Aside0.mk ((by rw [hg]; exact (below_size (by repeat (first | (with_reducible first | exact HB.out | apply below_alloc | apply pw_below_drewN | apply below_drew1 | refine below_set ?_ GE21001.out) | exact HB.out))) : w.heap.size ≤ gb21002)); have n4_ := Aside0.mk ((by rw [hg]; exact (below_size (by repeat (first | (with_reducible first | exact HB.out | apply below_alloc | apply pw_below_drewN | apply below_drew1 | refine below_set ?_ GE21001.out) | exact HB.out))) : w.heap.size ≤ gb21002)); have n5_ := Aside0.mk ((by rw [hg]; exact Nat.ne_of_lt (blk_lt (g := gb21001) (o := .cells #[.int .i64 0, .int .i64 0, .int .i64 0, .slice none 0 0] 28 (0, 0)) (by (with_reducible repeat (first | refine blk_drewN ?_ _ | refine blk_drew ?_ | refine blk_alloc ?_ _)); exact BK21001.out)) : gb21001 ≠ gb21002)); have n6_ := Aside0.mk ((by rw [hg]; exact Nat.ne_of_gt (blk_lt (g := gb21001) (o := .cells #[.int .i64 0, .int .i64 0, .int .i64 0, .slice none 0 0] 28 (0, 0)) (by (with_reducible repeat (first | refine blk_drewN ?_ _ | refine blk_drew ?_ | refine blk_alloc ?_ _)); exact BK21001.out)) : gb21002 ≠ gb21001)); clear BK21001; clear HB; have BK21001 := n0_; have HB := n1_; have BK21002 := n2_; have GW21002 := n3_; have GE21002 := n4_; have NB21001_21002 := n5_; have NB21002_21001 := n6_; clear n0_ n1_ n2_ n3_ n4_ n5_ n6_; clear hb hbox hg) | ((with_reducible refine gate_callee (f := 55) rfl ?_); refine goesL_ (some 5) rfl rfl Try.func55 (by kernel_rfl) rfl #[.slice A0 l0.length c0] rfl (by (try simp only [List.map_toArray, List.map_cons, List.map_nil]); first | done | rfl | (simp only [List.length_drop, List.length_take]; rfl)) ?_; (with_reducible refine (spec_newReader.calls _ _ l0 t21003 t21004 w _ ?side1 ?side2 ?side3 A2.out).mono ?_); (case side1 => repeat (first | (with_reducible first | exact HB.out | apply below_alloc | apply pw_below_drewN | apply below_drew1 | refine below_set ?_ GE21001.out | refine below_set ?_ GE21002.out) | exact HB.out)); (case side2 => exact HR0.out); (case side3 => exact HC0.out); rintro e w6 ⟨g21005, rfl, hi, hb, hb2⟩; refine ⟨_, rfl, ?_⟩; have n0_ := Aside0.mk (blk_below (g := gb21001) (o := .cells #[.int .i64 0, .int .i64 0, .int .i64 0, .slice none 0 0] 28 (0, 0)) (by (with_reducible repeat (first | refine blk_drewN ?_ _ | refine blk_drew ?_ | refine blk_alloc ?_ _)); exact BK21001.out) hb2); have n1_ := Aside0.mk (blk_below (g := gb21002) (o := .cells #[.int .i64 0, .int .i64 0, .int .i64 0, .slice none 0 0] 28 (0, 0)) (by (with_reducible repeat (first | refine blk_drewN ?_ _ | refine blk_drew ?_ | refine blk_alloc ?_ _)); exact BK21002.out) hb2); have n2_ := Aside0.mk (hb); have n3_ := Aside0.mk (hi); have n4_ := Aside0.mk (IsS100.ne_blk hi (blk_below (g := gb21001) (o := .cells #[.int .i64 0, .int .i64 0, .int .i64 0, .slice none 0 0] 28 (0, 0)) (by (with_reducible repeat (first | refine blk_drewN ?_ _ | refine blk_drew ?_ | refine blk_alloc ?_ _)); exact BK21001.out) hb2) (by decide)); have n5_ := Aside0.mk (Ne.symm (IsS100.ne_blk hi (blk_below (g := gb21001) (o := .cells #[.int .i64 0, .int .i64 0, .int .i64 0, .slice none 0 0] 28 (0, 0)) (by (with_reducible repeat (first | refine blk_drewN ?_ _ | refine blk_drew ?_ | refine blk_alloc ?_ _)); exact BK21001.out) hb2) (by decide))); have n6_ := Aside0.mk (IsS100.ne_blk hi (blk_below (g := gb21002) (o := .cells #[.int .i64 0, .int .i64 0, .int .i64 0, .slice none 0 0] 28 (0, 0)) (by (with_reducible repeat (first | refine blk_drewN ?_ _ | refine blk_drew ?_ | refine blk_alloc ?_ _)); exact BK21002.out) hb2) (by decide)); have n7_ := Aside0.mk (Ne.symm (IsS100.ne_blk hi (blk_below (g := gb21002) (o := .cells #[.int .i64 0, .int .i64 0, .int .i64 0, .slice none 0 0] 28 (0, 0)) (by (with_reducible repeat (first | refine blk_drewN ?_ _ | refine blk_drew ?_ | refine blk_alloc ?_ _)); exact BK21002.out) hb2) (by decide))); clear BK21001; clear BK21002; clear HB; have BK21001 := n0_; have BK21002 := n1_; have HB := n2_; have HI21005 := n3_; have NB21005_21001 := n4_; have NB21001_21005 := n5_; have NB21005_21002 := n6_; have NB21002_21005 := n7_; clear n0_ n1_ n2_ n3_ n4_ n5_ n6_ n7_; (try clear hb); (try clear hb2); (try clear hk); (try clear hi)) | ((with_reducible refine gate_callee (f := 54) rfl ?_); refine goesL_ (some 6) rfl rfl Try.func54 (by kernel_rfl) rfl #[.pointer (some ⟨g21005, 0, none⟩)] rfl (by (try simp only [List.map_toArray, List.map_cons, List.map_nil]); first | done | rfl | (simp only [List.length_drop, List.length_take]; rfl)) ?_; (with_reducible refine (spec_twoImages.calls k g21005 t21003 t21004 t21006 t21007 t21008 t21009 t21012 t21013 t21014 t21015 t21018 w _ ?side1 ?side2 A3.out).mono ?_); (case side1 => repeat (first | (with_reducible first | exact HI21005.out | apply IsS100.alloc | apply IsS100.drewN | apply IsS100.drew | apply IsS100.set_1 | refine IsS100.far ?_ NB21005_21001.out _ | refine IsS100.far ?_ NB21005_21002.out _) | exact HI21005.out)); (case side2 => repeat (first | (with_reducible first | exact HB.out | apply below_alloc | apply pw_below_drewN | apply below_drew1 | refine below_set ?_ (IsS100.ge HI21005.out) | refine below_set ?_ GE21001.out | refine below_set ?_ GE21002.out) | exact HB.out)); rintro e w7 ⟨v21010, v21016, rfl, ho0, ho1, hi, hb, hk⟩; refine ⟨_, rfl, ?_⟩; have n0_ := Aside0.mk (KeepBut.blk hk (g' := gb21001) (o := .cells #[.int .i64 0, .int .i64 0, .int .i64 0, .slice none 0 0] 28 (0, 0)) (by (with_reducible repeat (first | refine blk_drewN ?_ _ | refine blk_drew ?_ | refine blk_alloc ?_ _)); exact BK21001.out) NB21001_21005.out (by simp)); have n1_ := Aside0.mk (KeepBut.blk hk (g' := gb21002) (o := .cells #[.int .i64 0, .int .i64 0, .int .i64 0, .slice none 0 0] 28 (0, 0)) (by (with_reducible repeat (first | refine blk_drewN ?_ _ | refine blk_drew ?_ | refine blk_alloc ?_ _)); exact BK21002.out) NB21002_21005.out (by simp)); have n2_ := Aside0.mk (Kd.Q_lower ho0 (below_size (by repeat (first | (with_reducible first | exact HB.out | apply below_alloc | apply pw_below_drewN | apply below_drew1 | refine below_set ?_ (IsS100.ge HI21005.out) | refine below_set ?_ GE21001.out | refine below_set ?_ GE21002.out) | exact HB.out)))); have n3_ := Aside0.mk (Kd.Q_lower ho1 (below_size (by repeat (first | (with_reducible first | exact HB.out | apply below_alloc | apply pw_below_drewN | apply below_drew1 | refine below_set ?_ (IsS100.ge HI21005.out) | refine below_set ?_ GE21001.out | refine below_set ?_ GE21002.out) | exact HB.out)))); have n4_ := Aside0.mk (hb); have n5_ := Aside0.mk (hi); clear BK21001; clear BK21002; clear HB; clear HI21005; have BK21001 := n0_; have BK21002 := n1_; have HO21011 := n2_; have HO21017 := n3_; have HB := n4_; have HI21005 := n5_; clear n0_ n1_ n2_ n3_ n4_ n5_; (try clear hb); (try clear hb2); (try clear hk); (try clear hi); (try clear ho0); (try clear ho1); have hnb8 := NB21001_21002.out; have hnc8 := NB21002_21001.out; have hnb9 := NB21001_21005.out; have hnc9 := NB21005_21001.out; have hcz10_0 : w7.cell? ⟨gb21001, 0, none⟩ = some (.int .i64 0) := (blk_cell BK21001.out 0).trans rfl; have hcz10_1 : w7.cell? ⟨gb21001, 1, none⟩ = some (.int .i64 0) := (blk_cell BK21001.out 1).trans rfl; have hcz10_2 : w7.cell? ⟨gb21001, 2, none⟩ = some (.int .i64 0) := (blk_cell BK21001.out 2).trans rfl; have hcz10_3 : w7.cell? ⟨gb21001, 3, none⟩ = some (.slice none 0 0) := (blk_cell BK21001.out 3).trans rfl; have hfz10_0 := blk_frozen BK21001.out 0; have hfz10_1 := blk_frozen BK21001.out 1; have hfz10_2 := blk_frozen BK21001.out 2; have hfz10_3 := blk_frozen BK21001.out 3; obtain ⟨Ao11, co11, eo11, _⟩ := Kd.Q_slice HO21011.out; subst eo11; have hnb12 := NB21002_21005.out; have hnc12 := NB21005_21002.out; have hcz13_0 : w7.cell? ⟨gb21002, 0, none⟩ = some (.int .i64 0) := (blk_cell BK21002.out 0).trans rfl; have hcz13_1 : w7.cell? ⟨gb21002, 1, none⟩ = some (.int .i64 0) := (blk_cell BK21002.out 1).trans rfl; have hcz13_2 : w7.cell? ⟨gb21002, 2, none⟩ = some (.int .i64 0) := (blk_cell BK21002.out 2).trans rfl; have hcz13_3 : w7.cell? ⟨gb21002, 3, none⟩ = some (.slice none 0 0) := (blk_cell BK21002.out 3).trans rfl; have hfz13_0 := blk_frozen BK21002.out 0; have hfz13_1 := blk_frozen BK21002.out 1; have hfz13_2 := blk_frozen BK21002.out 2; have hfz13_3 := blk_frozen BK21002.out 3; obtain ⟨Ao14, co14, eo14, _⟩ := Kd.Q_slice HO21017.out; subst eo14))
  refine bodyPost_ret (results_cc rfl _ _ gb21001 gb21002 28 28 #[.int .i64 t21006, .int .i64 t21007, .int .i64 t21008, .slice Ao11 t21009.length co11] #[.int .i64 t21012, .int .i64 t21013, .int .i64 t21014, .slice Ao14 t21015.length co14] (0, 0) (0, 0) _ _ rfl (by (with_reducible repeat (first | refine blk_drewN ?_ _ | refine blk_drew ?_ | refine blk_alloc ?_ _)); refine blk_far ?_ NB21001_21002.out _; (with_reducible repeat (first | refine blk_drewN ?_ _ | refine blk_drew ?_ | refine blk_alloc ?_ _)); refine blk_far ?_ NB21001_21002.out _; (with_reducible repeat (first | refine blk_drewN ?_ _ | refine blk_drew ?_ | refine blk_alloc ?_ _)); refine blk_far ?_ NB21001_21002.out _; (with_reducible repeat (first | refine blk_drewN ?_ _ | refine blk_drew ?_ | refine blk_alloc ?_ _)); refine blk_far ?_ NB21001_21002.out _; (with_reducible repeat (first | refine blk_drewN ?_ _ | refine blk_drew ?_ | refine blk_alloc ?_ _)); refine blk_put (cs := #[.int .i64 t21006, .int .i64 t21007, .int .i64 t21008, .slice none 0 0]) ?_ 3 _ rfl; (with_reducible repeat (first | refine blk_drewN ?_ _ | refine blk_drew ?_ | refine blk_alloc ?_ _)); refine blk_put (cs := #[.int .i64 t21006, .int .i64 t21007, .int .i64 0, .slice none 0 0]) ?_ 2 _ rfl; (with_reducible repeat (first | refine blk_drewN ?_ _ | refine blk_drew ?_ | refine blk_alloc ?_ _)); refine blk_put (cs := #[.int .i64 t21006, .int .i64 0, .int .i64 0, .slice none 0 0]) ?_ 1 _ rfl; (with_reducible repeat (first | refine blk_drewN ?_ _ | refine blk_drew ?_ | refine blk_alloc ?_ _)); refine blk_put (cs := #[.int .i64 0, .int .i64 0, .int .i64 0, .slice none 0 0]) ?_ 0 _ rfl; (with_reducible repeat (first | refine blk_drewN ?_ _ | refine blk_drew ?_ | refine blk_alloc ?_ _)); exact BK21001.out) Try.underlying28 rfl (by kernel_rfl) rfl (by (with_reducible repeat (first | refine blk_drewN ?_ _ | refine blk_drew ?_ | refine blk_alloc ?_ _)); refine blk_put (cs := #[.int .i64 t21012, .int .i64 t21013, .int .i64 t21014, .slice none 0 0]) ?_ 3 _ rfl; (with_reducible repeat (first | refine blk_drewN ?_ _ | refine blk_drew ?_ | refine blk_alloc ?_ _)); refine blk_put (cs := #[.int .i64 t21012, .int .i64 t21013, .int .i64 0, .slice none 0 0]) ?_ 2 _ rfl; (with_reducible repeat (first | refine blk_drewN ?_ _ | refine blk_drew ?_ | refine blk_alloc ?_ _)); refine blk_put (cs := #[.int .i64 t21012, .int .i64 0, .int .i64 0, .slice none 0 0]) ?_ 1 _ rfl; (with_reducible repeat (first | refine blk_drewN ?_ _ | refine blk_drew ?_ | refine blk_alloc ?_ _)); refine blk_put (cs := #[.int .i64 0, .int .i64 0, .int .i64 0, .slice none 0 0]) ?_ 0 _ rfl; (with_reducible repeat (first | refine blk_drewN ?_ _ | refine blk_drew ?_ | refine blk_alloc ?_ _)); refine blk_far ?_ NB21002_21001.out _; (with_reducible repeat (first | refine blk_drewN ?_ _ | refine blk_drew ?_ | refine blk_alloc ?_ _)); refine blk_far ?_ NB21002_21001.out _; (with_reducible repeat (first | refine blk_drewN ?_ _ | refine blk_drew ?_ | refine blk_alloc ?_ _)); refine blk_far ?_ NB21002_21001.out _; (with_reducible repeat (first | refine blk_drewN ?_ _ | refine blk_drew ?_ | refine blk_alloc ?_ _)); refine blk_far ?_ NB21002_21001.out _; (with_reducible repeat (first | refine blk_drewN ?_ _ | refine blk_drew ?_ | refine blk_alloc ?_ _)); exact BK21002.out) Try.underlying28 rfl (by kernel_rfl)) rfl ?_
  exact ⟨_, _, by first | rfl | (simp [errW_none, errW_some] <;> rfl) | (simp [*, errW_none, errW_some] <;> rfl), by (with_reducible repeat (first | apply Kd.Q_alloc | apply Kd.Q_drewN | apply Kd.Q_drew)); exact Kd.Q_mono (Kd.Q_far (p := ⟨gb21002, 3, none⟩) (Kd.Q_far (p := ⟨gb21002, 2, none⟩) (Kd.Q_far (p := ⟨gb21002, 1, none⟩) (Kd.Q_far (p := ⟨gb21002, 0, none⟩) (Kd.Q_far (p := ⟨gb21001, 3, none⟩) (Kd.Q_far (p := ⟨gb21001, 2, none⟩) (Kd.Q_far (p := ⟨gb21001, 1, none⟩) (Kd.Q_far (p := ⟨gb21001, 0, none⟩) (Kd.Q_types (Kd.Q_types HO21011.out BK21001.out (by decide)) BK21002.out (by decide)) (fun _ hk => hk.1.2) (.int .i64 t21006)) (fun _ hk => hk.1.2) (.int .i64 t21007)) (fun _ hk => hk.1.2) (.int .i64 t21008)) (fun _ hk => hk.1.2) (.slice Ao11 t21009.length co11)) (fun _ hk => hk.2) (.int .i64 t21012)) (fun _ hk => hk.2) (.int .i64 t21013)) (fun _ hk => hk.2) (.int .i64 t21014)) (fun _ hk => hk.2) (.slice Ao14 t21015.length co14)) (fun _ hk => hk.1.1), by (with_reducible repeat (first | apply Kd.Q_alloc | apply Kd.Q_drewN | apply Kd.Q_drew)); exact Kd.Q_mono (Kd.Q_far (p := ⟨gb21002, 3, none⟩) (Kd.Q_far (p := ⟨gb21002, 2, none⟩) (Kd.Q_far (p := ⟨gb21002, 1, none⟩) (Kd.Q_far (p := ⟨gb21002, 0, none⟩) (Kd.Q_far (p := ⟨gb21001, 3, none⟩) (Kd.Q_far (p := ⟨gb21001, 2, none⟩) (Kd.Q_far (p := ⟨gb21001, 1, none⟩) (Kd.Q_far (p := ⟨gb21001, 0, none⟩) (Kd.Q_types (Kd.Q_types HO21017.out BK21001.out (by decide)) BK21002.out (by decide)) (fun _ hk => hk.1.2) (.int .i64 t21006)) (fun _ hk => hk.1.2) (.int .i64 t21007)) (fun _ hk => hk.1.2) (.int .i64 t21008)) (fun _ hk => hk.1.2) (.slice Ao11 t21009.length co11)) (fun _ hk => hk.2) (.int .i64 t21012)) (fun _ hk => hk.2) (.int .i64 t21013)) (fun _ hk => hk.2) (.int .i64 t21014)) (fun _ hk => hk.2) (.slice Ao14 t21015.length co14)) (fun _ hk => hk.1.1), by repeat (first | (with_reducible first | exact HB.out | apply below_alloc | apply pw_below_drewN | apply below_drew1 | refine below_set ?_ (IsS100.ge HI21005.out) | refine below_set ?_ GE21001.out | refine below_set ?_ GE21002.out) | exact HB.out)⟩

end Go.Proofs.Ytbgohbinonkhfaa.Q

namespace Go.Proofs.Ytbgohbinonkhfaa.Q
open Go.RowKit Go.Proofs.YtbgohbinonkhfaaW.PrintWords Go.Proofs.YtbgohbinonkhfaaW.PrintLast Go.Proofs.YtbgohbinonkhfaaW.PrintMore
attribute [local go_sem] max2_int min2_int max_two min_two max_three min_three max_four min_four
set_option linter.unusedVariables false
set_option linter.unusedSimpArgs false
theorem eqA47 (d : Nat) (w : World) (x0 y0 : Int) (x1 y1 : Int) (x2 y2 : Int) :
    (Op.equalIn (d + 2) 47 (.agg #[.int .i64 x0, .int .i64 x1, .int .i64 x2]) (.agg #[.int .i64 y0, .int .i64 y1, .int .i64 y2])).run Try.prog w = .ok (x0 == y0 && (x1 == y1 && (x2 == y2))) w := by
  refine eqA_of Try.underlying47 (by kernel_rfl) ?_
  refine eqf_cons (by rfl) (by go_simp; rfl) (by go_simp; rfl) (by go_simp) ?_
  refine eqf_cons (by rfl) (by go_simp; rfl) (by go_simp; rfl) (by go_simp) ?_
  exact eqf_last (by rfl) (by go_simp; rfl) (by go_simp; rfl) (by go_simp)
end Go.Proofs.Ytbgohbinonkhfaa.Q

namespace Go.Proofs.Ytbgohbinonkhfaa.Q
open Go.RowKit Go.Proofs.YtbgohbinonkhfaaW.PrintWords Go.Proofs.YtbgohbinonkhfaaW.PrintLast Go.Proofs.YtbgohbinonkhfaaW.PrintMore
attribute [local go_sem] max2_int min2_int max_two min_two max_three min_three max_four min_four
set_option linter.unusedVariables false
set_option linter.unusedSimpArgs false
attribute [local go_sem high] eqA47
/-! ### laws_equalRuns: function 21 -/
def laws_equalRuns.l0 : Nat → List (S47) → List (S47) → Int → Option (Bool)
  | 0, _, _, _ => none
  | k + 1, x0, x1, x5 => if x5 < (x0.length : Int) then (if 0 ≤ x5 then (if x5 < (x1.length : Int) then (if (!(((rd_T47 x0 x5).f0) == ((rd_T47 x1 x5).f0)) || (!(((rd_T47 x0 x5).f1) == ((rd_T47 x1 x5).f1)) || (!(((rd_T47 x0 x5).f2) == ((rd_T47 x1 x5).f2))))) = true then (some false) else (laws_equalRuns.l0 k x0 x1 (wrap64 (x5 + 1)))) else (none)) else (none)) else (some true)
def laws_equalRuns.f (k : Nat) (l0 : List (S47)) (l1 : List (S47)) : Option (Bool) := if (l0.length : Int) = (l1.length : Int) then (laws_equalRuns.l0 k l0 l1 0) else (some false)
theorem laws_equalRuns.mono_l : ∀ k, (∀ y0 y1 y2, LeO (laws_equalRuns.l0 k y0 y1 y2) (laws_equalRuns.l0 (k + 1) y0 y1 y2))
  | 0 => fun _ _ _ r h => by simp [laws_equalRuns.l0] at h
  | k + 1 => by
    have ih0 := laws_equalRuns.mono_l k
    · intro y0 y1 y2
      unfold laws_equalRuns.l0
      repeat' first
      | (with_reducible exact ih0 _ _ _)
      | (with_reducible exact LeO.refl _)
      | (with_reducible exact LeO.none _)
      | (with_reducible refine LeO.ite ?_ ?_)
      | (with_reducible refine LeO.bind ?_ (fun _ => ?_))
      | exact ih0 _ _ _
      | exact LeO.none _
      | refine LeO.ite ?_ ?_
      | refine LeO.bind ?_ (fun _ => ?_)
theorem laws_equalRuns.mono : ∀ a0 a1 k, LeO (laws_equalRuns.f k a0 a1) (laws_equalRuns.f (k + 1) a0 a1) := by
  intro a0 a1 k
  have ih0 := laws_equalRuns.mono_l k
  unfold laws_equalRuns.f
  repeat' first
      | (with_reducible exact ih0 _ _ _)
      | (with_reducible exact LeO.refl _)
      | (with_reducible exact LeO.none _)
      | (with_reducible refine LeO.ite ?_ ?_)
      | (with_reducible refine LeO.bind ?_ (fun _ => ?_))
      | exact ih0 _ _ _
      | exact LeO.none _
      | refine LeO.ite ?_ ?_
      | refine LeO.bind ?_ (fun _ => ?_)
set_option maxHeartbeats 8000000 in
set_option maxRecDepth 100000 in
theorem laws_equalRuns.calls (k : Nat) (A0 : Option Addr) (c0 : Nat) (l0 : List (S47)) (A1 : Option Addr) (c1 : Nat) (l1 : List (S47)) (r : Bool) (w : World) (hr0 : Kd.C k47 w A0 l0.length l0) (hc0 : l0.length ≤ c0) (hr1 : Kd.C k47 w A1 l1.length l1) (hc1 : l1.length ≤ c1) (h : laws_equalRuns.f k l0 l1 = some r) :
    Calls Try.prog 21 #[.slice A0 l0.length c0, .slice A1 l1.length c1] w fun e w' => e = .returned (.bool r) ∧ Drawn0 w w' := by
  have hu47 := Try.underlying47
  have HR0 := Aside0.mk hr0
  have HC0 := Aside0.mk hc0
  clear hr0 hc0
  have HR1 := Aside0.mk hr1
  have HC1 := Aside0.mk hc1
  clear hr1 hc1
  have H : (if (l0.length : Int) = (l1.length : Int) then (laws_equalRuns.l0 k l0 l1 0) else (some false)) = some r := h
  clear h
  by_cases c3 : (l0.length : Int) = (l1.length : Int)
  · rw [if_pos c3] at H
    have c3b0 : ((l0.length : Int) == (l1.length : Int)) = true := beq_iff_eq.mpr c3
    have c3b1 : ((l0.length : Int) != (l1.length : Int)) = false := bne_eq_false_iff_eq.mpr c3
    have c3b2 : (l0.length == l1.length) = true := by first | simpa using c3 | (simp at c3 ⊢; omega)
    clear c3
    have H' := Aside0.mk H
    clear H
    go_enter Try.func21, Try.ntmps21
    go_wp2
    repeat (go_quiet (fail); try go_wp2)
    go_loopg [5] k (fun kq v5 w' => ∃ (x5_1 : Int), v5 = .int .i64 x5_1 ∧ Aside0 (laws_equalRuns.l0 kq l0 l1 x5_1 = some r) ∧ Aside0 (kq ≤ k) ∧ Drawn0 w w')
    case atStart => exact ⟨(0), (by first | rfl | (simp; done) | (simp [*]; done)), H', ⟨Nat.le_refl _⟩, by repeat (first | exact Drawn0.refl _ | apply Drawn0.step)⟩
    case round =>
      clear H'
      try clear c1
      try clear c2
      try clear p2
      try clear c3
      try clear c3b0
      try clear c3b1
      try clear c3b2
      obtain ⟨x5_1, rfl, HA, HK1, ⟨m1, rfl⟩⟩ := hrel
      cases gk with
      | zero => exact absurd HA.out (by simp [laws_equalRuns.l0])
      | succ k1 =>
        have H := HA.out
        clear HA
        simp only [laws_equalRuns.l0] at H
        by_cases c4 : x5_1 < (l0.length : Int)
        · rw [if_pos c4] at H
          have c4b0 : decide (x5_1 < (l0.length : Int)) = true := decide_eq_true c4
          clear c4
          by_cases c5 : 0 ≤ x5_1
          · rw [if_pos c5] at H
            have c5b0 : decide (0 ≤ x5_1) = true := decide_eq_true c5
            clear c5
            by_cases c6 : x5_1 < (l1.length : Int)
            · rw [if_pos c6] at H
              have c6b0 : decide (x5_1 < (l1.length : Int)) = true := decide_eq_true c6
              clear c6
              by_cases c7 : (!(((rd_T47 l0 x5_1).f0) == ((rd_T47 l1 x5_1).f0)) || (!(((rd_T47 l0 x5_1).f1) == ((rd_T47 l1 x5_1).f1)) || (!(((rd_T47 l0 x5_1).f2) == ((rd_T47 l1 x5_1).f2))))) = true
              · rw [if_pos c7] at H
                have c7b0 : (!(((rd_T47 l0 x5_1).f0) == ((rd_T47 l1 x5_1).f0)) || (!(((rd_T47 l0 x5_1).f1) == ((rd_T47 l1 x5_1).f1)) || (!(((rd_T47 l0 x5_1).f2) == ((rd_T47 l1 x5_1).f2))))) = true := c7
                clear c7
                obtain rfl := Option.some.inj H
                have p22001 : 0 ≤ (x5_1 : Int) := of_decide_eq_true (by first | (with_reducible assumption) | assumption)
                have q22001 : x5_1 < (l0.length : Int) := of_decide_eq_true (by first | (with_reducible assumption) | assumption)
                obtain ⟨ad22001, e22001, hx22001_0, hx22001_1, hx22001_2⟩ := at_T47 HR0.out x5_1 p22001 q22001
                cases e22001
                replace p22001 := eq_true p22001
                replace q22001 := eq_true q22001
                have p22002 : 0 ≤ (x5_1 : Int) := of_decide_eq_true (by first | (with_reducible assumption) | assumption)
                have q22002 : x5_1 < (l1.length : Int) := of_decide_eq_true (by first | (with_reducible assumption) | assumption)
                obtain ⟨ad22002, e22002, hx22002_0, hx22002_1, hx22002_2⟩ := at_T47 HR1.out x5_1 p22002 q22002
                cases e22002
                replace p22002 := eq_true p22002
                replace q22002 := eq_true q22002
                go_wp2
                repeat (go_quiet (fail); try go_wp2)
                go_ret
                exact ⟨by first | rfl | (simp; done) | (simp [*]; done), by repeat (first | exact Drawn0.refl _ | apply Drawn0.step)⟩
              · rw [if_neg c7] at H
                have c7b0 : (!(((rd_T47 l0 x5_1).f0) == ((rd_T47 l1 x5_1).f0)) || (!(((rd_T47 l0 x5_1).f1) == ((rd_T47 l1 x5_1).f1)) || (!(((rd_T47 l0 x5_1).f2) == ((rd_T47 l1 x5_1).f2))))) = false := by simpa using c7
                clear c7
                have H' := Aside0.mk H
                clear H
                have p22001 : 0 ≤ (x5_1 : Int) := of_decide_eq_true (by first | (with_reducible assumption) | assumption)
                have q22001 : x5_1 < (l0.length : Int) := of_decide_eq_true (by first | (with_reducible assumption) | assumption)
                obtain ⟨ad22001, e22001, hx22001_0, hx22001_1, hx22001_2⟩ := at_T47 HR0.out x5_1 p22001 q22001
                cases e22001
                replace p22001 := eq_true p22001
                replace q22001 := eq_true q22001
                have p22002 : 0 ≤ (x5_1 : Int) := of_decide_eq_true (by first | (with_reducible assumption) | assumption)
                have q22002 : x5_1 < (l1.length : Int) := of_decide_eq_true (by first | (with_reducible assumption) | assumption)
                obtain ⟨ad22002, e22002, hx22002_0, hx22002_1, hx22002_2⟩ := at_T47 HR1.out x5_1 p22002 q22002
                cases e22002
                replace p22002 := eq_true p22002
                replace q22002 := eq_true q22002
                go_wp2
                repeat (go_quiet (fail); try go_wp2)
                go_roundg k1
                case measure => have := HK1.out; omega
                case rel => exact ⟨(wrap64 (x5_1 + 1)), (by first | rfl | (simp; done) | (simp [*]; done)), H', ⟨by have := HK1.out; omega⟩, by repeat (first | exact Drawn0.refl _ | apply Drawn0.step)⟩
            · rw [if_neg c6] at H
              exact absurd H (by simp)
          · rw [if_neg c5] at H
            exact absurd H (by simp)
        · rw [if_neg c4] at H
          have c4b0 : decide (x5_1 < (l0.length : Int)) = false := decide_eq_false c4
          clear c4
          obtain rfl := Option.some.inj H
          go_wp2
          repeat (go_quiet (fail); try go_wp2)
          go_ret
          exact ⟨by first | rfl | (simp; done) | (simp [*]; done), by repeat (first | exact Drawn0.refl _ | apply Drawn0.step)⟩
  · rw [if_neg c3] at H
    have c3b0 : ((l0.length : Int) == (l1.length : Int)) = false := beq_eq_false_iff_ne.mpr c3
    have c3b1 : ((l0.length : Int) != (l1.length : Int)) = true := bne_iff_ne.mpr c3
    have c3b2 : (l0.length == l1.length) = false := by first | simpa using c3 | (simp at c3 ⊢; omega)
    obtain rfl := Option.some.inj H
    go_enter Try.func21, Try.ntmps21
    go_wp2
    repeat (go_quiet (fail); try go_wp2)
    go_ret
    exact ⟨by first | rfl | (simp; done) | (simp [*]; done), by repeat (first | exact Drawn0.refl _ | apply Drawn0.step)⟩

end Go.Proofs.Ytbgohbinonkhfaa.Q

/- impl.gridOf: the grid of runs that are in range. -/
namespace Go.Proofs.Ytbgohbinonkhfaa.Q
open Go.RowKit Go.Proofs.YtbgohbinonkhfaaW.PrintWords Go.Proofs.YtbgohbinonkhfaaW.PrintLast Go.Proofs.YtbgohbinonkhfaaW.PrintMore
attribute [local go_sem] max2_int min2_int max_two min_two max_three min_three max_four min_four
set_option linter.unusedVariables false
set_option linter.unusedSimpArgs false

def runIn (r : S47) (p : Nat) : Bool := decide (r.f0 = ((p / 16 : Nat) : Int)) && decide (r.f1 ≤ ((p % 16 : Nat) : Int)) && decide (((p % 16 : Nat) : Int) < r.f2)
def gridF (l : List S47) (p : Nat) : Bool := l.any fun r => runIn r p
theorem gridF_succ (l : List S47) (k : Nat) (h : k < l.length) (p : Nat) : gridF (l.take (k + 1)) p = (gridF (l.take k) p || runIn l[k] p) := by
  unfold gridF
  rw [List.take_succ_eq_append_getElem h, List.any_append]; simp
/-- a run's pixels before column x -/
def runTo (r : S47) (x : Nat) (p : Nat) : Bool := decide (r.f0 = ((p / 16 : Nat) : Int)) && decide (r.f1 ≤ ((p % 16 : Nat) : Int)) && decide (p % 16 < x)
theorem runTo_step (r : S47) (Y x : Nat) (hY : r.f0 = (Y : Int)) (hx : x < 16) (hF : r.f1 ≤ (x : Int)) (g : Nat → Bool) (p : Nat) :
    (if p = Y * 16 + x then true else (g p || runTo r x p)) = (g p || runTo r (x + 1) p) := by
  unfold runTo
  by_cases e : p = Y * 16 + x
  · rw [if_pos e]
    have h1 : p % 16 = x := by omega
    have h2 : p / 16 = Y := by omega
    rw [h1, h2, hY]
    simp [hF]
  · rw [if_neg e]
    congr 1
    by_cases c1 : r.f0 = ((p / 16 : Nat) : Int)
    · have : decide (p % 16 < x) = decide (p % 16 < x + 1) := by
        rw [decide_eq_decide]
        have : p % 16 ≠ x := by omega
        omega
      rw [this]
    · rw [decide_eq_false c1, Bool.false_and, Bool.false_and, Bool.false_and]

set_option maxHeartbeats 8000000 in
set_option maxRecDepth 100000 in
theorem gridOf_calls (A0 : Option Addr) (c0 : Nat) (l0 : List S47) (w : World) (hr0 : Kd.C k47 w A0 l0.length l0) (hok : ∀ r ∈ l0, 0 ≤ r.f0 ∧ r.f0 < 16 ∧ 0 ≤ r.f1 ∧ r.f2 ≤ 16) :
    Calls Try.prog 57 #[.slice A0 l0.length c0] w fun e w' => e = .returned (.agg (gc (gridF l0))) ∧ Below w.heap.size w w' := by
  have hm : l0.length ≤ 9223372036854775807 := hr0.2.1
  have HR := Aside0.mk hr0
  have HOK := Aside0.mk hok
  clear hr0 hok
  have hu := Try.underlying47
  have z0 := zero66
  have hst := run_storeCells_new (P := Try.prog) (w.alloc (.cells (gc fun _ => false) 75)) 75 (gc fun _ => false) (gc fun _ => false) (by rw [gc_size]; exact info66) rfl (gc_one _)
  simp only [World.size_alloc] at hst
  go_enter Try.func57, Try.ntmps57
  go_wp2
  go_loopw [10] (fun v10 W => ∃ k : Nat, v10 = .int .i64 k ∧ k ≤ l0.length ∧ GridAt W (w.heap.size + 1) (gridF (l0.take k)) ∧ GridAt W w.heap.size (fun _ => false) ∧ Aside0 (Below w.heap.size w W)) (fun v10 _ => l0.length - (intOf v10).toNat)
  case atStart =>
    refine ⟨0, rfl, by omega, ?_, (GridAt.new _ _).alloc _, ⟨((Below.refl _ _).alloc (Nat.le_refl _) _).alloc (by simp) _⟩⟩
    have h := GridAt.new (w.alloc (.cells (gc fun _ => false) 75)) (fun _ => false)
    simp only [World.size_alloc] at h
    exact h.congr (fun p _ => by simp [gridF])
  case round =>
    obtain ⟨k, rfl, hk, hg, hg2, hb⟩ := hrel
    clear hst
    obtain ⟨wo, rfl⟩ : ∃ wo : World, wo = wr := ⟨_, rfl⟩
    by_cases hlt : k < l0.length
    · have hdk : decide ((k : Int) < (l0.length : Int)) = true := by simp; omega
      obtain ⟨ad, e, hx0, hx1, hx2⟩ := at_T47 HR.out (k : Int) (by omega) (by omega)
      cases e
      have er : rd_T47 l0 (k : Int) = l0[k] := by simp [rd_T47, hlt]
      have ho := HOK.out l0[k] (List.getElem_mem hlt)
      have HGS := Aside0.mk (gridF_succ l0 k hlt)
      rw [er, Int.toNat_natCast] at hx0 hx1 hx2
      clear er
      generalize l0[k] = r at *
      obtain ⟨Y, hY⟩ := Int.eq_ofNat_of_zero_le ho.1
      obtain ⟨F, hF⟩ := Int.eq_ofNat_of_zero_le ho.2.2.1
      have ho2 := ho.2.1
      have ho4 := ho.2.2.2
      clear ho
      rw [hY] at hx0 ho2
      rw [hF] at hx1
      replace hx0 := (hb.out.cell (World.block_lt_of_cell? w _ hx0)).trans hx0
      replace hx1 := (hb.out.cell (World.block_lt_of_cell? w _ hx1)).trans hx1
      replace hx2 := (hb.out.cell (World.block_lt_of_cell? w _ hx2)).trans hx2
      have HY := Aside0.mk hY
      have HF := Aside0.mk hF
      clear hY hF
      go_wp2
      have hlt2 := hg.lt
      go_loopw [6] (fun v6 W => ∃ x : Nat, v6 = .int .i64 x ∧ F ≤ x ∧ ((x : Int) ≤ r.f2 ∨ x = F) ∧ GridAt W (w.heap.size + 1) (fun p => gridF (l0.take k) p || runTo r x p) ∧ GridAt W w.heap.size (fun _ => false) ∧ Aside0 (W.heap[wo.heap.size]? = some (.cells #[.int .i64 (Y : Int), .int .i64 (F : Int), .int .i64 r.f2] 47 (0, 0))) ∧ Aside0 (Below w.heap.size w W)) (fun v6 _ => 17 - (intOf v6).toNat + (r.f2 - (intOf v6)).toNat)
      case atStart =>
        refine ⟨F, rfl, Nat.le_refl _, .inr rfl, (hg.alloc _).congr (fun p _ => ?_), hg2.alloc _, ⟨blk_new _ _⟩, ⟨below_alloc hb.out _⟩⟩
        have : runTo r F p = false := by
          unfold runTo
          rw [HF.out]
          by_cases c : ((F : Nat) : Int) ≤ ((p % 16 : Nat) : Int)
          · rw [decide_eq_false (show ¬ p % 16 < F by omega), Bool.and_false]
          · rw [decide_eq_false c, Bool.and_false, Bool.false_and]
        rw [this, Bool.or_false]
      case round =>
        clear hg hg2 hb
        obtain ⟨x, rfl, hFx, hx, hg, hg2, hr, hb⟩ := hrel
        have hc0 : wr.cell? ⟨wo.heap.size, 0, none⟩ = some (.int .i64 (Y : Int)) := (blk_cell hr.out 0).trans rfl
        have hc2 : wr.cell? ⟨wo.heap.size, 2, none⟩ = some (.int .i64 r.f2) := (blk_cell hr.out 2).trans rfl
        by_cases hxt : (x : Int) < r.f2
        · have hdx : decide ((x : Int) < r.f2) = true := by simpa using hxt
          have hcg := hg.cell (Y * 16 + x) (by omega)
          have hfg := hg.free (Y * 16 + x)
          have hx16 : x < 16 := by omega
          go_wp2
          go_roundw
          case rel => exact ⟨x + 1, by go_num, by omega, .inl (by omega), (hg.set_ (Y * 16 + x) true).congr (fun p _ => runTo_step r Y x HY.out hx16 (by rw [HF.out]; omega) _ p), blk_far hg2 (by simp) _, ⟨blk_far hr.out (by simp; omega) _⟩, ⟨below_set hb.out (by omega)⟩⟩
          case measure => simp [intOf]; omega
        · have hdx : decide ((x : Int) < r.f2) = false := by simpa using hxt
          go_wp2
          go_roundw
          case rel =>
            refine ⟨k + 1, by go_num, by omega, hg.congr (fun p _ => ?_), hg2, hb⟩
            rw [HGS.out]
            congr 1
            unfold runTo runIn
            rw [HF.out]
            by_cases c : ((F : Nat) : Int) ≤ ((p % 16 : Nat) : Int)
            · congr 1
              rw [decide_eq_decide]
              omega
            · rw [decide_eq_false c, Bool.and_false, Bool.false_and, Bool.false_and]
          case measure => simp [intOf]; omega
    · have hdk : decide ((k : Int) < (l0.length : Int)) = false := by simp; omega
      have hkl : k = l0.length := by omega
      subst hkl
      have hi : (Try.prog.info? 75).map (·.size) = some (gc (gridF l0)).size := by rw [gc_size]; exact info66
      have hold : (gc fun _ => false).size = (gc (gridF l0)).size := by rw [gc_size, gc_size]
      have h1 := gc_one (gridF l0)
      rw [List.take_length] at hg
      have hg' : wo.heap[w.heap.size + 1]? = some (.cells (gc (gridF l0)) 75 (0, 0)) := hg
      have hg2' : wo.heap[w.heap.size]? = some (.cells (gc fun _ => false) 75 (0, 0)) := hg2
      go_wp2_with (first
        | ((with_reducible refine gate_dst (N := 28) rfl ?_); refine wpList_load_row rfl 75 (.tmp 3) rfl (w.heap.size + 1) rfl 75 (gc (gridF l0)) (0, 0) (.array 16 73) hg' underlying66 rfl hi ?_)
        | ((with_reducible refine wpList_store_row rfl 75 (.tmp 2) (.tmp 28) rfl w.heap.size (gc (gridF l0)) ?hx ?hy 75 (gc fun _ => false) hg2' hi hold h1 ?_); (case hx => rfl); (case hy => rfl)))
      refine bodyPost_ret (results_cell_row rfl _ _ w.heap.size 75 (gc (gridF l0)) (0, 0) (.array 16 73) rfl (hg2.setRow (gridF l0)) underlying66 rfl hi) rfl ?_
      exact ⟨rfl, below_setRow hb.out (Nat.le_refl _) _⟩
end Go.Proofs.Ytbgohbinonkhfaa.Q

/- (impl.grid).has: whether a pixel, which may be anywhere, is in a grid. -/
namespace Go.Proofs.Ytbgohbinonkhfaa.Q
open Go.RowKit Go.Proofs.YtbgohbinonkhfaaW.PrintWords Go.Proofs.YtbgohbinonkhfaaW.PrintLast Go.Proofs.YtbgohbinonkhfaaW.PrintMore
attribute [local go_sem] max2_int min2_int max_two min_two max_three min_three max_four min_four
set_option linter.unusedVariables false
set_option linter.unusedSimpArgs false

def hasP (g : Nat → Bool) (x y : Int) : Bool := decide (x ≥ 0) && decide (x < 16) && decide (y ≥ 0) && decide (y < 16) && g (y.toNat * 16 + x.toNat)

set_option maxHeartbeats 2000000 in
set_option maxRecDepth 100000 in
theorem has_calls (g : Nat → Bool) (x y : Int) (w : World) :
    Calls Try.prog 58 #[.agg (gc g), .int .i64 x, .int .i64 y] w fun e w' => e = .returned (.bool (hasP g x y)) ∧ Below w.heap.size w w' := by
  have hB := Aside0.mk (below_alloc (Below.refl w.heap.size w) (.cells (gc g) 75))
  have hgs := gc_size g
  by_cases h1 : x ≥ 0
  · have d1 : decide (0 ≤ x) = true := by simpa using h1
    by_cases h2 : x < 16
    · have d2 : decide (x < 16) = true := by simpa using h2
      by_cases h3 : y ≥ 0
      · have d3 : decide (0 ≤ y) = true := by simpa using h3
        by_cases h4 : y < 16
        · have d4 : decide (y < 16) = true := by simpa using h4
          obtain ⟨x, rfl⟩ := Int.eq_ofNat_of_zero_le h1
          obtain ⟨y, rfl⟩ := Int.eq_ofNat_of_zero_le h3
          have hE := Aside0.mk (show hasP g (x : Int) (y : Int) = g (y * 16 + x) by simp [hasP]; omega)
          have hc := (GridAt.new w g).cell (y * 16 + x) (by omega)
          go_enter Try.func58, Try.ntmps58
          go_wp2
          go_ret
          exact ⟨by rw [hE.out]; rfl, hB.out⟩
        · have d4 : decide (y < 16) = false := by simpa using h4
          have hE := Aside0.mk (show hasP g x y = false by simp [hasP, h4])
          go_enter Try.func58, Try.ntmps58
          go_wp2
          go_ret
          exact ⟨by rw [hE.out]; rfl, hB.out⟩
      · have d3 : decide (0 ≤ y) = false := by simpa using h3
        have hE := Aside0.mk (show hasP g x y = false by simp [hasP, h3])
        go_enter Try.func58, Try.ntmps58
        go_wp2
        go_ret
        exact ⟨by rw [hE.out]; rfl, hB.out⟩
    · have d2 : decide (x < 16) = false := by simpa using h2
      have hE := Aside0.mk (show hasP g x y = false by simp [hasP, h2])
      go_enter Try.func58, Try.ntmps58
      go_wp2
      go_ret
      exact ⟨by rw [hE.out]; rfl, hB.out⟩
  · have d1 : decide (0 ≤ x) = false := by simpa using h1
    have hE := Aside0.mk (show hasP g x y = false by simp [hasP, h1])
    go_enter Try.func58, Try.ntmps58
    go_wp2
    go_ret
    exact ⟨by rw [hE.out]; rfl, hB.out⟩
end Go.Proofs.Ytbgohbinonkhfaa.Q
