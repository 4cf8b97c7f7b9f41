/- A part of the proof that the statement FnChangedBoxesSaid holds, under no condition of its own: Boxes have all changes: the law FnChangedBoxes over lists of numbers alone. -/
import Derived.Test.YtbgohbinonkhfaaCFnChangedBoxes1
import Derived.Test.YtbgohbinonkhfaaCFnChangedBoxes4
import Derived.Test.YtbgohbinonkhfaaCFnChangedBoxes2
import Derived.Test.YtbgohbinonkhfaaCFnChangedBoxes3
namespace Go.Proofs.Ytbgohbinonkhfaa.Q
open Go.RowKit Go.Proofs.YtbgohbinonkhfaaW.PrintWords Go.Proofs.YtbgohbinonkhfaaW.PrintLast Go.Proofs.YtbgohbinonkhfaaW.PrintMore
attribute [local go_sem] max2_int min2_int max_two min_two max_three min_three max_four min_four
set_option linter.unusedVariables false
set_option linter.unusedSimpArgs false
mutual
def spec_twoImages.l0 : Nat → Int → List Int → Int → Int → Int → Int → List Int → Int → Int → Int → List Int → Option (Int × Int × Int × List Int × Int × Int × Int × List Int × Int)
  | 0, _, _, _, _, _, _, _, _, _, _, _ => none
  | k + 1, x6, x1000, x1001, x55011000, x55011001, x55011002, x55011003, x55015000, x55015001, x55015002, x55015003 => if x6 > 0 then (spec_twoImages.j1 k x6 (decide ((x55015003.length : Int) > 0)) x1000 x1001 x55011000 x55011001 x55011002 x55011003 x55015000 x55015001 x55015002 x55015003) else (spec_twoImages.j1 k x6 false x1000 x1001 x55011000 x55011001 x55011002 x55011003 x55015000 x55015001 x55015002 x55015003)
def spec_twoImages.j1 : Nat → Int → Bool → List Int → Int → Int → Int → Int → List Int → Int → Int → Int → List Int → Option (Int × Int × Int × List Int × Int × Int × Int × List Int × Int)
  | 0, _, _, _, _, _, _, _, _, _, _, _, _ => none
  | k + 1, x6, x28, x1000, x1001, x55011000, x55011001, x55011002, x55011003, x55015000, x55015001, x55015002, x55015003 => if x28 = true then ((spec_reader_pick.f k x1000 x1001 (x55015003.length : Int)).bind fun bt55017 => ((spec_reader_pick.f k x1000 bt55017.2 256).bind fun bt55019 => (if 0 ≤ bt55017.1 then (if bt55017.1 < (x55015003.length : Int) then (spec_twoImages.l0 k (wrap64 (x6 - 1)) x1000 bt55019.2 x55011000 x55011001 x55011002 x55011003 x55015000 x55015001 x55015002 (x55015003.set (bt55017.1 : Int).toNat bt55019.1)) else none) else none))) else ((spec_reader_pick.f k x1000 x1001 16).bind fun bt55022 => (if bt55022.1 = 0 then ((spec_anyImage.f k x1000 bt55022.2).bind fun bt55024 => (some (x55011000, x55011001, x55011002, x55011003, bt55024.1, bt55024.2.1, bt55024.2.2.1, bt55024.2.2.2.1, bt55024.2.2.2.2))) else (some (x55011000, x55011001, x55011002, x55011003, x55015000, x55015001, x55015002, x55015003, bt55022.2))))
end
def spec_twoImages.f (k : Nat) (s0_0 : List Int) (s0_1 : Int) : Option (Int × Int × Int × List Int × Int × Int × Int × List Int × Int) := (spec_anyImage.f k s0_0 s0_1).bind fun bt55003 => ((spec_copyInts.f bt55003.2.2.2.1).bind fun t55011 => ((spec_reader_pick.f k s0_0 bt55003.2.2.2.2 6).bind fun bt55015 => (spec_twoImages.l0 k bt55015.1 s0_0 bt55015.2 bt55003.1 bt55003.2.1 bt55003.2.2.1 bt55003.2.2.2.1 bt55003.1 bt55003.2.1 bt55003.2.2.1 t55011)))
theorem spec_twoImages.mono_l : ∀ k, (∀ y0 y1 y2 y3 y4 y5 y6 y7 y8 y9 y10, LeO (spec_twoImages.l0 k y0 y1 y2 y3 y4 y5 y6 y7 y8 y9 y10) (spec_twoImages.l0 (k + 1) y0 y1 y2 y3 y4 y5 y6 y7 y8 y9 y10)) ∧ (∀ y0 y1 y2 y3 y4 y5 y6 y7 y8 y9 y10 y11, LeO (spec_twoImages.j1 k y0 y1 y2 y3 y4 y5 y6 y7 y8 y9 y10 y11) (spec_twoImages.j1 (k + 1) y0 y1 y2 y3 y4 y5 y6 y7 y8 y9 y10 y11))
  | 0 => ⟨fun _ _ _ _ _ _ _ _ _ _ _ r h => by simp [spec_twoImages.l0] at h, fun _ _ _ _ _ _ _ _ _ _ _ _ r h => by simp [spec_twoImages.j1] at h⟩
  | k + 1 => by
    obtain ⟨ih0, ih1⟩ := spec_twoImages.mono_l k
    refine ⟨?_, ?_⟩
    · intro y0 y1 y2 y3 y4 y5 y6 y7 y8 y9 y10
      unfold spec_twoImages.l0
      repeat' first | (with_reducible exact ih1 _ _ _ _ _ _ _ _ _ _ _ _) | (with_reducible refine LeO.ite ?_ ?_)
    · intro y0 y1 y2 y3 y4 y5 y6 y7 y8 y9 y10 y11
      unfold spec_twoImages.j1
      repeat' first | (with_reducible exact ih0 _ _ _ _ _ _ _ _ _ _ _) | (with_reducible exact spec_anyImage.mono _ _ _) | (with_reducible exact spec_reader_pick.mono _ _ _ _) | (with_reducible exact LeO.refl _) | (with_reducible refine LeO.ite ?_ ?_) | (with_reducible refine LeO.bind ?_ (fun _ => ?_))
theorem spec_twoImages.mono : ∀ a0 a1 k, LeO (spec_twoImages.f k a0 a1) (spec_twoImages.f (k + 1) a0 a1) := by
  intro a0 a1 k
  obtain ⟨ih0, ih1⟩ := spec_twoImages.mono_l k
  unfold spec_twoImages.f
  repeat' first | (with_reducible exact ih0 _ _ _ _ _ _ _ _ _ _ _) | (with_reducible exact spec_anyImage.mono _ _ _) | (with_reducible exact spec_reader_pick.mono _ _ _ _) | (with_reducible exact LeO.refl _) | (with_reducible refine LeO.bind ?_ (fun _ => ?_))
def spec_twoImages.T2 : Bool × List (List Nat × List Nat) := (true, [([], []), ([0], [0]), ([], []), ([2], [2]), ([], []), ([4], [4]), ([], []), ([6], [6]), ([7], [7]), ([1, 3, 5, 8], [1, 3, 5, 8]), ([], []), ([10, 9, 8, 0, 1, 2, 3, 4, 5, 6, 7, 8, 9, 10], [9, 10])])
def spec_twoImages.B2 : List Nat := [0, 1, 0, 4, 0, 16, 0, 64, 192, 511, 0, 2047]
theorem spec_twoImages.tab2 : rtab .any (opsOf Try.f54 2) = spec_twoImages.T2 := by kernel_rfl
theorem spec_twoImages.bits2 : waitsOk spec_twoImages.T2.2 spec_twoImages.B2 = true := by kernel_rfl
def spec_twoImages.T6 : Bool × List (List Nat × List Nat) := (true, [([], []), ([0], [0]), ([], []), ([], []), ([3], [3]), ([4], [4]), ([2, 5], [2, 5]), ([], []), ([7, 6], [7]), ([1, 6, 0, 1, 2, 3, 4, 5, 6, 7, 8], [1, 6]), ([9, 8, 8, 0, 1, 2, 3, 4, 5, 6, 7, 8], [8, 9])])
def spec_twoImages.B6 : List Nat := [0, 1, 0, 0, 8, 24, 60, 0, 252, 511, 1023]
theorem spec_twoImages.tab6 : rtab .any (opsOf Try.f54 6) = spec_twoImages.T6 := by kernel_rfl
theorem spec_twoImages.bits6 : waitsOk spec_twoImages.T6.2 spec_twoImages.B6 = true := by kernel_rfl
set_option maxHeartbeats 8000000 in
set_option maxRecDepth 100000 in
theorem spec_twoImages.calls (k : Nat) (g : Nat) (s0_0 : List Int) (s0_1 : Int) (r1 : Int) (r2 : Int) (r3 : Int) (r4 : List Int) (r5 : Int) (r6 : Int) (r7 : Int) (r8 : List Int) (r9 : Int) (w0 w : World) (hI : IsS100 w0 w g s0_0 s0_1) (hB : Below w0.heap.size w0 w) (h : spec_twoImages.f k s0_0 s0_1 = some (r1, r2, r3, r4, r5, r6, r7, r8, r9)) :
    Calls Try.prog 54 #[.pointer (some ⟨g, 0, none⟩)] w fun e w' => ∃ v3_ v7_ : Value, e = .returned (.tuple #[.agg #[.int .i64 r1, .int .i64 r2, .int .i64 r3, v3_], .agg #[.int .i64 r5, .int .i64 r6, .int .i64 r7, v7_]]) ∧ Kd.Q (Kd.int .i64) 3 w' w.heap.size (fun k_ => some k_ ≠ (v7_ : Value).ownBlock) v3_ r4 ∧ Kd.Q (Kd.int .i64) 3 w' w.heap.size (fun k_ => some k_ ≠ (v3_ : Value).ownBlock) v7_ r8 ∧ IsS100 w0 w' g s0_0 r9 ∧ Below w0.heap.size w0 w' ∧ KeepBut w w' g none := by
  have hu28 := Try.underlying28
  have HI0 := Aside0.mk hI
  have HK := Aside0.mk (KeepBut.refl w g none)
  have HL := Aside0.mk hB.size
  clear hI
  have HW0 := Aside0.mk hB.size
  have HB := Aside0.mk hB
  clear hB
  have H : ((spec_anyImage.f k s0_0 s0_1).bind fun bt55003 => ((spec_copyInts.f bt55003.2.2.2.1).bind fun t55011 => ((spec_reader_pick.f k s0_0 bt55003.2.2.2.2 6).bind fun bt55015 => (spec_twoImages.l0 k bt55015.1 s0_0 bt55015.2 bt55003.1 bt55003.2.1 bt55003.2.2.1 bt55003.2.2.2.1 bt55003.1 bt55003.2.1 bt55003.2.2.1 t55011)))) = some (r1, r2, r3, r4, r5, r6, r7, r8, r9) := h
  clear h
  replace H := Option.bind_eq_some_iff.mp H
  obtain ⟨⟨t55003, t55004, t55005, t55006, t55009⟩, A20, H⟩ := H
  replace H : ((spec_copyInts.f t55006).bind fun t55011 => ((spec_reader_pick.f k s0_0 t55009 6).bind fun bt55015 => (spec_twoImages.l0 k bt55015.1 s0_0 bt55015.2 t55003 t55004 t55005 t55006 t55003 t55004 t55005 t55011))) = some (r1, r2, r3, r4, r5, r6, r7, r8, r9) := H
  have A2 := Aside0.mk A20
  clear A20
  replace H := Option.bind_eq_some_iff.mp H
  obtain ⟨t55011, A30, H⟩ := H
  replace H : ((spec_reader_pick.f k s0_0 t55009 6).bind fun bt55015 => (spec_twoImages.l0 k bt55015.1 s0_0 bt55015.2 t55003 t55004 t55005 t55006 t55003 t55004 t55005 t55011)) = some (r1, r2, r3, r4, r5, r6, r7, r8, r9) := H
  have A3 := Aside0.mk A30
  clear A30
  replace H := Option.bind_eq_some_iff.mp H
  obtain ⟨⟨t55015, t55016⟩, A40, H⟩ := H
  replace H : (spec_twoImages.l0 k t55015 s0_0 t55016 t55003 t55004 t55005 t55006 t55003 t55004 t55005 t55011) = some (r1, r2, r3, r4, r5, r6, r7, r8, r9) := H
  have A4 := Aside0.mk A40
  clear A40
  have H' := Aside0.mk H
  clear H
  go_enter Try.func54, Try.ntmps54
  try go_wp2_with (first | ((with_reducible refine gate_dst (N := 2) rfl ?_); (try (refine gate_guard (by rfl) ?_; dsimp only)); refine box_event ?hg (N := 2) ?hd (cs := #[.int .i64 0, .int .i64 0, .int .i64 0, .slice none 0 0]) (t := 28) ?hr ?_; (case hd => rfl); (case hg => rfl); (case hr => (go_simp; done)); intro gb55001 hg w5 hbox hb; have n0_ := Aside0.mk (IsS100.below HI0.out hb); have n1_ := Aside0.mk (KeepBut.trans HK.out (KeepBut.of_below hb g none) (.inl rfl)); have n2_ := Aside0.mk (below_step HB.out hb); have n3_ := Aside0.mk (hbox); have n4_ := Aside0.mk ((by rw [hg]; exact (keep_size (w := w) (g := g) (row := none) HK.out) : w.heap.size ≤ gb55001)); have n5_ := Aside0.mk ((Nat.le_trans HW0.out (by rw [hg]; exact (keep_size (w := w) (g := g) (row := none) HK.out) : w.heap.size ≤ gb55001) : w0.heap.size ≤ gb55001)); have n6_ := Aside0.mk ((by rw [hg]; exact Nat.ne_of_lt (IsS100.lt (show IsS100 w0 _ g s0_0 s0_1 from by exact HI0.out)) : g ≠ gb55001)); have n7_ := Aside0.mk ((by rw [hg]; exact Nat.ne_of_gt (IsS100.lt (show IsS100 w0 _ g s0_0 s0_1 from by exact HI0.out)) : gb55001 ≠ g)); clear HI0; clear HK; clear HB; have HI0 := n0_; have HK := n1_; have HB := n2_; have BK55001 := n3_; have GW55001 := n4_; have GE55001 := n5_; have NB0_55001 := n6_; have NB55001_0 := n7_; clear n0_ n1_ n2_ n3_ n4_ n5_ n6_ n7_; clear hb hbox hg) | ((with_reducible refine gate_dst (N := 3) rfl ?_); (try (refine gate_guard (by rfl) ?_; dsimp only)); refine box_event ?hg (N := 3) ?hd (cs := #[.int .i64 0, .int .i64 0, .int .i64 0, .slice none 0 0]) (t := 28) ?hr ?_; (case hd => rfl); (case hg => rfl); (case hr => (go_simp; done)); intro gb55002 hg w6 hbox hb; have n0_ := Aside0.mk (IsS100.below HI0.out hb); have n1_ := Aside0.mk (blk_below BK55001.out hb); have n2_ := Aside0.mk (KeepBut.trans HK.out (KeepBut.of_below hb g none) (.inl rfl)); have n3_ := Aside0.mk (below_step HB.out hb); have n4_ := Aside0.mk (hbox); have n5_ := Aside0.mk ((by rw [hg]; exact (keep_size (w := w) (g := g) (row := none) HK.out) : w.heap.size ≤ gb55002)); have n6_ := Aside0.mk ((Nat.le_trans HW0.out (by rw [hg]; exact (keep_size (w := w) (g := g) (row := none) HK.out) : w.heap.size ≤ gb55002) : w0.heap.size ≤ gb55002)); have n7_ := Aside0.mk ((by rw [hg]; exact Nat.ne_of_lt (blk_lt BK55001.out) : gb55001 ≠ gb55002)); have n8_ := Aside0.mk ((by rw [hg]; exact Nat.ne_of_gt (blk_lt BK55001.out) : gb55002 ≠ gb55001)); have n9_ := Aside0.mk ((by rw [hg]; exact Nat.ne_of_lt (IsS100.lt (show IsS100 w0 _ g s0_0 s0_1 from by exact HI0.out)) : g ≠ gb55002)); have n10_ := Aside0.mk ((by rw [hg]; exact Nat.ne_of_gt (IsS100.lt (show IsS100 w0 _ g s0_0 s0_1 from by exact HI0.out)) : gb55002 ≠ g)); clear HI0; clear BK55001; clear HK; clear HB; have HI0 := n0_; have BK55001 := n1_; have HK := n2_; have HB := n3_; have BK55002 := n4_; have GW55002 := n5_; have GE55002 := n6_; have NB55001_55002 := n7_; have NB55002_55001 := n8_; have NB0_55002 := n9_; have NB55002_0 := n10_; clear n0_ n1_ n2_ n3_ n4_ n5_ n6_ n7_ n8_ n9_ n10_; clear hb hbox hg) | ((with_reducible refine gate_callee (f := 72) rfl ?_); refine goesL_ (some 8) rfl rfl Try.func72 (by kernel_rfl) rfl #[.pointer (some ⟨g, 0, none⟩)] rfl (by (try simp only [List.map_toArray, List.map_cons, List.map_nil]); rfl) ?_; (with_reducible refine (spec_anyImage.calls k g s0_0 s0_1 t55003 t55004 t55005 t55006 t55009 w0 _ ?side1 ?side2 A2.out).mono ?_); (case side1 => repeat (with_reducible exact HI0.out)); (case side2 => repeat (with_reducible exact HB.out)); rintro e w7 ⟨v55007, rfl, ho0, hi, hb, hk⟩; refine ⟨_, rfl, ?_⟩; have n0_ := Aside0.mk (KeepBut.blk hk (g' := gb55001) (o := .cells #[.int .i64 0, .int .i64 0, .int .i64 0, .slice none 0 0] 28 (0, 0)) BK55001.out NB55001_0.out (by simp)); have n1_ := Aside0.mk (KeepBut.blk hk (g' := gb55002) (o := .cells #[.int .i64 0, .int .i64 0, .int .i64 0, .slice none 0 0] 28 (0, 0)) BK55002.out NB55002_0.out (by simp)); have n2_ := Aside0.mk (Kd.Q_lower ho0 (keep_size (w := w) (g := g) (row := none) HK.out)); have n3_ := Aside0.mk (KeepBut.trans HK.out hk (.inl rfl)); have n4_ := Aside0.mk (hb); have n5_ := Aside0.mk (hi); clear BK55001; clear BK55002; clear HK; clear HB; clear HI0; have BK55001 := n0_; have BK55002 := n1_; have HO55008 := n2_; have HK := n3_; have HB := n4_; have HI0 := n5_; clear n0_ n1_ n2_ n3_ n4_ n5_; (try clear hb); (try clear hk); (try clear hi); (try clear ho0)) | ((with_reducible refine gate_dst (N := 4) rfl ?_); (try (refine gate_guard (by rfl) ?_; dsimp only)); refine box_event ?hg (N := 4) ?hd (cs := #[.int .i64 0, .int .i64 0, .int .i64 0, .slice none 0 0]) (t := 28) ?hr ?_; (case hd => rfl); (case hg => rfl); (case hr => (go_simp; done)); intro gb55010 hg w8 hbox hb; have n0_ := Aside0.mk (Kd.Q_below HO55008.out hb); have n1_ := Aside0.mk (IsS100.below HI0.out hb); have n2_ := Aside0.mk (blk_below BK55001.out hb); have n3_ := Aside0.mk (blk_below BK55002.out hb); have n4_ := Aside0.mk (KeepBut.trans HK.out (KeepBut.of_below hb g none) (.inl rfl)); have n5_ := Aside0.mk (below_step HB.out hb); have n6_ := Aside0.mk (hbox); have n7_ := Aside0.mk ((by rw [hg]; exact (keep_size (w := w) (g := g) (row := none) HK.out) : w.heap.size ≤ gb55010)); have n8_ := Aside0.mk ((Nat.le_trans HW0.out (by rw [hg]; exact (keep_size (w := w) (g := g) (row := none) HK.out) : w.heap.size ≤ gb55010) : w0.heap.size ≤ gb55010)); have n9_ := Aside0.mk ((by rw [hg]; exact Nat.ne_of_lt (blk_lt BK55001.out) : gb55001 ≠ gb55010)); have n10_ := Aside0.mk ((by rw [hg]; exact Nat.ne_of_gt (blk_lt BK55001.out) : gb55010 ≠ gb55001)); have n11_ := Aside0.mk ((by rw [hg]; exact Nat.ne_of_lt (blk_lt BK55002.out) : gb55002 ≠ gb55010)); have n12_ := Aside0.mk ((by rw [hg]; exact Nat.ne_of_gt (blk_lt BK55002.out) : gb55010 ≠ gb55002)); have n13_ := Aside0.mk ((by rw [hg]; exact Nat.ne_of_lt (IsS100.lt (show IsS100 w0 _ g s0_0 t55009 from by exact HI0.out)) : g ≠ gb55010)); have n14_ := Aside0.mk ((by rw [hg]; exact Nat.ne_of_gt (IsS100.lt (show IsS100 w0 _ g s0_0 t55009 from by exact HI0.out)) : gb55010 ≠ g)); clear HO55008; clear HI0; clear BK55001; clear BK55002; clear HK; clear HB; have HO55008 := n0_; have HI0 := n1_; have BK55001 := n2_; have BK55002 := n3_; have HK := n4_; have HB := n5_; have BK55010 := n6_; have GW55010 := n7_; have GE55010 := n8_; have NB55001_55010 := n9_; have NB55010_55001 := n10_; have NB55002_55010 := n11_; have NB55010_55002 := n12_; have NB0_55010 := n13_; have NB55010_0 := n14_; clear n0_ n1_ n2_ n3_ n4_ n5_ n6_ n7_ n8_ n9_ n10_ n11_ n12_ n13_ n14_; clear hb hbox hg; have hnb9 := NB55010_55001.out; have hnc9 := NB55001_55010.out; have hnb10 := NB55010_55002.out; have hnc10 := NB55002_55010.out; have hnb11 := NB55010_0.out; have hnc11 := NB0_55010.out; have hcz12_0 : w8.cell? ⟨gb55010, 0, none⟩ = some (.int .i64 0) := (blk_cell BK55010.out 0).trans rfl; have hcz12_1 : w8.cell? ⟨gb55010, 1, none⟩ = some (.int .i64 0) := (blk_cell BK55010.out 1).trans rfl; have hcz12_2 : w8.cell? ⟨gb55010, 2, none⟩ = some (.int .i64 0) := (blk_cell BK55010.out 2).trans rfl; have hcz12_3 : w8.cell? ⟨gb55010, 3, none⟩ = some (.slice none 0 0) := (blk_cell BK55010.out 3).trans rfl; have hfz12_0 := blk_frozen BK55010.out 0; have hfz12_1 := blk_frozen BK55010.out 1; have hfz12_2 := blk_frozen BK55010.out 2; have hfz12_3 := blk_frozen BK55010.out 3; obtain ⟨Ao13, co13, eo13, _⟩ := Kd.Q_slice HO55008.out; subst eo13))
  have n0_ : Aside0 (Kd.Q (Kd.int .i64) 3 ((((w8.setCell ⟨gb55010, 0, none⟩ (.int .i64 t55003)).setCell ⟨gb55010, 1, none⟩ (.int .i64 t55004)).setCell ⟨gb55010, 2, none⟩ (.int .i64 t55005)).setCell ⟨gb55010, 3, none⟩ (.slice Ao13 t55006.length co13)) w.heap.size (fun _ => True) (.slice Ao13 t55006.length co13) t55006) := ⟨by (with_reducible repeat (first | apply Kd.Q_alloc | apply Kd.Q_drewN | apply Kd.Q_drew)); exact Kd.Q_mono (Kd.Q_far (p := ⟨gb55010, 3, none⟩) (Kd.Q_far (p := ⟨gb55010, 2, none⟩) (Kd.Q_far (p := ⟨gb55010, 1, none⟩) (Kd.Q_far (p := ⟨gb55010, 0, none⟩) (Kd.Q_types HO55008.out BK55010.out (by decide)) (fun _ hk => hk.2) (.int .i64 t55003)) (fun _ hk => hk.2) (.int .i64 t55004)) (fun _ hk => hk.2) (.int .i64 t55005)) (fun _ hk => hk.2) (.slice Ao13 t55006.length co13)) (fun _ hk => trivial)⟩
  have n1_ : Aside0 (((((w8.setCell ⟨gb55010, 0, none⟩ (.int .i64 t55003)).setCell ⟨gb55010, 1, none⟩ (.int .i64 t55004)).setCell ⟨gb55010, 2, none⟩ (.int .i64 t55005)).setCell ⟨gb55010, 3, none⟩ (.slice Ao13 t55006.length co13)).heap[gb55001]? = some (.cells #[.int .i64 0, .int .i64 0, .int .i64 0, .slice none 0 0] 28 (0, 0))) := ⟨by (with_reducible repeat (first | refine blk_drewN ?_ _ | refine blk_drew ?_ | refine blk_alloc ?_ _)); refine blk_far ?_ NB55001_55010.out _; (with_reducible repeat (first | refine blk_drewN ?_ _ | refine blk_drew ?_ | refine blk_alloc ?_ _)); refine blk_far ?_ NB55001_55010.out _; (with_reducible repeat (first | refine blk_drewN ?_ _ | refine blk_drew ?_ | refine blk_alloc ?_ _)); refine blk_far ?_ NB55001_55010.out _; (with_reducible repeat (first | refine blk_drewN ?_ _ | refine blk_drew ?_ | refine blk_alloc ?_ _)); refine blk_far ?_ NB55001_55010.out _; (with_reducible repeat (first | refine blk_drewN ?_ _ | refine blk_drew ?_ | refine blk_alloc ?_ _)); exact BK55001.out⟩
  have n2_ : Aside0 (((((w8.setCell ⟨gb55010, 0, none⟩ (.int .i64 t55003)).setCell ⟨gb55010, 1, none⟩ (.int .i64 t55004)).setCell ⟨gb55010, 2, none⟩ (.int .i64 t55005)).setCell ⟨gb55010, 3, none⟩ (.slice Ao13 t55006.length co13)).heap[gb55002]? = some (.cells #[.int .i64 0, .int .i64 0, .int .i64 0, .slice none 0 0] 28 (0, 0))) := ⟨by (with_reducible repeat (first | refine blk_drewN ?_ _ | refine blk_drew ?_ | refine blk_alloc ?_ _)); refine blk_far ?_ NB55002_55010.out _; (with_reducible repeat (first | refine blk_drewN ?_ _ | refine blk_drew ?_ | refine blk_alloc ?_ _)); refine blk_far ?_ NB55002_55010.out _; (with_reducible repeat (first | refine blk_drewN ?_ _ | refine blk_drew ?_ | refine blk_alloc ?_ _)); refine blk_far ?_ NB55002_55010.out _; (with_reducible repeat (first | refine blk_drewN ?_ _ | refine blk_drew ?_ | refine blk_alloc ?_ _)); refine blk_far ?_ NB55002_55010.out _; (with_reducible repeat (first | refine blk_drewN ?_ _ | refine blk_drew ?_ | refine blk_alloc ?_ _)); exact BK55002.out⟩
  have n3_ : Aside0 (((((w8.setCell ⟨gb55010, 0, none⟩ (.int .i64 t55003)).setCell ⟨gb55010, 1, none⟩ (.int .i64 t55004)).setCell ⟨gb55010, 2, none⟩ (.int .i64 t55005)).setCell ⟨gb55010, 3, none⟩ (.slice Ao13 t55006.length co13)).heap[gb55010]? = some (.cells #[.int .i64 t55003, .int .i64 t55004, .int .i64 t55005, .slice Ao13 t55006.length co13] 28 (0, 0))) := ⟨by (with_reducible repeat (first | refine blk_drewN ?_ _ | refine blk_drew ?_ | refine blk_alloc ?_ _)); refine blk_put (cs := #[.int .i64 t55003, .int .i64 t55004, .int .i64 t55005, .slice none 0 0]) ?_ 3 _ rfl; (with_reducible repeat (first | refine blk_drewN ?_ _ | refine blk_drew ?_ | refine blk_alloc ?_ _)); refine blk_put (cs := #[.int .i64 t55003, .int .i64 t55004, .int .i64 0, .slice none 0 0]) ?_ 2 _ rfl; (with_reducible repeat (first | refine blk_drewN ?_ _ | refine blk_drew ?_ | refine blk_alloc ?_ _)); refine blk_put (cs := #[.int .i64 t55003, .int .i64 0, .int .i64 0, .slice none 0 0]) ?_ 1 _ rfl; (with_reducible repeat (first | refine blk_drewN ?_ _ | refine blk_drew ?_ | refine blk_alloc ?_ _)); refine blk_put (cs := #[.int .i64 0, .int .i64 0, .int .i64 0, .slice none 0 0]) ?_ 0 _ rfl; (with_reducible repeat (first | refine blk_drewN ?_ _ | refine blk_drew ?_ | refine blk_alloc ?_ _)); exact BK55010.out⟩
  have n4_ : Aside0 (IsS100 w0 ((((w8.setCell ⟨gb55010, 0, none⟩ (.int .i64 t55003)).setCell ⟨gb55010, 1, none⟩ (.int .i64 t55004)).setCell ⟨gb55010, 2, none⟩ (.int .i64 t55005)).setCell ⟨gb55010, 3, none⟩ (.slice Ao13 t55006.length co13)) g s0_0 t55009) := ⟨by repeat (with_reducible first | exact HI0.out | refine IsS100.far ?_ NB0_55010.out _)⟩
  have n5_ : Aside0 (KeepBut w ((((w8.setCell ⟨gb55010, 0, none⟩ (.int .i64 t55003)).setCell ⟨gb55010, 1, none⟩ (.int .i64 t55004)).setCell ⟨gb55010, 2, none⟩ (.int .i64 t55005)).setCell ⟨gb55010, 3, none⟩ (.slice Ao13 t55006.length co13)) g none) := ⟨by repeat (with_reducible first | exact HK.out | refine keep_far ?_ GW55010.out _)⟩
  have n6_ : Aside0 (Below w0.heap.size w0 ((((w8.setCell ⟨gb55010, 0, none⟩ (.int .i64 t55003)).setCell ⟨gb55010, 1, none⟩ (.int .i64 t55004)).setCell ⟨gb55010, 2, none⟩ (.int .i64 t55005)).setCell ⟨gb55010, 3, none⟩ (.slice Ao13 t55006.length co13))) := ⟨by repeat (with_reducible first | exact HB.out | refine below_set ?_ GE55010.out)⟩
  (try clear HO55008)
  (try clear BK55001)
  (try clear BK55002)
  (try clear BK55010)
  (try clear HI0)
  (try clear HK)
  (try clear HB)
  generalize ((((w8.setCell ⟨gb55010, 0, none⟩ (.int .i64 t55003)).setCell ⟨gb55010, 1, none⟩ (.int .i64 t55004)).setCell ⟨gb55010, 2, none⟩ (.int .i64 t55005)).setCell ⟨gb55010, 3, none⟩ (.slice Ao13 t55006.length co13)) = w14 at n0_ n1_ n2_ n3_ n4_ n5_ n6_ ⊢
  revert n0_ n1_ n2_ n3_ n4_ n5_ n6_; intro HO55008 BK55001 BK55002 BK55010 HI0 HK HB
  have n0_ := Aside0.mk (Kd.Q_drew HO55008.out)
  have n1_ := Aside0.mk (blk_drew BK55001.out)
  have n2_ := Aside0.mk (blk_drew BK55002.out)
  have n3_ := Aside0.mk (blk_drew BK55010.out)
  have n4_ := Aside0.mk (IsS100.drew HI0.out)
  have n5_ := Aside0.mk (keep_drew HK.out)
  have n6_ := Aside0.mk (below_drew1 HB.out)
  clear HO55008 BK55001 BK55002 BK55010 HI0 HK HB
  revert n0_ n1_ n2_ n3_ n4_ n5_ n6_; intro HO55008 BK55001 BK55002 BK55010 HI0 HK HB
  refine start_ (n := 12) (S := fun w' => w'.cell? ⟨gb55010, 0, none⟩ = some (.int .i64 t55003) ∧ w'.cell? ⟨gb55010, 1, none⟩ = some (.int .i64 t55004) ∧ w'.cell? ⟨gb55010, 2, none⟩ = some (.int .i64 t55005) ∧ w'.cell? ⟨gb55010, 3, none⟩ = some (.slice Ao13 t55006.length co13)) (ds := []) #[false, false, false, false, false, false, false, false, false, false, false, false] (by kernel_rfl) rfl rfl ⟨(blk_cell BK55010.out 0).trans rfl, (blk_cell BK55010.out 1).trans rfl, (blk_cell BK55010.out 2).trans rfl, (blk_cell BK55010.out 3).trans rfl⟩ (fun hHeld => ?_); refine with_tabW spec_twoImages.tab2 spec_twoImages.bits2 (fun HT_ HW_ => ?_)
  generalize w14.drew = w15 at HO55008 BK55001 BK55002 BK55010 HI0 HK HB hHeld ⊢
  refine pure_ (i := 0) (N := some 9) (v := ?_) (a' := ?_) #[true, false, false, false, false, false, false, false, false, false, false, false] rfl rfl (any_of HT_.out (by kernel_rfl)) (fun _ _ _ h => h) (Or.inl ⟨by rfl, ?_⟩) ?_ ?_
  rotate_left
  · intro w'
    go_simp
    with_reducible rfl
  rotate_left
  · simp only [Act.put, List.setIfInBounds_toArray, List.set_cons_zero, List.set_cons_succ, i64_w, i32_w]
    rfl
  refine pure_ (i := 2) (N := some 11) (v := ?_) (a' := ?_) #[true, false, true, false, false, false, false, false, false, false, false, false] rfl rfl (any_of HT_.out (by kernel_rfl)) (fun _ _ _ h => h) (Or.inl ⟨by rfl, ?_⟩) ?_ ?_
  rotate_left
  · intro w'
    go_simp
    with_reducible rfl
  rotate_left
  · simp only [Act.put, List.setIfInBounds_toArray, List.set_cons_zero, List.set_cons_succ, i64_w, i32_w]
    rfl
  refine pure_ (i := 4) (N := some 13) (v := ?_) (a' := ?_) #[true, false, true, false, true, false, false, false, false, false, false, false] rfl rfl (any_of HT_.out (by kernel_rfl)) (fun _ _ _ h => h) (Or.inl ⟨by rfl, ?_⟩) ?_ ?_
  rotate_left
  · intro w'
    go_simp
    with_reducible rfl
  rotate_left
  · simp only [Act.put, List.setIfInBounds_toArray, List.set_cons_zero, List.set_cons_succ, i64_w, i32_w]
    rfl
  refine pure_ (i := 6) (N := some 15) (v := ?_) (a' := ?_) #[true, false, true, false, true, false, true, false, false, false, false, false] rfl rfl (any_of HT_.out (by kernel_rfl)) (fun _ _ _ h => h) (Or.inl ⟨by rfl, ?_⟩) ?_ ?_
  rotate_left
  · intro w'
    go_simp
    with_reducible rfl
  rotate_left
  · simp only [Act.put, List.setIfInBounds_toArray, List.set_cons_zero, List.set_cons_succ, i64_w, i32_w]
    rfl
  refine take_ (i := 1) (N := some 10) (v := ?_) (a' := ?_) #[true, true, true, false, true, false, true, false, false, false, false, false] rfl rfl (take_ofW HT_.out HW_.out (by kernel_rfl)) (fun _ _ _ h => h) (Or.inl ⟨by rfl, ?_⟩) hHeld ?_ ?_
  rotate_left
  · rintro w' ⟨s0, s1, s2, s3⟩
    go_simp
    with_reducible rfl
  rotate_left
  · simp only [Act.put, List.setIfInBounds_toArray, List.set_cons_zero, List.set_cons_succ, i64_w, i32_w]
    rfl
  refine take_ (i := 3) (N := some 12) (v := ?_) (a' := ?_) #[true, true, true, true, true, false, true, false, false, false, false, false] rfl rfl (take_ofW HT_.out HW_.out (by kernel_rfl)) (fun _ _ _ h => h) (Or.inl ⟨by rfl, ?_⟩) hHeld ?_ ?_
  rotate_left
  · rintro w' ⟨s0, s1, s2, s3⟩
    go_simp
    with_reducible rfl
  rotate_left
  · simp only [Act.put, List.setIfInBounds_toArray, List.set_cons_zero, List.set_cons_succ, i64_w, i32_w]
    rfl
  refine take_ (i := 5) (N := some 14) (v := ?_) (a' := ?_) #[true, true, true, true, true, true, true, false, false, false, false, false] rfl rfl (take_ofW HT_.out HW_.out (by kernel_rfl)) (fun _ _ _ h => h) (Or.inl ⟨by rfl, ?_⟩) hHeld ?_ ?_
  rotate_left
  · rintro w' ⟨s0, s1, s2, s3⟩
    go_simp
    with_reducible rfl
  rotate_left
  · simp only [Act.put, List.setIfInBounds_toArray, List.set_cons_zero, List.set_cons_succ, i64_w, i32_w]
    rfl
  refine take_ (i := 7) (N := some 16) (v := ?_) (a' := ?_) #[true, true, true, true, true, true, true, true, false, false, false, false] rfl rfl (take_ofW HT_.out HW_.out (by kernel_rfl)) (fun _ _ _ h => h) (Or.inl ⟨by rfl, ?_⟩) hHeld ?_ ?_
  rotate_left
  · rintro w' ⟨s0, s1, s2, s3⟩
    go_simp
    with_reducible rfl
  rotate_left
  · simp only [Act.put, List.setIfInBounds_toArray, List.set_cons_zero, List.set_cons_succ, i64_w, i32_w]
    rfl
  refine join_ (σ := Value × Nat) 1 #[true, true, true, true, true, true, true, true, true, true, true, false] (fun s_ => [(17, s_.1), (5, .pointer (some ⟨s_.2, 0, none⟩)), (18, .agg #[.int .i64 t55003, .int .i64 t55004, .int .i64 t55005, s_.1])]) (fun s_ w' => (w'.cell? ⟨gb55010, 0, none⟩ = some (.int .i64 t55003) ∧ w'.cell? ⟨gb55010, 1, none⟩ = some (.int .i64 t55004) ∧ w'.cell? ⟨gb55010, 2, none⟩ = some (.int .i64 t55005) ∧ w'.cell? ⟨gb55010, 3, none⟩ = some (.slice Ao13 t55006.length co13)) ∧ (Kd.Q (Kd.int .i64) 3 w' w.heap.size (fun k_ => some k_ ≠ (s_.1 : Value).ownBlock) (.slice Ao13 t55006.length co13) t55006) ∧ (Kd.R (Kd.int .i64) 3 w' w.heap.size (fun k_ => some k_ ≠ (.slice Ao13 t55006.length co13 : Value).ownBlock) s_.1 t55011) ∧ (w'.heap[gb55001]? = some (.cells #[.int .i64 0, .int .i64 0, .int .i64 0, .slice none 0 0] 28 (0, 0))) ∧ (w'.heap[gb55002]? = some (.cells #[.int .i64 0, .int .i64 0, .int .i64 0, .slice none 0 0] 28 (0, 0))) ∧ (w'.heap[gb55010]? = some (.cells #[.int .i64 t55003, .int .i64 t55004, .int .i64 t55005, .slice Ao13 t55006.length co13] 28 (0, 0))) ∧ (w'.heap[s_.2]? = some (.cells #[.int .i64 0, .int .i64 0, .int .i64 0, .slice none 0 0] 28 (0, 0))) ∧ (w.heap.size ≤ s_.2) ∧ (w0.heap.size ≤ s_.2) ∧ (g ≠ s_.2) ∧ (s_.2 ≠ g) ∧ (gb55001 ≠ s_.2) ∧ (s_.2 ≠ gb55001) ∧ (gb55002 ≠ s_.2) ∧ (s_.2 ≠ gb55002) ∧ (gb55010 ≠ s_.2) ∧ (s_.2 ≠ gb55010) ∧ (IsS100 w0 w' g s0_0 t55009) ∧ (KeepBut w w' g none) ∧ (Below w0.heap.size w0 w')) ?_ ?_
  rotate_left
  · intro hCont
    refine two_ (i := 8) (j := 10) (Ni := some 17) (Nj := some 5) #[true, true, true, true, true, true, true, true, true, false, false, false] #[true, true, true, true, true, true, true, true, false, false, true, false] rfl rfl rfl rfl (two_of HT_.out (by kernel_rfl)) (by decide) (by decide) (fun K hK => ?_) (fun K hK => ?_)
    · skip
      refine goes_ Try.func95 (by kernel_rfl) rfl #[.slice Ao13 t55006.length co13] (by rfl) rfl rfl (by (try simp only [List.map_toArray, List.map_cons, List.map_nil]); rfl) ?_
      with_reducible refine (spec_copyInts.calls _ _ t55006 t55011 _ ?side1 ?side2 A3.out).mono ?_
      (case side1 => repeat (exact (Kd.Q_reads' HO55008.out).2.2))
      (case side2 => exact (Kd.Q_reads' HO55008.out).2.1)
      rintro e w16 ⟨v55012, rfl, ho0, hb⟩
      refine ⟨_, rfl, ?_⟩
      have n0_ := Aside0.mk (Kd.Q_elder' HO55008.out (Kd.R_base ho0) hb)
      have n1_ := Aside0.mk (Kd.R_lower (Kd.R_new' ho0 (Kd.Q_lt HO55008.out)) (keep_size (w := w) (g := g) (row := none) HK.out))
      have n2_ := Aside0.mk (IsS100.below HI0.out hb)
      have n3_ := Aside0.mk (blk_below BK55001.out hb)
      have n4_ := Aside0.mk (blk_below BK55002.out hb)
      have n5_ := Aside0.mk (blk_below BK55010.out hb)
      have n6_ := Aside0.mk (KeepBut.trans HK.out (KeepBut.of_below hb g none) (.inl rfl))
      have n7_ := Aside0.mk (below_step HB.out hb)
      clear HO55008 HI0 BK55001 BK55002 BK55010 HK HB
      revert n0_ n1_ n2_ n3_ n4_ n5_ n6_ n7_; intro HO55008 HO55013 HI0 BK55001 BK55002 BK55010 HK HB
      (try clear hb)
      (try clear ho0)
      obtain ⟨Ao17, co17, eo17⟩ := Kd.R_slice HO55013.out
      (subst eo17)
      refine hK.out _ _ ⟨(blk_cell BK55010.out 0).trans rfl, (blk_cell BK55010.out 1).trans rfl, (blk_cell BK55010.out 2).trans rfl, (blk_cell BK55010.out 3).trans rfl⟩ (fun hHeld => ?_)
      clear hK K
      refine norm_ (a' := ?_) ?_ ?_
      rotate_left
      · show Act.put _ (some 17) _ = _
        simp only [Act.put, List.setIfInBounds_toArray, List.set_cons_zero, List.set_cons_succ, i64_w, i32_w]
        rfl
      refine pure_ (i := 9) (N := some 18) (v := ?_) (a' := ?_) #[true, true, true, true, true, true, true, true, true, true, false, false] rfl rfl (any_of HT_.out (by kernel_rfl)) (fun _ _ _ h => h) (Or.inl ⟨by rfl, ?_⟩) ?_ ?_
      rotate_left
      · intro w'
        go_simp
        with_reducible rfl
      rotate_left
      · simp only [Act.put, List.setIfInBounds_toArray, List.set_cons_zero, List.set_cons_succ, i64_w, i32_w]
        rfl
      refine one_ (i := 10) (N := some 5) #[true, true, true, true, true, true, true, true, true, true, true, false] rfl rfl (one_of HT_.out (by kernel_rfl)) (by decide) (fun K hK => ?_)
      refine box_step ?hg (N := 5) ?hd (cs := #[.int .i64 0, .int .i64 0, .int .i64 0, .slice none 0 0]) (t := 28) ?hr ?_; (case hd => rfl); (case hg => rfl); (case hr => (go_simp; done))
      intro gb55014 hg w18 hbox hb
      have n0_ := Aside0.mk (Kd.Q_below HO55008.out hb)
      have n1_ := Aside0.mk (Kd.R_below HO55013.out hb)
      have n2_ := Aside0.mk (IsS100.below HI0.out hb)
      have n3_ := Aside0.mk (blk_below BK55001.out hb)
      have n4_ := Aside0.mk (blk_below BK55002.out hb)
      have n5_ := Aside0.mk (blk_below BK55010.out hb)
      have n6_ := Aside0.mk (KeepBut.trans HK.out (KeepBut.of_below hb g none) (.inl rfl))
      have n7_ := Aside0.mk (below_step HB.out hb)
      have n8_ := Aside0.mk (hbox)
      have n9_ := Aside0.mk ((by rw [hg]; exact (keep_size (w := w) (g := g) (row := none) HK.out) : w.heap.size ≤ gb55014))
      have n10_ := Aside0.mk ((Nat.le_trans HW0.out (by rw [hg]; exact (keep_size (w := w) (g := g) (row := none) HK.out) : w.heap.size ≤ gb55014) : w0.heap.size ≤ gb55014))
      have n11_ := Aside0.mk ((by rw [hg]; exact Nat.ne_of_lt (blk_lt BK55001.out) : gb55001 ≠ gb55014))
      have n12_ := Aside0.mk n11_.out.symm
      have n13_ := Aside0.mk ((by rw [hg]; exact Nat.ne_of_lt (blk_lt BK55002.out) : gb55002 ≠ gb55014))
      have n14_ := Aside0.mk n13_.out.symm
      have n15_ := Aside0.mk ((by rw [hg]; exact Nat.ne_of_lt (blk_lt BK55010.out) : gb55010 ≠ gb55014))
      have n16_ := Aside0.mk n15_.out.symm
      have n17_ := Aside0.mk ((by rw [hg]; exact Nat.ne_of_lt (IsS100.lt (show IsS100 w0 _ g s0_0 t55009 from by exact HI0.out)) : g ≠ gb55014))
      have n18_ := Aside0.mk n17_.out.symm
      clear HO55008 HO55013 HI0 BK55001 BK55002 BK55010 HK HB
      revert n0_ n1_ n2_ n3_ n4_ n5_ n6_ n7_ n8_ n9_ n10_ n11_ n12_ n13_ n14_ n15_ n16_ n17_ n18_; intro HO55008 HO55013 HI0 BK55001 BK55002 BK55010 HK HB BK55014 GW55014 GE55014 NB55001_55014 NB55014_55001 NB55002_55014 NB55014_55002 NB55010_55014 NB55014_55010 NB0_55014 NB55014_0
      clear hb hbox hg
      refine hK.out _ _ ⟨(blk_cell BK55010.out 0).trans rfl, (blk_cell BK55010.out 1).trans rfl, (blk_cell BK55010.out 2).trans rfl, (blk_cell BK55010.out 3).trans rfl⟩ (fun hHeld => ?_)
      clear hK K
      refine norm_ (a' := ?_) ?_ ?_
      rotate_left
      · show Act.put _ (some 5) _ = _
        simp only [Act.put, List.setIfInBounds_toArray, List.set_cons_zero, List.set_cons_succ, i64_w, i32_w]
        rfl
      exact norm_ (by simp only [putAll, Act.put, List.setIfInBounds_toArray, List.set_cons_zero, List.set_cons_succ]) (hCont (.slice Ao17 t55011.length co17, gb55014) _ ⟨hHeld, (by exact Kd.Q_mono HO55008.out (fun _ hk => hk.2)), (by exact Kd.R_mono HO55013.out (fun _ hk => hk.2)), BK55001.out, BK55002.out, BK55010.out, BK55014.out, GW55014.out, GE55014.out, NB0_55014.out, NB55014_0.out, NB55001_55014.out, NB55014_55001.out, NB55002_55014.out, NB55014_55002.out, NB55010_55014.out, NB55014_55010.out, (HI0.out), (HK.out), (HB.out)⟩)
    · skip
      refine box_step ?hg (N := 5) ?hd (cs := #[.int .i64 0, .int .i64 0, .int .i64 0, .slice none 0 0]) (t := 28) ?hr ?_; (case hd => rfl); (case hg => rfl); (case hr => (go_simp; done))
      intro gb55014 hg w16 hbox hb
      have n0_ := Aside0.mk (Kd.Q_below HO55008.out hb)
      have n1_ := Aside0.mk (IsS100.below HI0.out hb)
      have n2_ := Aside0.mk (blk_below BK55001.out hb)
      have n3_ := Aside0.mk (blk_below BK55002.out hb)
      have n4_ := Aside0.mk (blk_below BK55010.out hb)
      have n5_ := Aside0.mk (KeepBut.trans HK.out (KeepBut.of_below hb g none) (.inl rfl))
      have n6_ := Aside0.mk (below_step HB.out hb)
      have n7_ := Aside0.mk (hbox)
      have n8_ := Aside0.mk ((by rw [hg]; exact (keep_size (w := w) (g := g) (row := none) HK.out) : w.heap.size ≤ gb55014))
      have n9_ := Aside0.mk ((Nat.le_trans HW0.out (by rw [hg]; exact (keep_size (w := w) (g := g) (row := none) HK.out) : w.heap.size ≤ gb55014) : w0.heap.size ≤ gb55014))
      have n10_ := Aside0.mk ((by rw [hg]; exact Nat.ne_of_lt (blk_lt BK55001.out) : gb55001 ≠ gb55014))
      have n11_ := Aside0.mk n10_.out.symm
      have n12_ := Aside0.mk ((by rw [hg]; exact Nat.ne_of_lt (blk_lt BK55002.out) : gb55002 ≠ gb55014))
      have n13_ := Aside0.mk n12_.out.symm
      have n14_ := Aside0.mk ((by rw [hg]; exact Nat.ne_of_lt (blk_lt BK55010.out) : gb55010 ≠ gb55014))
      have n15_ := Aside0.mk n14_.out.symm
      have n16_ := Aside0.mk ((by rw [hg]; exact Nat.ne_of_lt (IsS100.lt (show IsS100 w0 _ g s0_0 t55009 from by exact HI0.out)) : g ≠ gb55014))
      have n17_ := Aside0.mk n16_.out.symm
      clear HO55008 HI0 BK55001 BK55002 BK55010 HK HB
      revert n0_ n1_ n2_ n3_ n4_ n5_ n6_ n7_ n8_ n9_ n10_ n11_ n12_ n13_ n14_ n15_ n16_ n17_; intro HO55008 HI0 BK55001 BK55002 BK55010 HK HB BK55014 GW55014 GE55014 NB55001_55014 NB55014_55001 NB55002_55014 NB55014_55002 NB55010_55014 NB55014_55010 NB0_55014 NB55014_0
      clear hb hbox hg
      refine hK.out _ _ ⟨(blk_cell BK55010.out 0).trans rfl, (blk_cell BK55010.out 1).trans rfl, (blk_cell BK55010.out 2).trans rfl, (blk_cell BK55010.out 3).trans rfl⟩ (fun hHeld => ?_)
      clear hK K
      refine norm_ (a' := ?_) ?_ ?_
      rotate_left
      · show Act.put _ (some 5) _ = _
        simp only [Act.put, List.setIfInBounds_toArray, List.set_cons_zero, List.set_cons_succ, i64_w, i32_w]
        rfl
      refine one_ (i := 8) (N := some 17) #[true, true, true, true, true, true, true, true, true, false, true, false] rfl rfl (one_of HT_.out (by kernel_rfl)) (by decide) (fun K hK => ?_)
      refine goes_ Try.func95 (by kernel_rfl) rfl #[.slice Ao13 t55006.length co13] (by rfl) rfl rfl (by (try simp only [List.map_toArray, List.map_cons, List.map_nil]); rfl) ?_
      with_reducible refine (spec_copyInts.calls _ _ t55006 t55011 _ ?side1 ?side2 A3.out).mono ?_
      (case side1 => repeat (exact (Kd.Q_reads' HO55008.out).2.2))
      (case side2 => exact (Kd.Q_reads' HO55008.out).2.1)
      rintro e w17 ⟨v55012, rfl, ho0, hb⟩
      refine ⟨_, rfl, ?_⟩
      have n0_ := Aside0.mk (Kd.Q_elder' HO55008.out (Kd.R_base ho0) hb)
      have n1_ := Aside0.mk (Kd.R_lower (Kd.R_new' ho0 (Kd.Q_lt HO55008.out)) (keep_size (w := w) (g := g) (row := none) HK.out))
      have n2_ := Aside0.mk (IsS100.below HI0.out hb)
      have n3_ := Aside0.mk (blk_below BK55001.out hb)
      have n4_ := Aside0.mk (blk_below BK55002.out hb)
      have n5_ := Aside0.mk (blk_below BK55010.out hb)
      have n6_ := Aside0.mk (blk_below BK55014.out hb)
      have n7_ := Aside0.mk (KeepBut.trans HK.out (KeepBut.of_below hb g none) (.inl rfl))
      have n8_ := Aside0.mk (below_step HB.out hb)
      clear HO55008 HI0 BK55001 BK55002 BK55010 BK55014 HK HB
      revert n0_ n1_ n2_ n3_ n4_ n5_ n6_ n7_ n8_; intro HO55008 HO55013 HI0 BK55001 BK55002 BK55010 BK55014 HK HB
      (try clear hb)
      (try clear ho0)
      obtain ⟨Ao18, co18, eo18⟩ := Kd.R_slice HO55013.out
      (subst eo18)
      refine hK.out _ _ ⟨(blk_cell BK55010.out 0).trans rfl, (blk_cell BK55010.out 1).trans rfl, (blk_cell BK55010.out 2).trans rfl, (blk_cell BK55010.out 3).trans rfl⟩ (fun hHeld => ?_)
      clear hK K
      refine norm_ (a' := ?_) ?_ ?_
      rotate_left
      · show Act.put _ (some 17) _ = _
        simp only [Act.put, List.setIfInBounds_toArray, List.set_cons_zero, List.set_cons_succ, i64_w, i32_w]
        rfl
      refine pure_ (i := 9) (N := some 18) (v := ?_) (a' := ?_) #[true, true, true, true, true, true, true, true, true, true, true, false] rfl rfl (any_of HT_.out (by kernel_rfl)) (fun _ _ _ h => h) (Or.inl ⟨by rfl, ?_⟩) ?_ ?_
      rotate_left
      · intro w'
        go_simp
        with_reducible rfl
      rotate_left
      · simp only [Act.put, List.setIfInBounds_toArray, List.set_cons_zero, List.set_cons_succ, i64_w, i32_w]
        rfl
      exact norm_ (by simp only [putAll, Act.put, List.setIfInBounds_toArray, List.set_cons_zero, List.set_cons_succ]) (hCont (.slice Ao18 t55011.length co18, gb55014) _ ⟨hHeld, (by exact Kd.Q_mono HO55008.out (fun _ hk => hk.2)), (by exact Kd.R_mono HO55013.out (fun _ hk => hk.2)), BK55001.out, BK55002.out, BK55010.out, BK55014.out, GW55014.out, GE55014.out, NB0_55014.out, NB55014_0.out, NB55001_55014.out, NB55014_55001.out, NB55002_55014.out, NB55014_55002.out, NB55010_55014.out, NB55014_55010.out, (HI0.out), (HK.out), (HB.out)⟩)
  rintro ⟨v55012, gb55014⟩ w19 ⟨hS_, h0_, h1_, h2_, h3_, h4_, h5_, h6_, h7_, h8_, h9_, h10_, h11_, h12_, h13_, h14_, h15_, h16_, h17_, h18_⟩
  have n0_ : Aside0 (Kd.Q (Kd.int .i64) 3 w19 w.heap.size (fun k_ => some k_ ≠ (v55012 : Value).ownBlock) (.slice Ao13 t55006.length co13) t55006) := ⟨h0_⟩
  have n1_ : Aside0 (Kd.R (Kd.int .i64) 3 w19 w.heap.size (fun k_ => some k_ ≠ (.slice Ao13 t55006.length co13 : Value).ownBlock) v55012 t55011) := ⟨h1_⟩
  have n2_ : Aside0 (w19.heap[gb55001]? = some (.cells #[.int .i64 0, .int .i64 0, .int .i64 0, .slice none 0 0] 28 (0, 0))) := ⟨h2_⟩
  have n3_ : Aside0 (w19.heap[gb55002]? = some (.cells #[.int .i64 0, .int .i64 0, .int .i64 0, .slice none 0 0] 28 (0, 0))) := ⟨h3_⟩
  have n4_ : Aside0 (w19.heap[gb55010]? = some (.cells #[.int .i64 t55003, .int .i64 t55004, .int .i64 t55005, .slice Ao13 t55006.length co13] 28 (0, 0))) := ⟨h4_⟩
  have n5_ : Aside0 (w19.heap[gb55014]? = some (.cells #[.int .i64 0, .int .i64 0, .int .i64 0, .slice none 0 0] 28 (0, 0))) := ⟨h5_⟩
  have n6_ : Aside0 (w.heap.size ≤ gb55014) := ⟨h6_⟩
  have n7_ : Aside0 (w0.heap.size ≤ gb55014) := ⟨h7_⟩
  have n8_ : Aside0 (g ≠ gb55014) := ⟨h8_⟩
  have n9_ : Aside0 (gb55014 ≠ g) := ⟨h9_⟩
  have n10_ : Aside0 (gb55001 ≠ gb55014) := ⟨h10_⟩
  have n11_ : Aside0 (gb55014 ≠ gb55001) := ⟨h11_⟩
  have n12_ : Aside0 (gb55002 ≠ gb55014) := ⟨h12_⟩
  have n13_ : Aside0 (gb55014 ≠ gb55002) := ⟨h13_⟩
  have n14_ : Aside0 (gb55010 ≠ gb55014) := ⟨h14_⟩
  have n15_ : Aside0 (gb55014 ≠ gb55010) := ⟨h15_⟩
  have n16_ : Aside0 (IsS100 w0 w19 g s0_0 t55009) := ⟨h16_⟩
  have n17_ : Aside0 (KeepBut w w19 g none) := ⟨h17_⟩
  have n18_ : Aside0 (Below w0.heap.size w0 w19) := ⟨h18_⟩
  clear HO55008 BK55001 BK55002 BK55010 HI0 HK HB h0_ h1_ h2_ h3_ h4_ h5_ h6_ h7_ h8_ h9_ h10_ h11_ h12_ h13_ h14_ h15_ h16_ h17_ h18_
  revert n0_ n1_ n2_ n3_ n4_ n5_ n6_ n7_ n8_ n9_ n10_ n11_ n12_ n13_ n14_ n15_ n16_ n17_ n18_; intro HO55008 HO55013 BK55001 BK55002 BK55010 BK55014 GW55014 GE55014 NB0_55014 NB55014_0 NB55001_55014 NB55014_55001 NB55002_55014 NB55014_55002 NB55010_55014 NB55014_55010 HI0 HK HB
  have hHeld : w19.cell? ⟨gb55010, 0, none⟩ = some (.int .i64 t55003) ∧ w19.cell? ⟨gb55010, 1, none⟩ = some (.int .i64 t55004) ∧ w19.cell? ⟨gb55010, 2, none⟩ = some (.int .i64 t55005) ∧ w19.cell? ⟨gb55010, 3, none⟩ = some (.slice Ao13 t55006.length co13) := hS_
  obtain ⟨Ao20, co20, eo20⟩ := Kd.R_slice HO55013.out
  (subst eo20)
  refine norm_ (a' := ?_) ?_ ?_
  rotate_left
  · simp only [putAll, Act.put, List.setIfInBounds_toArray, List.set_cons_zero, List.set_cons_succ]
    rfl
  refine one_ (i := 11) (N := none) #[true, true, true, true, true, true, true, true, true, true, true, true] rfl rfl (one_of HT_.out (by kernel_rfl)) (by decide) (fun K hK => ?_)
  have hs21 : w19.cell? ⟨gb55014, 0, none⟩ = some (.int .i64 0) := (blk_cell BK55014.out 0).trans rfl
  have hfs21 := blk_frozen BK55014.out 0
  have hns21_0 := NB55001_55014.out
  have hns21_1 := NB55002_55014.out
  have hns21_2 := NB55010_55014.out
  have hms21_0 := NB55014_55001.out
  have hms21_1 := NB55014_55002.out
  have hms21_2 := NB55014_55010.out
  have hs22 : w19.cell? ⟨gb55014, 1, none⟩ = some (.int .i64 0) := (blk_cell BK55014.out 1).trans rfl
  have hfs22 := blk_frozen BK55014.out 1
  have hns22_0 := NB55001_55014.out
  have hns22_1 := NB55002_55014.out
  have hns22_2 := NB55010_55014.out
  have hms22_0 := NB55014_55001.out
  have hms22_1 := NB55014_55002.out
  have hms22_2 := NB55014_55010.out
  have hs23 : w19.cell? ⟨gb55014, 2, none⟩ = some (.int .i64 0) := (blk_cell BK55014.out 2).trans rfl
  have hfs23 := blk_frozen BK55014.out 2
  have hns23_0 := NB55001_55014.out
  have hns23_1 := NB55002_55014.out
  have hns23_2 := NB55010_55014.out
  have hms23_0 := NB55014_55001.out
  have hms23_1 := NB55014_55002.out
  have hms23_2 := NB55014_55010.out
  have hs24 : w19.cell? ⟨gb55014, 3, none⟩ = some (.slice none 0 0) := (blk_cell BK55014.out 3).trans rfl
  have hfs24 := blk_frozen BK55014.out 3
  have hns24_0 := NB55001_55014.out
  have hns24_1 := NB55002_55014.out
  have hns24_2 := NB55010_55014.out
  have hms24_0 := NB55014_55001.out
  have hms24_1 := NB55014_55002.out
  have hms24_2 := NB55014_55010.out
  refine skip_ (w1 := ?_) (by rfl) rfl ?_ ?_
  rotate_left
  · go_simp
    rfl
  refine hK.out _ _ ⟨((cell_far (p := ⟨gb55014, _, none⟩) NB55010_55014.out _).trans (((cell_far (p := ⟨gb55014, _, none⟩) NB55010_55014.out _).trans (((cell_far (p := ⟨gb55014, _, none⟩) NB55010_55014.out _).trans (((cell_far (p := ⟨gb55014, _, none⟩) NB55010_55014.out _).trans hHeld.1))))))), ((cell_far (p := ⟨gb55014, _, none⟩) NB55010_55014.out _).trans (((cell_far (p := ⟨gb55014, _, none⟩) NB55010_55014.out _).trans (((cell_far (p := ⟨gb55014, _, none⟩) NB55010_55014.out _).trans (((cell_far (p := ⟨gb55014, _, none⟩) NB55010_55014.out _).trans hHeld.2.1))))))), ((cell_far (p := ⟨gb55014, _, none⟩) NB55010_55014.out _).trans (((cell_far (p := ⟨gb55014, _, none⟩) NB55010_55014.out _).trans (((cell_far (p := ⟨gb55014, _, none⟩) NB55010_55014.out _).trans (((cell_far (p := ⟨gb55014, _, none⟩) NB55010_55014.out _).trans hHeld.2.2.1))))))), ((cell_far (p := ⟨gb55014, _, none⟩) NB55010_55014.out _).trans (((cell_far (p := ⟨gb55014, _, none⟩) NB55010_55014.out _).trans (((cell_far (p := ⟨gb55014, _, none⟩) NB55010_55014.out _).trans (((cell_far (p := ⟨gb55014, _, none⟩) NB55010_55014.out _).trans hHeld.2.2.2)))))))⟩ (fun hHeld => ?_)
  clear hK K
  refine done_ (done_of HT_.out (by kernel_rfl)) ?_
  try go_wp2_with (first | ((with_reducible refine gate_callee (f := 82) rfl ?_); refine goesL_ (some 20) rfl rfl Try.func82 (by kernel_rfl) rfl #[.pointer (some ⟨g, 0, none⟩), .int .i64 6] rfl (by (try simp only [List.map_toArray, List.map_cons, List.map_nil]); rfl) ?_; (with_reducible refine (spec_reader_pick.calls k g s0_0 t55009 6 t55015 t55016 w0 _ ?side1 ?side2 A4.out).mono ?_); (case side1 => repeat (with_reducible first | exact HI0.out | refine IsS100.far ?_ NB0_55014.out _)); (case side2 => repeat (with_reducible first | exact HB.out | refine below_set ?_ GE55014.out)); rintro e w25 ⟨rfl, hi, hb, hk⟩; refine ⟨_, rfl, ?_⟩; have n0_ := Aside0.mk (KeepBut.blk hk (g' := gb55001) (o := .cells #[.int .i64 0, .int .i64 0, .int .i64 0, .slice none 0 0] 28 (0, 0)) (by refine blk_far ?_ NB55001_55014.out _; (with_reducible repeat (first | refine blk_drewN ?_ _ | refine blk_drew ?_ | refine blk_alloc ?_ _)); refine blk_far ?_ NB55001_55014.out _; (with_reducible repeat (first | refine blk_drewN ?_ _ | refine blk_drew ?_ | refine blk_alloc ?_ _)); refine blk_far ?_ NB55001_55014.out _; (with_reducible repeat (first | refine blk_drewN ?_ _ | refine blk_drew ?_ | refine blk_alloc ?_ _)); refine blk_far ?_ NB55001_55014.out _; (with_reducible repeat (first | refine blk_drewN ?_ _ | refine blk_drew ?_ | refine blk_alloc ?_ _)); exact BK55001.out) NB55001_0.out (by simp)); have n1_ := Aside0.mk (KeepBut.blk hk (g' := gb55002) (o := .cells #[.int .i64 0, .int .i64 0, .int .i64 0, .slice none 0 0] 28 (0, 0)) (by refine blk_far ?_ NB55002_55014.out _; (with_reducible repeat (first | refine blk_drewN ?_ _ | refine blk_drew ?_ | refine blk_alloc ?_ _)); refine blk_far ?_ NB55002_55014.out _; (with_reducible repeat (first | refine blk_drewN ?_ _ | refine blk_drew ?_ | refine blk_alloc ?_ _)); refine blk_far ?_ NB55002_55014.out _; (with_reducible repeat (first | refine blk_drewN ?_ _ | refine blk_drew ?_ | refine blk_alloc ?_ _)); refine blk_far ?_ NB55002_55014.out _; (with_reducible repeat (first | refine blk_drewN ?_ _ | refine blk_drew ?_ | refine blk_alloc ?_ _)); exact BK55002.out) NB55002_0.out (by simp)); have n2_ := Aside0.mk (Kd.Q_mono (Kd.Q_keep (IsS100.apartQ (show IsS100 w0 _ g s0_0 t55009 from by repeat (with_reducible first | exact HI0.out | refine IsS100.far ?_ NB0_55014.out _)) (by exact (Kd.Q_mono (Kd.Q_far (p := ⟨gb55014, 3, none⟩) (Kd.Q_far (p := ⟨gb55014, 2, none⟩) (Kd.Q_far (p := ⟨gb55014, 1, none⟩) (Kd.Q_far (p := ⟨gb55014, 0, none⟩) (Kd.Q_types HO55008.out BK55014.out (by decide)) (fun _ hk => hk.2) (.int .i64 t55003)) (fun _ hk => hk.2) (.int .i64 t55004)) (fun _ hk => hk.2) (.int .i64 t55005)) (fun _ hk => hk.2) (.slice Ao20 t55011.length co20)) (fun _ h_ => h_.1))) (by decide)) hk (fun _ h => h.2)) (fun _ h => h.1)); have n3_ := Aside0.mk (KeepBut.blk hk (g' := gb55010) (o := .cells #[.int .i64 t55003, .int .i64 t55004, .int .i64 t55005, .slice Ao13 t55006.length co13] 28 (0, 0)) (by refine blk_far ?_ NB55010_55014.out _; (with_reducible repeat (first | refine blk_drewN ?_ _ | refine blk_drew ?_ | refine blk_alloc ?_ _)); refine blk_far ?_ NB55010_55014.out _; (with_reducible repeat (first | refine blk_drewN ?_ _ | refine blk_drew ?_ | refine blk_alloc ?_ _)); refine blk_far ?_ NB55010_55014.out _; (with_reducible repeat (first | refine blk_drewN ?_ _ | refine blk_drew ?_ | refine blk_alloc ?_ _)); refine blk_far ?_ NB55010_55014.out _; (with_reducible repeat (first | refine blk_drewN ?_ _ | refine blk_drew ?_ | refine blk_alloc ?_ _)); exact BK55010.out) NB55010_0.out (by simp)); have n4_ := Aside0.mk (Kd.R_mono (Kd.R_keep (IsS100.apart (show IsS100 w0 _ g s0_0 t55009 from by repeat (with_reducible first | exact HI0.out | refine IsS100.far ?_ NB0_55014.out _)) (by exact (Kd.R_mono (Kd.R_far (p := ⟨gb55014, 3, none⟩) (Kd.R_far (p := ⟨gb55014, 2, none⟩) (Kd.R_far (p := ⟨gb55014, 1, none⟩) (Kd.R_far (p := ⟨gb55014, 0, none⟩) (Kd.R_types HO55013.out BK55014.out (by decide)) (fun _ hk => hk.2) (.int .i64 t55003)) (fun _ hk => hk.2) (.int .i64 t55004)) (fun _ hk => hk.2) (.int .i64 t55005)) (fun _ hk => hk.2) (.slice Ao20 t55011.length co20)) (fun _ h_ => h_.1))) (by decide)) hk (fun _ h => h.2)) (fun _ h => h.1)); have n5_ := Aside0.mk (KeepBut.blk hk (g' := gb55014) (o := .cells #[.int .i64 t55003, .int .i64 t55004, .int .i64 t55005, .slice Ao20 t55011.length co20] 28 (0, 0)) (by refine blk_put (cs := #[.int .i64 t55003, .int .i64 t55004, .int .i64 t55005, .slice none 0 0]) ?_ 3 _ rfl; (with_reducible repeat (first | refine blk_drewN ?_ _ | refine blk_drew ?_ | refine blk_alloc ?_ _)); refine blk_put (cs := #[.int .i64 t55003, .int .i64 t55004, .int .i64 0, .slice none 0 0]) ?_ 2 _ rfl; (with_reducible repeat (first | refine blk_drewN ?_ _ | refine blk_drew ?_ | refine blk_alloc ?_ _)); refine blk_put (cs := #[.int .i64 t55003, .int .i64 0, .int .i64 0, .slice none 0 0]) ?_ 1 _ rfl; (with_reducible repeat (first | refine blk_drewN ?_ _ | refine blk_drew ?_ | refine blk_alloc ?_ _)); refine blk_put (cs := #[.int .i64 0, .int .i64 0, .int .i64 0, .slice none 0 0]) ?_ 0 _ rfl; (with_reducible repeat (first | refine blk_drewN ?_ _ | refine blk_drew ?_ | refine blk_alloc ?_ _)); exact BK55014.out) NB55014_0.out (by simp)); have n6_ := Aside0.mk (KeepBut.trans (by repeat (with_reducible first | exact HK.out | refine keep_far ?_ GW55014.out _)) hk (.inl rfl)); have n7_ := Aside0.mk (hb); have n8_ := Aside0.mk (hi); clear BK55001; clear BK55002; clear HO55008; clear BK55010; clear HO55013; clear BK55014; clear HK; clear HB; clear HI0; have BK55001 := n0_; have BK55002 := n1_; have HO55008 := n2_; have BK55010 := n3_; have HO55013 := n4_; have BK55014 := n5_; have HK := n6_; have HB := n7_; have HI0 := n8_; clear n0_ n1_ n2_ n3_ n4_ n5_ n6_ n7_ n8_; (try clear hb); (try clear hk); (try clear hi)))
  go_loopg [6] k (fun kq v6 w' => ∃ (x6_1 : Int) (x1001_1 : Int) (x55011003_1 : List Int) (x55015003_1 : List Int) (u55011003 : Value) (u55015003 : Value), v6 = .int .i64 x6_1 ∧ Aside0 (spec_twoImages.l0 kq x6_1 s0_0 x1001_1 t55003 t55004 t55005 x55011003_1 t55003 t55004 t55005 x55015003_1 = some (r1, r2, r3, r4, r5, r6, r7, r8, r9)) ∧ Aside0 (kq ≤ k) ∧ Aside0 (Kd.Q (Kd.int .i64) 3 w' w.heap.size (fun k_ => some k_ ≠ (u55015003 : Value).ownBlock) u55011003 x55011003_1) ∧ Aside0 (Kd.Q (Kd.int .i64) 3 w' w.heap.size (fun k_ => some k_ ≠ (u55011003 : Value).ownBlock) u55015003 x55015003_1) ∧ Aside0 (w'.heap[gb55001]? = some (.cells #[.int .i64 0, .int .i64 0, .int .i64 0, (.slice none 0 0)] 28 (0, 0))) ∧ Aside0 (w'.heap[gb55002]? = some (.cells #[.int .i64 0, .int .i64 0, .int .i64 0, (.slice none 0 0)] 28 (0, 0))) ∧ Aside0 (w'.heap[gb55010]? = some (.cells #[.int .i64 t55003, .int .i64 t55004, .int .i64 t55005, u55011003] 28 (0, 0))) ∧ Aside0 (w'.heap[gb55014]? = some (.cells #[.int .i64 t55003, .int .i64 t55004, .int .i64 t55005, u55015003] 28 (0, 0))) ∧ Aside0 (IsS100 w0 w' g s0_0 x1001_1) ∧ Aside0 (KeepBut w w' g none) ∧ Aside0 (Below w0.heap.size w0 w'))
  case atStart => exact ⟨(t55015), (t55016), (t55006), (t55011), (.slice Ao13 t55006.length co13), (.slice Ao20 t55011.length co20), (by rfl), H', ⟨Nat.le_refl _⟩, ⟨by (with_reducible repeat (first | apply Kd.Q_alloc | apply Kd.Q_drewN | apply Kd.Q_drew)); exact HO55008.out⟩, ⟨Kd.Q_of_R HO55013.out⟩, ⟨by (with_reducible repeat (first | refine blk_drewN ?_ _ | refine blk_drew ?_ | refine blk_alloc ?_ _)); exact BK55001.out⟩, ⟨by (with_reducible repeat (first | refine blk_drewN ?_ _ | refine blk_drew ?_ | refine blk_alloc ?_ _)); exact BK55002.out⟩, ⟨by (with_reducible repeat (first | refine blk_drewN ?_ _ | refine blk_drew ?_ | refine blk_alloc ?_ _)); exact BK55010.out⟩, ⟨by (with_reducible repeat (first | refine blk_drewN ?_ _ | refine blk_drew ?_ | refine blk_alloc ?_ _)); exact BK55014.out⟩, ⟨by exact HI0.out⟩, ⟨by exact HK.out⟩, ⟨by exact HB.out⟩⟩
  case round =>
    clear H'
    try clear c1
    try clear p2
    try clear c5
    try clear c7
    try clear c8
    try clear c9
    try clear c10
    try clear c11
    try clear hcz12_0
    try clear hcz12_1
    try clear hcz12_2
    try clear hcz12_3
    try clear hfz12_0
    try clear hfz12_1
    try clear hfz12_2
    try clear hfz12_3
    obtain ⟨x6_1, x1001_1, x55011003_1, x55015003_1, u55011003, u55015003, rfl, HA, HK1, HO_55011003, HO_55015003, BK55001, BK55002, BK55010, BK55014, HI0, HK, HB⟩ := hrel
    cases gk with
    | zero => exact absurd HA.out (by simp [spec_twoImages.l0])
    | succ k1 =>
      have H := HA.out
      clear HA
      simp only [spec_twoImages.l0] at H
      have HC26 := Aside0.mk H
      clear H
      go_upto_region 4 with (fail)
      go_cut [28] (fun v28 wc => ∃ (kq : Nat) (x28_25 : Bool), v28 = .bool x28_25 ∧ Aside0 (spec_twoImages.j1 kq x6_1 x28_25 s0_0 x1001_1 t55003 t55004 t55005 x55011003_1 t55003 t55004 t55005 x55015003_1 = some (r1, r2, r3, r4, r5, r6, r7, r8, r9)) ∧ Aside0 (kq ≤ k1) ∧ Aside0 (Kd.Q (Kd.int .i64) 3 wc w.heap.size (fun k_ => some k_ ≠ (u55015003 : Value).ownBlock) u55011003 x55011003_1) ∧ Aside0 (Kd.Q (Kd.int .i64) 3 wc w.heap.size (fun k_ => some k_ ≠ (u55011003 : Value).ownBlock) u55015003 x55015003_1) ∧ Aside0 (wc.heap[gb55001]? = some (.cells #[.int .i64 0, .int .i64 0, .int .i64 0, (.slice none 0 0)] 28 (0, 0))) ∧ Aside0 (wc.heap[gb55002]? = some (.cells #[.int .i64 0, .int .i64 0, .int .i64 0, (.slice none 0 0)] 28 (0, 0))) ∧ Aside0 (wc.heap[gb55010]? = some (.cells #[.int .i64 t55003, .int .i64 t55004, .int .i64 t55005, u55011003] 28 (0, 0))) ∧ Aside0 (wc.heap[gb55014]? = some (.cells #[.int .i64 t55003, .int .i64 t55004, .int .i64 t55005, u55015003] 28 (0, 0))) ∧ Aside0 (IsS100 w0 wc g s0_0 x1001_1) ∧ Aside0 (KeepBut w wc g none) ∧ Aside0 (Below w0.heap.size w0 wc))
      case first =>
        have H := HC26.out
        clear HC26
        by_cases c27 : x6_1 > 0
        · rw [if_pos c27] at H
          have c27b0 : decide (0 < x6_1) = true := decide_eq_true c27
          clear c27
          (skip)
          have H' := Aside0.mk H
          clear H
          have hnb28 := NB55014_55001.out
          have hnc28 := NB55001_55014.out
          have hnb29 := NB55014_55002.out
          have hnc29 := NB55002_55014.out
          have hnb30 := NB55014_55010.out
          have hnc30 := NB55010_55014.out
          have hnb31 := NB55014_0.out
          have hnc31 := NB0_55014.out
          have hcz32_0 : wr.cell? ⟨gb55014, 0, none⟩ = some (.int .i64 t55003) := (blk_cell BK55014.out 0).trans rfl
          have hcz32_1 : wr.cell? ⟨gb55014, 1, none⟩ = some (.int .i64 t55004) := (blk_cell BK55014.out 1).trans rfl
          have hcz32_2 : wr.cell? ⟨gb55014, 2, none⟩ = some (.int .i64 t55005) := (blk_cell BK55014.out 2).trans rfl
          have hcz32_3 : wr.cell? ⟨gb55014, 3, none⟩ = some u55015003 := (blk_cell BK55014.out 3).trans rfl
          have hfz32_0 := blk_frozen BK55014.out 0
          have hfz32_1 := blk_frozen BK55014.out 1
          have hfz32_2 := blk_frozen BK55014.out 2
          have hfz32_3 := blk_frozen BK55014.out 3
          obtain ⟨Ao33, co33, eo33, _⟩ := Kd.Q_slice HO_55015003.out
          subst eo33
          go_wp2
          go_meet
          case rel => exact ⟨_, (decide ((x55015003_1.length : Int) > 0)), (by (simp; done)), H', ⟨by have := HK1.out; omega⟩, ⟨by (with_reducible repeat (first | apply Kd.Q_alloc | apply Kd.Q_drewN | apply Kd.Q_drew)); exact HO_55011003.out⟩, ⟨by (with_reducible repeat (first | apply Kd.Q_alloc | apply Kd.Q_drewN | apply Kd.Q_drew)); exact HO_55015003.out⟩, ⟨by (with_reducible repeat (first | refine blk_drewN ?_ _ | refine blk_drew ?_ | refine blk_alloc ?_ _)); exact BK55001.out⟩, ⟨by (with_reducible repeat (first | refine blk_drewN ?_ _ | refine blk_drew ?_ | refine blk_alloc ?_ _)); exact BK55002.out⟩, ⟨by (with_reducible repeat (first | refine blk_drewN ?_ _ | refine blk_drew ?_ | refine blk_alloc ?_ _)); exact BK55010.out⟩, ⟨by (with_reducible repeat (first | refine blk_drewN ?_ _ | refine blk_drew ?_ | refine blk_alloc ?_ _)); exact BK55014.out⟩, ⟨by exact HI0.out⟩, ⟨by exact HK.out⟩, ⟨by exact HB.out⟩⟩
        · rw [if_neg c27] at H
          have c27b0 : decide (0 < x6_1) = false := decide_eq_false c27
          clear c27
          (skip)
          have H' := Aside0.mk H
          clear H
          go_wp2
          go_meet
          case rel => exact ⟨_, (false), (by rfl), H', ⟨by have := HK1.out; omega⟩, ⟨by (with_reducible repeat (first | apply Kd.Q_alloc | apply Kd.Q_drewN | apply Kd.Q_drew)); exact HO_55011003.out⟩, ⟨by (with_reducible repeat (first | apply Kd.Q_alloc | apply Kd.Q_drewN | apply Kd.Q_drew)); exact HO_55015003.out⟩, ⟨by (with_reducible repeat (first | refine blk_drewN ?_ _ | refine blk_drew ?_ | refine blk_alloc ?_ _)); exact BK55001.out⟩, ⟨by (with_reducible repeat (first | refine blk_drewN ?_ _ | refine blk_drew ?_ | refine blk_alloc ?_ _)); exact BK55002.out⟩, ⟨by (with_reducible repeat (first | refine blk_drewN ?_ _ | refine blk_drew ?_ | refine blk_alloc ?_ _)); exact BK55010.out⟩, ⟨by (with_reducible repeat (first | refine blk_drewN ?_ _ | refine blk_drew ?_ | refine blk_alloc ?_ _)); exact BK55014.out⟩, ⟨by exact HI0.out⟩, ⟨by exact HK.out⟩, ⟨by exact HB.out⟩⟩
      case rest =>
        clear HC26
        try clear c1
        try clear c2
        try clear p2
        try clear c3
        try clear c5
        try clear c7
        try clear c8
        try clear c9
        try clear c10
        try clear c11
        try clear c27
        try clear c27b0
        try clear c28
        try clear c29
        try clear c30
        try clear c31
        try clear hcz12_0
        try clear hcz12_1
        try clear hcz12_2
        try clear hcz12_3
        try clear hcz32_0
        try clear hcz32_1
        try clear hcz32_2
        try clear hcz32_3
        try clear hfz12_0
        try clear hfz12_1
        try clear hfz12_2
        try clear hfz12_3
        try clear hfz32_0
        try clear hfz32_1
        try clear hfz32_2
        try clear hfz32_3
        try clear p2
        obtain ⟨kq, x28_25, rfl, HA, HJ25, HO_55011003, HO_55015003, BK55001, BK55002, BK55010, BK55014, HI0, HK, HB⟩ := hcut
        cases kq with
        | zero => exact absurd HA.out (by simp [spec_twoImages.j1])
        | succ kj25 =>
          have H := HA.out
          clear HA
          simp only [spec_twoImages.j1] at H
          by_cases c34 : x28_25 = true
          · subst c34
            have H1 : ((spec_reader_pick.f kj25 s0_0 x1001_1 (x55015003_1.length : Int)).bind fun bt55017 => ((spec_reader_pick.f kj25 s0_0 bt55017.2 256).bind fun bt55019 => (if 0 ≤ bt55017.1 then (if bt55017.1 < (x55015003_1.length : Int) then (spec_twoImages.l0 kj25 (wrap64 (x6_1 - 1)) s0_0 bt55019.2 t55003 t55004 t55005 x55011003_1 t55003 t55004 t55005 (x55015003_1.set (bt55017.1 : Int).toNat bt55019.1)) else none) else none))) = some (r1, r2, r3, r4, r5, r6, r7, r8, r9) := by rw [if_pos rfl] at H; exact H
            clear H
            have H := H1
            clear H1
            replace H := Option.bind_eq_some_iff.mp H
            obtain ⟨⟨t55017, t55018⟩, A350, H⟩ := H
            replace H : ((spec_reader_pick.f kj25 s0_0 t55018 256).bind fun bt55019 => (if 0 ≤ t55017 then (if t55017 < (x55015003_1.length : Int) then (spec_twoImages.l0 kj25 (wrap64 (x6_1 - 1)) s0_0 bt55019.2 t55003 t55004 t55005 x55011003_1 t55003 t55004 t55005 (x55015003_1.set (t55017 : Int).toNat bt55019.1)) else none) else none)) = some (r1, r2, r3, r4, r5, r6, r7, r8, r9) := H
            have A35 := Aside0.mk A350
            clear A350
            replace H := Option.bind_eq_some_iff.mp H
            obtain ⟨⟨t55019, t55020⟩, A360, H⟩ := H
            replace H : (if 0 ≤ t55017 then (if t55017 < (x55015003_1.length : Int) then (spec_twoImages.l0 kj25 (wrap64 (x6_1 - 1)) s0_0 t55020 t55003 t55004 t55005 x55011003_1 t55003 t55004 t55005 (x55015003_1.set (t55017 : Int).toNat t55019)) else none) else none) = some (r1, r2, r3, r4, r5, r6, r7, r8, r9) := H
            have A36 := Aside0.mk A360
            clear A360
            by_cases c37 : 0 ≤ t55017
            · rw [if_pos c37] at H
              have c37b0 : decide (0 ≤ t55017) = true := decide_eq_true c37
              clear c37
              by_cases c38 : t55017 < (x55015003_1.length : Int)
              · rw [if_pos c38] at H
                have c38b0 : decide (t55017 < (x55015003_1.length : Int)) = true := decide_eq_true c38
                clear c38
                obtain ⟨y55021, hy55021⟩ : ∃ y_ : List Int, y_ = (x55015003_1.set (t55017 : Int).toNat t55019) := ⟨_, rfl⟩
                replace H : (spec_twoImages.l0 kj25 (wrap64 (x6_1 - 1)) s0_0 t55020 t55003 t55004 t55005 x55011003_1 t55003 t55004 t55005 y55021) = some (r1, r2, r3, r4, r5, r6, r7, r8, r9) := by (rw [hy55021]; with_reducible exact H)
                have Ny55021 := Aside0.mk hy55021
                clear hy55021
                have H' := Aside0.mk H
                clear H
                try go_wp2
                have n0_ := Aside0.mk (Kd.Q_drew HO_55011003.out)
                have n1_ := Aside0.mk (Kd.Q_drew HO_55015003.out)
                have n2_ := Aside0.mk (blk_drew BK55001.out)
                have n3_ := Aside0.mk (blk_drew BK55002.out)
                have n4_ := Aside0.mk (blk_drew BK55010.out)
                have n5_ := Aside0.mk (blk_drew BK55014.out)
                have n6_ := Aside0.mk (IsS100.drew HI0.out)
                have n7_ := Aside0.mk (keep_drew HK.out)
                have n8_ := Aside0.mk (below_drew1 HB.out)
                clear HO_55011003 HO_55015003 BK55001 BK55002 BK55010 BK55014 HI0 HK HB
                revert n0_ n1_ n2_ n3_ n4_ n5_ n6_ n7_ n8_; intro HO_55011003 HO_55015003 BK55001 BK55002 BK55010 BK55014 HI0 HK HB
                obtain ⟨Ao41, co41, eo41, _⟩ := Kd.Q_slice HO_55015003.out
                (subst eo41)
                refine start_ (n := 11) (S := fun w' => w'.cell? ⟨gb55014, 0, none⟩ = some (.int .i64 t55003) ∧ w'.cell? ⟨gb55014, 1, none⟩ = some (.int .i64 t55004) ∧ w'.cell? ⟨gb55014, 2, none⟩ = some (.int .i64 t55005) ∧ w'.cell? ⟨gb55014, 3, none⟩ = some (.slice Ao41 x55015003_1.length co41)) (ds := [10]) #[false, false, false, false, false, false, false, false, false, false, false] (by kernel_rfl) rfl rfl ⟨(blk_cell BK55014.out 0).trans rfl, (blk_cell BK55014.out 1).trans rfl, (blk_cell BK55014.out 2).trans rfl, (blk_cell BK55014.out 3).trans rfl⟩ (fun hHeld => ?_); refine with_tabW spec_twoImages.tab6 spec_twoImages.bits6 (fun HT_ HW_ => ?_)
                generalize wc.drew = w40 at HO_55011003 HO_55015003 BK55001 BK55002 BK55010 BK55014 HI0 HK HB hHeld ⊢
                refine pure_ (i := 0) (N := some 31) (v := ?_) (a' := ?_) #[true, false, false, false, false, false, false, false, false, false, false] rfl rfl (any_of HT_.out (by kernel_rfl)) (fun _ _ _ h => h) (Or.inl ⟨by rfl, ?_⟩) ?_ ?_
                rotate_left
                · intro w'
                  go_simp
                  with_reducible rfl
                rotate_left
                · simp only [Act.put, List.setIfInBounds_toArray, List.set_cons_zero, List.set_cons_succ, i64_w, i32_w]
                  rfl
                refine pure_ (i := 2) (N := some 33) (v := ?_) (a' := ?_) #[true, false, true, false, false, false, false, false, false, false, false] rfl rfl (any_of HT_.out (by kernel_rfl)) (fun _ _ _ h => h) (Or.inl ⟨by rfl, ?_⟩) ?_ ?_
                rotate_left
                · intro w'
                  go_simp
                  with_reducible rfl
                rotate_left
                · simp only [Act.put, List.setIfInBounds_toArray, List.set_cons_zero, List.set_cons_succ, i64_w, i32_w]
                  rfl
                refine pure_ (i := 3) (N := some 34) (v := ?_) (a' := ?_) #[true, false, true, true, false, false, false, false, false, false, false] rfl rfl (any_of HT_.out (by kernel_rfl)) (fun _ _ _ h => h) (Or.inl ⟨by rfl, ?_⟩) ?_ ?_
                rotate_left
                · intro w'
                  go_simp
                  with_reducible rfl
                rotate_left
                · simp only [Act.put, List.setIfInBounds_toArray, List.set_cons_zero, List.set_cons_succ, i64_w, i32_w]
                  rfl
                refine pure_ (i := 7) (N := some 38) (v := ?_) (a' := ?_) #[true, false, true, true, false, false, false, true, false, false, false] rfl rfl (any_of HT_.out (by kernel_rfl)) (fun _ _ _ h => h) (Or.inl ⟨by rfl, ?_⟩) ?_ ?_
                rotate_left
                · intro w'
                  go_simp
                  with_reducible rfl
                rotate_left
                · simp only [Act.put, List.setIfInBounds_toArray, List.set_cons_zero, List.set_cons_succ, i64_w, i32_w]
                  rfl
                refine take_ (i := 1) (N := some 32) (v := ?_) (a' := ?_) #[true, true, true, true, false, false, false, true, false, false, false] rfl rfl (take_ofW HT_.out HW_.out (by kernel_rfl)) (fun _ _ _ h => h) (Or.inl ⟨by rfl, ?_⟩) hHeld ?_ ?_
                rotate_left
                · rintro w' ⟨s0, s1, s2, s3⟩
                  go_simp
                  with_reducible rfl
                rotate_left
                · simp only [Act.put, List.setIfInBounds_toArray, List.set_cons_zero, List.set_cons_succ, i64_w, i32_w]
                  rfl
                refine take_ (i := 4) (N := some 35) (v := ?_) (a' := ?_) #[true, true, true, true, true, false, false, true, false, false, false] rfl rfl (take_ofW HT_.out HW_.out (by kernel_rfl)) (fun _ _ _ h => h) (Or.inl ⟨by rfl, ?_⟩) hHeld ?_ ?_
                rotate_left
                · rintro w' ⟨s0, s1, s2, s3⟩
                  go_simp
                  with_reducible rfl
                rotate_left
                · simp only [Act.put, List.setIfInBounds_toArray, List.set_cons_zero, List.set_cons_succ, i64_w, i32_w]
                  rfl
                refine pure_ (i := 5) (N := some 36) (v := ?_) (a' := ?_) #[true, true, true, true, true, true, false, true, false, false, false] rfl rfl (any_of HT_.out (by kernel_rfl)) (fun _ _ _ h => h) (Or.inl ⟨by rfl, ?_⟩) ?_ ?_
                rotate_left
                · intro w'
                  go_simp
                  with_reducible rfl
                rotate_left
                · simp only [Act.put, List.setIfInBounds_toArray, List.set_cons_zero, List.set_cons_succ, i64_w, i32_w]
                  rfl
                refine one_ (i := 6) (N := some 37) #[true, true, true, true, true, true, true, true, false, false, false] rfl rfl (one_of HT_.out (by kernel_rfl)) (by decide) (fun K hK => ?_)
                refine goes_ Try.func82 (by kernel_rfl) rfl #[.pointer (some ⟨g, 0, none⟩), .int .i64 (x55015003_1.length : Int)] (by rfl) rfl rfl (by (try simp only [List.map_toArray, List.map_cons, List.map_nil]); rfl) ?_
                with_reducible refine (spec_reader_pick.calls kj25 g s0_0 x1001_1 (x55015003_1.length : Int) t55017 t55018 w0 _ ?side1 ?side2 A35.out).mono ?_
                (case side1 => repeat (with_reducible exact HI0.out))
                (case side2 => repeat (with_reducible exact HB.out))
                rintro e w42 ⟨rfl, hi, hb, hk⟩
                refine ⟨_, rfl, ?_⟩
                have n0_ := Aside0.mk (Kd.Q_mono (Kd.Q_keep (IsS100.apartQ (show IsS100 w0 _ g s0_0 x1001_1 from by exact HI0.out) HO_55011003.out (by decide)) hk (fun _ h => h.2)) (fun _ h => h.1))
                have n1_ := Aside0.mk (Kd.Q_mono (Kd.Q_keep (IsS100.apartQ (show IsS100 w0 _ g s0_0 x1001_1 from by exact HI0.out) HO_55015003.out (by decide)) hk (fun _ h => h.2)) (fun _ h => h.1))
                have n2_ := Aside0.mk (KeepBut.blk hk (g' := gb55001) (o := .cells #[.int .i64 0, .int .i64 0, .int .i64 0, .slice none 0 0] 28 (0, 0)) BK55001.out NB55001_0.out (by simp))
                have n3_ := Aside0.mk (KeepBut.blk hk (g' := gb55002) (o := .cells #[.int .i64 0, .int .i64 0, .int .i64 0, .slice none 0 0] 28 (0, 0)) BK55002.out NB55002_0.out (by simp))
                have n4_ := Aside0.mk (KeepBut.blk hk (g' := gb55010) (o := .cells #[.int .i64 t55003, .int .i64 t55004, .int .i64 t55005, u55011003] 28 (0, 0)) BK55010.out NB55010_0.out (by simp))
                have n5_ := Aside0.mk (KeepBut.blk hk (g' := gb55014) (o := .cells #[.int .i64 t55003, .int .i64 t55004, .int .i64 t55005, .slice Ao41 x55015003_1.length co41] 28 (0, 0)) BK55014.out NB55014_0.out (by simp))
                have n6_ := Aside0.mk (KeepBut.trans HK.out hk (.inl rfl))
                have n7_ := Aside0.mk (hb)
                have n8_ := Aside0.mk (hi)
                clear HO_55011003 HO_55015003 BK55001 BK55002 BK55010 BK55014 HK HB HI0
                revert n0_ n1_ n2_ n3_ n4_ n5_ n6_ n7_ n8_; intro HO_55011003 HO_55015003 BK55001 BK55002 BK55010 BK55014 HK HB HI0
                (try clear hb)
                (try clear hk)
                (try clear hi)
                refine hK.out _ _ ⟨(blk_cell BK55014.out 0).trans rfl, (blk_cell BK55014.out 1).trans rfl, (blk_cell BK55014.out 2).trans rfl, (blk_cell BK55014.out 3).trans rfl⟩ (fun hHeld => ?_)
                clear hK K
                refine norm_ (a' := ?_) ?_ ?_
                rotate_left
                · show Act.put _ (some 37) _ = _
                  simp only [Act.put, List.setIfInBounds_toArray, List.set_cons_zero, List.set_cons_succ, i64_w, i32_w]
                  rfl
                refine one_ (i := 8) (N := some 39) #[true, true, true, true, true, true, true, true, true, false, false] rfl rfl (one_of HT_.out (by kernel_rfl)) (by decide) (fun K hK => ?_)
                refine goes_ Try.func82 (by kernel_rfl) rfl #[.pointer (some ⟨g, 0, none⟩), .int .i64 256] (by rfl) rfl rfl (by (try simp only [List.map_toArray, List.map_cons, List.map_nil]); rfl) ?_
                with_reducible refine (spec_reader_pick.calls kj25 g s0_0 t55018 256 t55019 t55020 w0 _ ?side1 ?side2 A36.out).mono ?_
                (case side1 => repeat (with_reducible exact HI0.out))
                (case side2 => repeat (with_reducible exact HB.out))
                rintro e w43 ⟨rfl, hi, hb, hk⟩
                refine ⟨_, rfl, ?_⟩
                have n0_ := Aside0.mk (Kd.Q_mono (Kd.Q_keep (IsS100.apartQ (show IsS100 w0 _ g s0_0 t55018 from by exact HI0.out) HO_55011003.out (by decide)) hk (fun _ h => h.2)) (fun _ h => h.1))
                have n1_ := Aside0.mk (Kd.Q_mono (Kd.Q_keep (IsS100.apartQ (show IsS100 w0 _ g s0_0 t55018 from by exact HI0.out) HO_55015003.out (by decide)) hk (fun _ h => h.2)) (fun _ h => h.1))
                have n2_ := Aside0.mk (KeepBut.blk hk (g' := gb55001) (o := .cells #[.int .i64 0, .int .i64 0, .int .i64 0, .slice none 0 0] 28 (0, 0)) BK55001.out NB55001_0.out (by simp))
                have n3_ := Aside0.mk (KeepBut.blk hk (g' := gb55002) (o := .cells #[.int .i64 0, .int .i64 0, .int .i64 0, .slice none 0 0] 28 (0, 0)) BK55002.out NB55002_0.out (by simp))
                have n4_ := Aside0.mk (KeepBut.blk hk (g' := gb55010) (o := .cells #[.int .i64 t55003, .int .i64 t55004, .int .i64 t55005, u55011003] 28 (0, 0)) BK55010.out NB55010_0.out (by simp))
                have n5_ := Aside0.mk (KeepBut.blk hk (g' := gb55014) (o := .cells #[.int .i64 t55003, .int .i64 t55004, .int .i64 t55005, .slice Ao41 x55015003_1.length co41] 28 (0, 0)) BK55014.out NB55014_0.out (by simp))
                have n6_ := Aside0.mk (KeepBut.trans HK.out hk (.inl rfl))
                have n7_ := Aside0.mk (hb)
                have n8_ := Aside0.mk (hi)
                clear HO_55011003 HO_55015003 BK55001 BK55002 BK55010 BK55014 HK HB HI0
                revert n0_ n1_ n2_ n3_ n4_ n5_ n6_ n7_ n8_; intro HO_55011003 HO_55015003 BK55001 BK55002 BK55010 BK55014 HK HB HI0
                (try clear hb)
                (try clear hk)
                (try clear hi)
                have p39 : 0 ≤ (t55017 : Int) := of_decide_eq_true (by (with_reducible assumption))
                have q39 : (t55017 : Int) < ((x55015003_1.length : Int) : Int) := of_decide_eq_true (by (with_reducible assumption))
                obtain ⟨go39, oo39, co39, eo39, gb39, gl39, cl39, HG39⟩ := Kd.Q_form HO_55015003.out (by omega)
                (cases eo39)
                have GB39 := Aside0.mk gb39
                have GG39 := Aside0.mk HG39
                clear gb39 gl39 HG39
                obtain ⟨hx39_0, hf39_0⟩ := Kd.Q_cell 0 HO_55015003.out (t55017 : Int) p39 q39
                replace p39 := eq_true p39
                replace q39 := eq_true q39
                have HN0_go39 := Aside0.mk (show g ≠ go39 from by have h_ := IsS100.own_neQ HI0.out HO_55015003.out (by decide); intro e_; exact h_ (by rw [e_]; rfl))
                have HP44 := (Kd.Q_putg HO_55015003.out (t55017 : Int) (of_decide_eq_true (by (with_reducible assumption))) (by have h_ : (t55017 : Int) < ((x55015003_1.length : Int) : Int) := of_decide_eq_true (by (with_reducible assumption)); exact h_) t55019).1
                rw [← Ny55021.out] at HP44
                have HQ44 := Aside0.mk HP44
                clear HP44
                refine hK.out _ _ ⟨(blk_cell BK55014.out 0).trans rfl, (blk_cell BK55014.out 1).trans rfl, (blk_cell BK55014.out 2).trans rfl, (blk_cell BK55014.out 3).trans rfl⟩ (fun hHeld => ?_)
                clear hK K
                refine norm_ (a' := ?_) ?_ ?_
                rotate_left
                · show Act.put _ (some 39) _ = _
                  simp only [Act.put, List.setIfInBounds_toArray, List.set_cons_zero, List.set_cons_succ, i64_w, i32_w]
                  rfl
                refine pure_ (i := 9) (N := some 40) (v := ?_) (a' := ?_) #[true, true, true, true, true, true, true, true, true, true, false] rfl rfl (any_of HT_.out (by kernel_rfl)) (fun _ _ _ h => h) (Or.inl ⟨by rfl, ?_⟩) ?_ ?_
                rotate_left
                · intro w'
                  go_simp
                  with_reducible rfl
                rotate_left
                · simp only [Act.put, List.setIfInBounds_toArray, List.set_cons_zero, List.set_cons_succ, i64_w, i32_w]
                  rfl
                refine last_ (i := 10) (N := none) #[true, true, true, true, true, true, true, true, true, true, true] rfl rfl (one_of HT_.out (by kernel_rfl)) (by decide) (fun K hK => ?_)
                refine skip_ (w1 := ?_) (by rfl) rfl ?_ ?_
                rotate_left
                · go_simp
                  rfl
                refine hK.out _ _ ?_
                clear hK K
                refine done_ (done_of HT_.out (by kernel_rfl)) ?_
                try go_wp2
                go_roundg kj25
                case measure => have := HK1.out; have := HJ25.out; omega
                case rel => exact ⟨(wrap64 (x6_1 - 1)), (t55020), (x55011003_1), (y55021), (u55011003), (.slice (some ⟨go39, oo39, none⟩) x55015003_1.length co41), (by rfl), H', ⟨by have := HK1.out; have := HJ25.out; omega⟩, ⟨by (with_reducible repeat (first | apply Kd.Q_alloc | apply Kd.Q_drewN | apply Kd.Q_drew)); exact Kd.Q_mono (Kd.Q_far (p := ⟨go39, oo39 + (t55017 : Int).toNat, none⟩) (Kd.Q_mono HO_55011003.out (fun k_ hk => (⟨hk, fun e_ => hk (by rw [e_]; rfl)⟩ : _ ∧ k_ ≠ go39))) (fun _ hk => hk.2) (.int .i64 t55019)) (fun _ hk => hk.1)⟩, ⟨by (with_reducible repeat (first | apply Kd.Q_alloc | apply Kd.Q_drewN | apply Kd.Q_drew)); exact HQ44.out⟩, ⟨by (with_reducible repeat (first | refine blk_drewN ?_ _ | refine blk_drew ?_ | refine blk_alloc ?_ _)); refine blk_far ?_ (by have h_ := Kd.Q_ne HO_55015003.out BK55001.out (by decide); intro e_; exact h_ (by rw [e_]; rfl)) _; (with_reducible repeat (first | refine blk_drewN ?_ _ | refine blk_drew ?_ | refine blk_alloc ?_ _)); exact BK55001.out⟩, ⟨by (with_reducible repeat (first | refine blk_drewN ?_ _ | refine blk_drew ?_ | refine blk_alloc ?_ _)); refine blk_far ?_ (by have h_ := Kd.Q_ne HO_55015003.out BK55002.out (by decide); intro e_; exact h_ (by rw [e_]; rfl)) _; (with_reducible repeat (first | refine blk_drewN ?_ _ | refine blk_drew ?_ | refine blk_alloc ?_ _)); exact BK55002.out⟩, ⟨by (with_reducible repeat (first | refine blk_drewN ?_ _ | refine blk_drew ?_ | refine blk_alloc ?_ _)); refine blk_far ?_ (by have h_ := Kd.Q_ne HO_55015003.out BK55010.out (by decide); intro e_; exact h_ (by rw [e_]; rfl)) _; (with_reducible repeat (first | refine blk_drewN ?_ _ | refine blk_drew ?_ | refine blk_alloc ?_ _)); exact BK55010.out⟩, ⟨by (with_reducible repeat (first | refine blk_drewN ?_ _ | refine blk_drew ?_ | refine blk_alloc ?_ _)); refine blk_far ?_ (by have h_ := Kd.Q_ne HO_55015003.out BK55014.out (by decide); intro e_; exact h_ (by rw [e_]; rfl)) _; (with_reducible repeat (first | refine blk_drewN ?_ _ | refine blk_drew ?_ | refine blk_alloc ?_ _)); exact BK55014.out⟩, ⟨by repeat (with_reducible first | exact HI0.out | refine IsS100.far ?_ HN0_go39.out _)⟩, ⟨by repeat (with_reducible first | exact HK.out | refine keep_far ?_ GB39.out _)⟩, ⟨by repeat ((with_reducible first | exact HB.out | refine below_set ?_ (Nat.le_trans HL.out GB39.out)))⟩⟩
              · rw [if_neg c38] at H
                exact absurd H (by simp)
            · rw [if_neg c37] at H
              exact absurd H (by simp)
          · replace c34 := Bool.eq_false_iff.mpr c34
            subst c34
            have H1 : ((spec_reader_pick.f kj25 s0_0 x1001_1 16).bind fun bt55022 => (if bt55022.1 = 0 then ((spec_anyImage.f kj25 s0_0 bt55022.2).bind fun bt55024 => (some (t55003, t55004, t55005, x55011003_1, bt55024.1, bt55024.2.1, bt55024.2.2.1, bt55024.2.2.2.1, bt55024.2.2.2.2))) else (some (t55003, t55004, t55005, x55011003_1, t55003, t55004, t55005, x55015003_1, bt55022.2)))) = some (r1, r2, r3, r4, r5, r6, r7, r8, r9) := by rw [if_neg (show ¬ (false = true) by decide)] at H; exact H
            clear H
            have H := H1
            clear H1
            replace H := Option.bind_eq_some_iff.mp H
            obtain ⟨⟨t55022, t55023⟩, A450, H⟩ := H
            replace H : (if t55022 = 0 then ((spec_anyImage.f kj25 s0_0 t55023).bind fun bt55024 => (some (t55003, t55004, t55005, x55011003_1, bt55024.1, bt55024.2.1, bt55024.2.2.1, bt55024.2.2.2.1, bt55024.2.2.2.2))) else (some (t55003, t55004, t55005, x55011003_1, t55003, t55004, t55005, x55015003_1, t55023))) = some (r1, r2, r3, r4, r5, r6, r7, r8, r9) := H
            have A45 := Aside0.mk A450
            clear A450
            by_cases c46 : t55022 = 0
            · rw [if_pos c46] at H
              have c46b0 : (t55022 == 0) = true := beq_iff_eq.mpr c46
              have c46b1 : (t55022 != 0) = false := bne_eq_false_iff_eq.mpr c46
              clear c46
              replace H := Option.bind_eq_some_iff.mp H
              obtain ⟨⟨t55024, t55025, t55026, t55027, t55030⟩, A470, H⟩ := H
              replace H : (some (t55003, t55004, t55005, x55011003_1, t55024, t55025, t55026, t55027, t55030)) = some (r1, r2, r3, r4, r5, r6, r7, r8, r9) := H
              have A47 := Aside0.mk A470
              clear A470
              simp only [Option.some.injEq, Prod.mk.injEq] at H
              obtain ⟨rfl, rfl, rfl, rfl, rfl, rfl, rfl, rfl, rfl⟩ := H
              try go_wp2_with (first | ((with_reducible refine gate_callee (f := 82) rfl ?_); refine goesL_ (some 42) rfl rfl Try.func82 (by kernel_rfl) rfl #[.pointer (some ⟨g, 0, none⟩), .int .i64 16] rfl (by (try simp only [List.map_toArray, List.map_cons, List.map_nil]); rfl) ?_; (with_reducible refine (spec_reader_pick.calls kj25 g s0_0 x1001_1 16 t55022 t55023 w0 _ ?side1 ?side2 A45.out).mono ?_); (case side1 => repeat (with_reducible exact HI0.out)); (case side2 => repeat (with_reducible exact HB.out)); rintro e w48 ⟨rfl, hi, hb, hk⟩; refine ⟨_, rfl, ?_⟩; have n0_ := Aside0.mk (Kd.Q_mono (Kd.Q_keep (IsS100.apartQ (show IsS100 w0 _ g s0_0 x1001_1 from by exact HI0.out) HO_55011003.out (by decide)) hk (fun _ h => h.2)) (fun _ h => h.1)); have n1_ := Aside0.mk (Kd.Q_mono (Kd.Q_keep (IsS100.apartQ (show IsS100 w0 _ g s0_0 x1001_1 from by exact HI0.out) HO_55015003.out (by decide)) hk (fun _ h => h.2)) (fun _ h => h.1)); have n2_ := Aside0.mk (KeepBut.blk hk (g' := gb55001) (o := .cells #[.int .i64 0, .int .i64 0, .int .i64 0, .slice none 0 0] 28 (0, 0)) BK55001.out NB55001_0.out (by simp)); have n3_ := Aside0.mk (KeepBut.blk hk (g' := gb55002) (o := .cells #[.int .i64 0, .int .i64 0, .int .i64 0, .slice none 0 0] 28 (0, 0)) BK55002.out NB55002_0.out (by simp)); have n4_ := Aside0.mk (KeepBut.blk hk (g' := gb55010) (o := .cells #[.int .i64 t55003, .int .i64 t55004, .int .i64 t55005, u55011003] 28 (0, 0)) BK55010.out NB55010_0.out (by simp)); have n5_ := Aside0.mk (KeepBut.blk hk (g' := gb55014) (o := .cells #[.int .i64 t55003, .int .i64 t55004, .int .i64 t55005, u55015003] 28 (0, 0)) BK55014.out NB55014_0.out (by simp)); have n6_ := Aside0.mk (KeepBut.trans HK.out hk (.inl rfl)); have n7_ := Aside0.mk (hb); have n8_ := Aside0.mk (hi); clear HO_55011003; clear HO_55015003; clear BK55001; clear BK55002; clear BK55010; clear BK55014; clear HK; clear HB; clear HI0; have HO_55011003 := n0_; have HO_55015003 := n1_; have BK55001 := n2_; have BK55002 := n3_; have BK55010 := n4_; have BK55014 := n5_; have HK := n6_; have HB := n7_; have HI0 := n8_; clear n0_ n1_ n2_ n3_ n4_ n5_ n6_ n7_ n8_; (try clear hb); (try clear hk); (try clear hi)) | ((with_reducible refine gate_callee (f := 72) rfl ?_); refine goesL_ (some 45) rfl rfl Try.func72 (by kernel_rfl) rfl #[.pointer (some ⟨g, 0, none⟩)] rfl (by (try simp only [List.map_toArray, List.map_cons, List.map_nil]); rfl) ?_; (with_reducible refine (spec_anyImage.calls kj25 g s0_0 t55023 t55024 t55025 t55026 t55027 t55030 w0 _ ?side1 ?side2 A47.out).mono ?_); (case side1 => repeat (with_reducible exact HI0.out)); (case side2 => repeat (with_reducible exact HB.out)); rintro e w49 ⟨v55028, rfl, ho0, hi, hb, hk⟩; refine ⟨_, rfl, ?_⟩; have n0_ := Aside0.mk (Kd.Q_mono (Kd.Q_told (Kd.Q_oldK (IsS100.apartQ (show IsS100 w0 _ g s0_0 t55023 from by exact HI0.out) HO_55011003.out (by decide)) hk) (Kd.Q_base ho0)) (fun _ h_ => h_.1)); have n1_ := Aside0.mk (Kd.Q_mono (Kd.Q_told (Kd.Q_oldK (IsS100.apartQ (show IsS100 w0 _ g s0_0 t55023 from by exact HI0.out) HO_55015003.out (by decide)) hk) (Kd.Q_base ho0)) (fun _ h_ => h_.1)); have n2_ := Aside0.mk (KeepBut.blk hk (g' := gb55001) (o := .cells #[.int .i64 0, .int .i64 0, .int .i64 0, .slice none 0 0] 28 (0, 0)) BK55001.out NB55001_0.out (by simp)); have n3_ := Aside0.mk (KeepBut.blk hk (g' := gb55002) (o := .cells #[.int .i64 0, .int .i64 0, .int .i64 0, .slice none 0 0] 28 (0, 0)) BK55002.out NB55002_0.out (by simp)); have n4_ := Aside0.mk (KeepBut.blk hk (g' := gb55010) (o := .cells #[.int .i64 t55003, .int .i64 t55004, .int .i64 t55005, u55011003] 28 (0, 0)) BK55010.out NB55010_0.out (by simp)); have n5_ := Aside0.mk (KeepBut.blk hk (g' := gb55014) (o := .cells #[.int .i64 t55003, .int .i64 t55004, .int .i64 t55005, u55015003] 28 (0, 0)) BK55014.out NB55014_0.out (by simp)); have n6_ := Aside0.mk (Kd.Q_lower (Kd.Q_new' (Kd.Q_new' ho0 (Kd.Q_lt HO_55011003.out)) (Kd.Q_lt HO_55015003.out)) (keep_size (w := w) (g := g) (row := none) HK.out)); have n7_ := Aside0.mk (KeepBut.trans HK.out hk (.inl rfl)); have n8_ := Aside0.mk (hb); have n9_ := Aside0.mk (hi); clear HO_55011003; clear HO_55015003; clear BK55001; clear BK55002; clear BK55010; clear BK55014; clear HK; clear HB; clear HI0; have HO_55011003 := n0_; have HO_55015003 := n1_; have BK55001 := n2_; have BK55002 := n3_; have BK55010 := n4_; have BK55014 := n5_; have HO55029 := n6_; have HK := n7_; have HB := n8_; have HI0 := n9_; clear n0_ n1_ n2_ n3_ n4_ n5_ n6_ n7_ n8_ n9_; (try clear hb); (try clear hk); (try clear hi); (try clear ho0); have hnb50 := NB55014_55001.out; have hnc50 := NB55001_55014.out; have hnb51 := NB55014_55002.out; have hnc51 := NB55002_55014.out; have hnb52 := NB55014_55010.out; have hnc52 := NB55010_55014.out; have hnb53 := NB55014_0.out; have hnc53 := NB0_55014.out; have hcz54_0 : w49.cell? ⟨gb55014, 0, none⟩ = some (.int .i64 t55003) := (blk_cell BK55014.out 0).trans rfl; have hcz54_1 : w49.cell? ⟨gb55014, 1, none⟩ = some (.int .i64 t55004) := (blk_cell BK55014.out 1).trans rfl; have hcz54_2 : w49.cell? ⟨gb55014, 2, none⟩ = some (.int .i64 t55005) := (blk_cell BK55014.out 2).trans rfl; have hcz54_3 : w49.cell? ⟨gb55014, 3, none⟩ = some u55015003 := (blk_cell BK55014.out 3).trans rfl; have hfz54_0 := blk_frozen BK55014.out 0; have hfz54_1 := blk_frozen BK55014.out 1; have hfz54_2 := blk_frozen BK55014.out 2; have hfz54_3 := blk_frozen BK55014.out 3; obtain ⟨Ao55, co55, eo55, _⟩ := Kd.Q_slice HO55029.out; subst eo55))
              have n0_ : Aside0 (Kd.Q (Kd.int .i64) 3 ((((w49.setCell ⟨gb55014, 0, none⟩ (.int .i64 t55024)).setCell ⟨gb55014, 1, none⟩ (.int .i64 t55025)).setCell ⟨gb55014, 2, none⟩ (.int .i64 t55026)).setCell ⟨gb55014, 3, none⟩ (.slice Ao55 t55027.length co55)) w.heap.size (fun k_ => some k_ ≠ (u55015003 : Value).ownBlock ∧ some k_ ≠ (.slice Ao55 t55027.length co55 : Value).ownBlock) u55011003 x55011003_1) := ⟨by (with_reducible repeat (first | apply Kd.Q_alloc | apply Kd.Q_drewN | apply Kd.Q_drew)); exact Kd.Q_mono (Kd.Q_far (p := ⟨gb55014, 3, none⟩) (Kd.Q_far (p := ⟨gb55014, 2, none⟩) (Kd.Q_far (p := ⟨gb55014, 1, none⟩) (Kd.Q_far (p := ⟨gb55014, 0, none⟩) (Kd.Q_types HO_55011003.out BK55014.out (by decide)) (fun _ hk => hk.2) (.int .i64 t55024)) (fun _ hk => hk.2) (.int .i64 t55025)) (fun _ hk => hk.2) (.int .i64 t55026)) (fun _ hk => hk.2) (.slice Ao55 t55027.length co55)) (fun _ hk => ⟨hk.1.1, hk.1.2⟩)⟩
              have n1_ : Aside0 (Kd.Q (Kd.int .i64) 3 ((((w49.setCell ⟨gb55014, 0, none⟩ (.int .i64 t55024)).setCell ⟨gb55014, 1, none⟩ (.int .i64 t55025)).setCell ⟨gb55014, 2, none⟩ (.int .i64 t55026)).setCell ⟨gb55014, 3, none⟩ (.slice Ao55 t55027.length co55)) w.heap.size (fun k_ => some k_ ≠ (u55011003 : Value).ownBlock ∧ some k_ ≠ (.slice Ao55 t55027.length co55 : Value).ownBlock) u55015003 x55015003_1) := ⟨by (with_reducible repeat (first | apply Kd.Q_alloc | apply Kd.Q_drewN | apply Kd.Q_drew)); exact Kd.Q_mono (Kd.Q_far (p := ⟨gb55014, 3, none⟩) (Kd.Q_far (p := ⟨gb55014, 2, none⟩) (Kd.Q_far (p := ⟨gb55014, 1, none⟩) (Kd.Q_far (p := ⟨gb55014, 0, none⟩) (Kd.Q_types HO_55015003.out BK55014.out (by decide)) (fun _ hk => hk.2) (.int .i64 t55024)) (fun _ hk => hk.2) (.int .i64 t55025)) (fun _ hk => hk.2) (.int .i64 t55026)) (fun _ hk => hk.2) (.slice Ao55 t55027.length co55)) (fun _ hk => ⟨hk.1.1, hk.1.2⟩)⟩
              have n2_ : Aside0 (Kd.Q (Kd.int .i64) 3 ((((w49.setCell ⟨gb55014, 0, none⟩ (.int .i64 t55024)).setCell ⟨gb55014, 1, none⟩ (.int .i64 t55025)).setCell ⟨gb55014, 2, none⟩ (.int .i64 t55026)).setCell ⟨gb55014, 3, none⟩ (.slice Ao55 t55027.length co55)) w.heap.size (fun k_ => some k_ ≠ (u55011003 : Value).ownBlock ∧ some k_ ≠ (u55015003 : Value).ownBlock) (.slice Ao55 t55027.length co55) t55027) := ⟨by (with_reducible repeat (first | apply Kd.Q_alloc | apply Kd.Q_drewN | apply Kd.Q_drew)); exact Kd.Q_mono (Kd.Q_far (p := ⟨gb55014, 3, none⟩) (Kd.Q_far (p := ⟨gb55014, 2, none⟩) (Kd.Q_far (p := ⟨gb55014, 1, none⟩) (Kd.Q_far (p := ⟨gb55014, 0, none⟩) (Kd.Q_types HO55029.out BK55014.out (by decide)) (fun _ hk => hk.2) (.int .i64 t55024)) (fun _ hk => hk.2) (.int .i64 t55025)) (fun _ hk => hk.2) (.int .i64 t55026)) (fun _ hk => hk.2) (.slice Ao55 t55027.length co55)) (fun _ hk => ⟨hk.1.1.2, hk.1.2⟩)⟩
              have n3_ : Aside0 (((((w49.setCell ⟨gb55014, 0, none⟩ (.int .i64 t55024)).setCell ⟨gb55014, 1, none⟩ (.int .i64 t55025)).setCell ⟨gb55014, 2, none⟩ (.int .i64 t55026)).setCell ⟨gb55014, 3, none⟩ (.slice Ao55 t55027.length co55)).heap[gb55001]? = some (.cells #[.int .i64 0, .int .i64 0, .int .i64 0, .slice none 0 0] 28 (0, 0))) := ⟨by (with_reducible repeat (first | refine blk_drewN ?_ _ | refine blk_drew ?_ | refine blk_alloc ?_ _)); refine blk_far ?_ NB55001_55014.out _; (with_reducible repeat (first | refine blk_drewN ?_ _ | refine blk_drew ?_ | refine blk_alloc ?_ _)); refine blk_far ?_ NB55001_55014.out _; (with_reducible repeat (first | refine blk_drewN ?_ _ | refine blk_drew ?_ | refine blk_alloc ?_ _)); refine blk_far ?_ NB55001_55014.out _; (with_reducible repeat (first | refine blk_drewN ?_ _ | refine blk_drew ?_ | refine blk_alloc ?_ _)); refine blk_far ?_ NB55001_55014.out _; (with_reducible repeat (first | refine blk_drewN ?_ _ | refine blk_drew ?_ | refine blk_alloc ?_ _)); exact BK55001.out⟩
              have n4_ : Aside0 (((((w49.setCell ⟨gb55014, 0, none⟩ (.int .i64 t55024)).setCell ⟨gb55014, 1, none⟩ (.int .i64 t55025)).setCell ⟨gb55014, 2, none⟩ (.int .i64 t55026)).setCell ⟨gb55014, 3, none⟩ (.slice Ao55 t55027.length co55)).heap[gb55002]? = some (.cells #[.int .i64 0, .int .i64 0, .int .i64 0, .slice none 0 0] 28 (0, 0))) := ⟨by (with_reducible repeat (first | refine blk_drewN ?_ _ | refine blk_drew ?_ | refine blk_alloc ?_ _)); refine blk_far ?_ NB55002_55014.out _; (with_reducible repeat (first | refine blk_drewN ?_ _ | refine blk_drew ?_ | refine blk_alloc ?_ _)); refine blk_far ?_ NB55002_55014.out _; (with_reducible repeat (first | refine blk_drewN ?_ _ | refine blk_drew ?_ | refine blk_alloc ?_ _)); refine blk_far ?_ NB55002_55014.out _; (with_reducible repeat (first | refine blk_drewN ?_ _ | refine blk_drew ?_ | refine blk_alloc ?_ _)); refine blk_far ?_ NB55002_55014.out _; (with_reducible repeat (first | refine blk_drewN ?_ _ | refine blk_drew ?_ | refine blk_alloc ?_ _)); exact BK55002.out⟩
              have n5_ : Aside0 (((((w49.setCell ⟨gb55014, 0, none⟩ (.int .i64 t55024)).setCell ⟨gb55014, 1, none⟩ (.int .i64 t55025)).setCell ⟨gb55014, 2, none⟩ (.int .i64 t55026)).setCell ⟨gb55014, 3, none⟩ (.slice Ao55 t55027.length co55)).heap[gb55010]? = some (.cells #[.int .i64 t55003, .int .i64 t55004, .int .i64 t55005, u55011003] 28 (0, 0))) := ⟨by (with_reducible repeat (first | refine blk_drewN ?_ _ | refine blk_drew ?_ | refine blk_alloc ?_ _)); refine blk_far ?_ NB55010_55014.out _; (with_reducible repeat (first | refine blk_drewN ?_ _ | refine blk_drew ?_ | refine blk_alloc ?_ _)); refine blk_far ?_ NB55010_55014.out _; (with_reducible repeat (first | refine blk_drewN ?_ _ | refine blk_drew ?_ | refine blk_alloc ?_ _)); refine blk_far ?_ NB55010_55014.out _; (with_reducible repeat (first | refine blk_drewN ?_ _ | refine blk_drew ?_ | refine blk_alloc ?_ _)); refine blk_far ?_ NB55010_55014.out _; (with_reducible repeat (first | refine blk_drewN ?_ _ | refine blk_drew ?_ | refine blk_alloc ?_ _)); exact BK55010.out⟩
              have n6_ : Aside0 (((((w49.setCell ⟨gb55014, 0, none⟩ (.int .i64 t55024)).setCell ⟨gb55014, 1, none⟩ (.int .i64 t55025)).setCell ⟨gb55014, 2, none⟩ (.int .i64 t55026)).setCell ⟨gb55014, 3, none⟩ (.slice Ao55 t55027.length co55)).heap[gb55014]? = some (.cells #[.int .i64 t55024, .int .i64 t55025, .int .i64 t55026, .slice Ao55 t55027.length co55] 28 (0, 0))) := ⟨by (with_reducible repeat (first | refine blk_drewN ?_ _ | refine blk_drew ?_ | refine blk_alloc ?_ _)); refine blk_put (cs := #[.int .i64 t55024, .int .i64 t55025, .int .i64 t55026, u55015003]) ?_ 3 _ rfl; (with_reducible repeat (first | refine blk_drewN ?_ _ | refine blk_drew ?_ | refine blk_alloc ?_ _)); refine blk_put (cs := #[.int .i64 t55024, .int .i64 t55025, .int .i64 t55005, u55015003]) ?_ 2 _ rfl; (with_reducible repeat (first | refine blk_drewN ?_ _ | refine blk_drew ?_ | refine blk_alloc ?_ _)); refine blk_put (cs := #[.int .i64 t55024, .int .i64 t55004, .int .i64 t55005, u55015003]) ?_ 1 _ rfl; (with_reducible repeat (first | refine blk_drewN ?_ _ | refine blk_drew ?_ | refine blk_alloc ?_ _)); refine blk_put (cs := #[.int .i64 t55003, .int .i64 t55004, .int .i64 t55005, u55015003]) ?_ 0 _ rfl; (with_reducible repeat (first | refine blk_drewN ?_ _ | refine blk_drew ?_ | refine blk_alloc ?_ _)); exact BK55014.out⟩
              have n7_ : Aside0 (IsS100 w0 ((((w49.setCell ⟨gb55014, 0, none⟩ (.int .i64 t55024)).setCell ⟨gb55014, 1, none⟩ (.int .i64 t55025)).setCell ⟨gb55014, 2, none⟩ (.int .i64 t55026)).setCell ⟨gb55014, 3, none⟩ (.slice Ao55 t55027.length co55)) g s0_0 t55030) := ⟨by repeat (with_reducible first | exact HI0.out | refine IsS100.far ?_ NB0_55014.out _)⟩
              have n8_ : Aside0 (KeepBut w ((((w49.setCell ⟨gb55014, 0, none⟩ (.int .i64 t55024)).setCell ⟨gb55014, 1, none⟩ (.int .i64 t55025)).setCell ⟨gb55014, 2, none⟩ (.int .i64 t55026)).setCell ⟨gb55014, 3, none⟩ (.slice Ao55 t55027.length co55)) g none) := ⟨by repeat (with_reducible first | exact HK.out | refine keep_far ?_ GW55014.out _)⟩
              have n9_ : Aside0 (Below w0.heap.size w0 ((((w49.setCell ⟨gb55014, 0, none⟩ (.int .i64 t55024)).setCell ⟨gb55014, 1, none⟩ (.int .i64 t55025)).setCell ⟨gb55014, 2, none⟩ (.int .i64 t55026)).setCell ⟨gb55014, 3, none⟩ (.slice Ao55 t55027.length co55))) := ⟨by repeat (with_reducible first | exact HB.out | refine below_set ?_ GE55014.out)⟩
              (try clear HO_55011003)
              (try clear HO_55015003)
              (try clear HO55029)
              (try clear BK55001)
              (try clear BK55002)
              (try clear BK55010)
              (try clear BK55014)
              (try clear HI0)
              (try clear HK)
              (try clear HB)
              generalize ((((w49.setCell ⟨gb55014, 0, none⟩ (.int .i64 t55024)).setCell ⟨gb55014, 1, none⟩ (.int .i64 t55025)).setCell ⟨gb55014, 2, none⟩ (.int .i64 t55026)).setCell ⟨gb55014, 3, none⟩ (.slice Ao55 t55027.length co55)) = w56 at n0_ n1_ n2_ n3_ n4_ n5_ n6_ n7_ n8_ n9_ ⊢
              revert n0_ n1_ n2_ n3_ n4_ n5_ n6_ n7_ n8_ n9_; intro HO_55011003 HO_55015003 HO55029 BK55001 BK55002 BK55010 BK55014 HI0 HK HB
              have n0_ := Aside0.mk (Kd.Q_drew HO_55011003.out)
              have n1_ := Aside0.mk (Kd.Q_drew HO_55015003.out)
              have n2_ := Aside0.mk (Kd.Q_drew HO55029.out)
              have n3_ := Aside0.mk (blk_drew BK55001.out)
              have n4_ := Aside0.mk (blk_drew BK55002.out)
              have n5_ := Aside0.mk (blk_drew BK55010.out)
              have n6_ := Aside0.mk (blk_drew BK55014.out)
              have n7_ := Aside0.mk (IsS100.drew HI0.out)
              have n8_ := Aside0.mk (keep_drew HK.out)
              have n9_ := Aside0.mk (below_drew1 HB.out)
              clear HO_55011003 HO_55015003 HO55029 BK55001 BK55002 BK55010 BK55014 HI0 HK HB
              revert n0_ n1_ n2_ n3_ n4_ n5_ n6_ n7_ n8_ n9_; intro HO_55011003 HO_55015003 HO55029 BK55001 BK55002 BK55010 BK55014 HI0 HK HB
              obtain ⟨Ao61, co61, eo61, _⟩ := Kd.Q_slice HO_55011003.out
              (subst eo61)
              refine start_ (n := 4) (S := fun w' => w'.cell? ⟨gb55010, 0, none⟩ = some (.int .i64 t55003) ∧ w'.cell? ⟨gb55010, 1, none⟩ = some (.int .i64 t55004) ∧ w'.cell? ⟨gb55010, 2, none⟩ = some (.int .i64 t55005) ∧ w'.cell? ⟨gb55010, 3, none⟩ = some (.slice Ao61 x55011003_1.length co61) ∧ w'.cell? ⟨gb55014, 0, none⟩ = some (.int .i64 t55024) ∧ w'.cell? ⟨gb55014, 1, none⟩ = some (.int .i64 t55025) ∧ w'.cell? ⟨gb55014, 2, none⟩ = some (.int .i64 t55026) ∧ w'.cell? ⟨gb55014, 3, none⟩ = some (.slice Ao55 t55027.length co55)) (ds := []) #[false, false, false, false] (by kernel_rfl) rfl rfl ⟨(blk_cell BK55010.out 0).trans rfl, (blk_cell BK55010.out 1).trans rfl, (blk_cell BK55010.out 2).trans rfl, (blk_cell BK55010.out 3).trans rfl, (blk_cell BK55014.out 0).trans rfl, (blk_cell BK55014.out 1).trans rfl, (blk_cell BK55014.out 2).trans rfl, (blk_cell BK55014.out 3).trans rfl⟩ (fun hHeld => ?_)
              generalize w56.drew = w57 at HO_55011003 HO_55015003 HO55029 BK55001 BK55002 BK55010 BK55014 HI0 HK HB hHeld ⊢
              refine take_ (i := 0) (N := some 46) (v := ?_) (a' := ?_) #[true, false, false, false] rfl rfl (by kernel_rfl) (fun _ _ _ h => h) (Or.inl ⟨by rfl, ?_⟩) hHeld ?_ ?_
              rotate_left
              · rintro w' ⟨s0, s1, s2, s3, s4, s5, s6, s7⟩
                go_simp
                with_reducible rfl
              rotate_left
              · simp only [Act.put, List.setIfInBounds_toArray, List.set_cons_zero, List.set_cons_succ, i64_w, i32_w]
                rfl
              refine take_ (i := 1) (N := some 47) (v := ?_) (a' := ?_) #[true, true, false, false] rfl rfl (by kernel_rfl) (fun _ _ _ h => h) (Or.inl ⟨by rfl, ?_⟩) hHeld ?_ ?_
              rotate_left
              · rintro w' ⟨s0, s1, s2, s3, s4, s5, s6, s7⟩
                go_simp
                with_reducible rfl
              rotate_left
              · simp only [Act.put, List.setIfInBounds_toArray, List.set_cons_zero, List.set_cons_succ, i64_w, i32_w]
                rfl
              refine one_ (i := 2) (N := none) #[true, true, true, false] rfl rfl (by kernel_rfl) (by decide) (fun K hK => ?_)
              have hs58 : w57.cell? ⟨gb55001, 0, none⟩ = some (.int .i64 0) := (blk_cell BK55001.out 0).trans rfl
              have hfs58 := blk_frozen BK55001.out 0
              have hns58_1 := NB55002_55001.out
              have hns58_2 := NB55010_55001.out
              have hns58_3 := NB55014_55001.out
              have hms58_1 := NB55001_55002.out
              have hms58_2 := NB55001_55010.out
              have hms58_3 := NB55001_55014.out
              have hs59 : w57.cell? ⟨gb55001, 1, none⟩ = some (.int .i64 0) := (blk_cell BK55001.out 1).trans rfl
              have hfs59 := blk_frozen BK55001.out 1
              have hns59_1 := NB55002_55001.out
              have hns59_2 := NB55010_55001.out
              have hns59_3 := NB55014_55001.out
              have hms59_1 := NB55001_55002.out
              have hms59_2 := NB55001_55010.out
              have hms59_3 := NB55001_55014.out
              have hs60 : w57.cell? ⟨gb55001, 2, none⟩ = some (.int .i64 0) := (blk_cell BK55001.out 2).trans rfl
              have hfs60 := blk_frozen BK55001.out 2
              have hns60_1 := NB55002_55001.out
              have hns60_2 := NB55010_55001.out
              have hns60_3 := NB55014_55001.out
              have hms60_1 := NB55001_55002.out
              have hms60_2 := NB55001_55010.out
              have hms60_3 := NB55001_55014.out
              have hs62 : w57.cell? ⟨gb55001, 3, none⟩ = some (.slice none 0 0) := (blk_cell BK55001.out 3).trans rfl
              have hfs62 := blk_frozen BK55001.out 3
              have hns62_1 := NB55002_55001.out
              have hns62_2 := NB55010_55001.out
              have hns62_3 := NB55014_55001.out
              have hms62_1 := NB55001_55002.out
              have hms62_2 := NB55001_55010.out
              have hms62_3 := NB55001_55014.out
              refine skip_ (w1 := ?_) (by rfl) rfl ?_ ?_
              rotate_left
              · go_simp
                rfl
              refine hK.out _ _ ⟨((cell_far (p := ⟨gb55001, _, none⟩) NB55010_55001.out _).trans (((cell_far (p := ⟨gb55001, _, none⟩) NB55010_55001.out _).trans (((cell_far (p := ⟨gb55001, _, none⟩) NB55010_55001.out _).trans (((cell_far (p := ⟨gb55001, _, none⟩) NB55010_55001.out _).trans hHeld.1))))))), ((cell_far (p := ⟨gb55001, _, none⟩) NB55010_55001.out _).trans (((cell_far (p := ⟨gb55001, _, none⟩) NB55010_55001.out _).trans (((cell_far (p := ⟨gb55001, _, none⟩) NB55010_55001.out _).trans (((cell_far (p := ⟨gb55001, _, none⟩) NB55010_55001.out _).trans hHeld.2.1))))))), ((cell_far (p := ⟨gb55001, _, none⟩) NB55010_55001.out _).trans (((cell_far (p := ⟨gb55001, _, none⟩) NB55010_55001.out _).trans (((cell_far (p := ⟨gb55001, _, none⟩) NB55010_55001.out _).trans (((cell_far (p := ⟨gb55001, _, none⟩) NB55010_55001.out _).trans hHeld.2.2.1))))))), ((cell_far (p := ⟨gb55001, _, none⟩) NB55010_55001.out _).trans (((cell_far (p := ⟨gb55001, _, none⟩) NB55010_55001.out _).trans (((cell_far (p := ⟨gb55001, _, none⟩) NB55010_55001.out _).trans (((cell_far (p := ⟨gb55001, _, none⟩) NB55010_55001.out _).trans hHeld.2.2.2.1))))))), ((cell_far (p := ⟨gb55001, _, none⟩) NB55014_55001.out _).trans (((cell_far (p := ⟨gb55001, _, none⟩) NB55014_55001.out _).trans (((cell_far (p := ⟨gb55001, _, none⟩) NB55014_55001.out _).trans (((cell_far (p := ⟨gb55001, _, none⟩) NB55014_55001.out _).trans hHeld.2.2.2.2.1))))))), ((cell_far (p := ⟨gb55001, _, none⟩) NB55014_55001.out _).trans (((cell_far (p := ⟨gb55001, _, none⟩) NB55014_55001.out _).trans (((cell_far (p := ⟨gb55001, _, none⟩) NB55014_55001.out _).trans (((cell_far (p := ⟨gb55001, _, none⟩) NB55014_55001.out _).trans hHeld.2.2.2.2.2.1))))))), ((cell_far (p := ⟨gb55001, _, none⟩) NB55014_55001.out _).trans (((cell_far (p := ⟨gb55001, _, none⟩) NB55014_55001.out _).trans (((cell_far (p := ⟨gb55001, _, none⟩) NB55014_55001.out _).trans (((cell_far (p := ⟨gb55001, _, none⟩) NB55014_55001.out _).trans hHeld.2.2.2.2.2.2.1))))))), ((cell_far (p := ⟨gb55001, _, none⟩) NB55014_55001.out _).trans (((cell_far (p := ⟨gb55001, _, none⟩) NB55014_55001.out _).trans (((cell_far (p := ⟨gb55001, _, none⟩) NB55014_55001.out _).trans (((cell_far (p := ⟨gb55001, _, none⟩) NB55014_55001.out _).trans hHeld.2.2.2.2.2.2.2)))))))⟩ (fun hHeld => ?_)
              clear hK K
              refine one_ (i := 3) (N := none) #[true, true, true, true] rfl rfl (by kernel_rfl) (by decide) (fun K hK => ?_)
              have hs63 : w57.cell? ⟨gb55002, 0, none⟩ = some (.int .i64 0) := (blk_cell BK55002.out 0).trans rfl
              have hfs63 := blk_frozen BK55002.out 0
              have hns63_0 := NB55001_55002.out
              have hns63_2 := NB55010_55002.out
              have hns63_3 := NB55014_55002.out
              have hms63_0 := NB55002_55001.out
              have hms63_2 := NB55002_55010.out
              have hms63_3 := NB55002_55014.out
              have hs64 : w57.cell? ⟨gb55002, 1, none⟩ = some (.int .i64 0) := (blk_cell BK55002.out 1).trans rfl
              have hfs64 := blk_frozen BK55002.out 1
              have hns64_0 := NB55001_55002.out
              have hns64_2 := NB55010_55002.out
              have hns64_3 := NB55014_55002.out
              have hms64_0 := NB55002_55001.out
              have hms64_2 := NB55002_55010.out
              have hms64_3 := NB55002_55014.out
              have hs65 : w57.cell? ⟨gb55002, 2, none⟩ = some (.int .i64 0) := (blk_cell BK55002.out 2).trans rfl
              have hfs65 := blk_frozen BK55002.out 2
              have hns65_0 := NB55001_55002.out
              have hns65_2 := NB55010_55002.out
              have hns65_3 := NB55014_55002.out
              have hms65_0 := NB55002_55001.out
              have hms65_2 := NB55002_55010.out
              have hms65_3 := NB55002_55014.out
              have hs66 : w57.cell? ⟨gb55002, 3, none⟩ = some (.slice none 0 0) := (blk_cell BK55002.out 3).trans rfl
              have hfs66 := blk_frozen BK55002.out 3
              have hns66_0 := NB55001_55002.out
              have hns66_2 := NB55010_55002.out
              have hns66_3 := NB55014_55002.out
              have hms66_0 := NB55002_55001.out
              have hms66_2 := NB55002_55010.out
              have hms66_3 := NB55002_55014.out
              refine skip_ (w1 := ?_) (by rfl) rfl ?_ ?_
              rotate_left
              · go_simp
                rfl
              refine hK.out _ _ ⟨((cell_far (p := ⟨gb55002, _, none⟩) NB55010_55002.out _).trans (((cell_far (p := ⟨gb55002, _, none⟩) NB55010_55002.out _).trans (((cell_far (p := ⟨gb55002, _, none⟩) NB55010_55002.out _).trans (((cell_far (p := ⟨gb55002, _, none⟩) NB55010_55002.out _).trans hHeld.1))))))), ((cell_far (p := ⟨gb55002, _, none⟩) NB55010_55002.out _).trans (((cell_far (p := ⟨gb55002, _, none⟩) NB55010_55002.out _).trans (((cell_far (p := ⟨gb55002, _, none⟩) NB55010_55002.out _).trans (((cell_far (p := ⟨gb55002, _, none⟩) NB55010_55002.out _).trans hHeld.2.1))))))), ((cell_far (p := ⟨gb55002, _, none⟩) NB55010_55002.out _).trans (((cell_far (p := ⟨gb55002, _, none⟩) NB55010_55002.out _).trans (((cell_far (p := ⟨gb55002, _, none⟩) NB55010_55002.out _).trans (((cell_far (p := ⟨gb55002, _, none⟩) NB55010_55002.out _).trans hHeld.2.2.1))))))), ((cell_far (p := ⟨gb55002, _, none⟩) NB55010_55002.out _).trans (((cell_far (p := ⟨gb55002, _, none⟩) NB55010_55002.out _).trans (((cell_far (p := ⟨gb55002, _, none⟩) NB55010_55002.out _).trans (((cell_far (p := ⟨gb55002, _, none⟩) NB55010_55002.out _).trans hHeld.2.2.2.1))))))), ((cell_far (p := ⟨gb55002, _, none⟩) NB55014_55002.out _).trans (((cell_far (p := ⟨gb55002, _, none⟩) NB55014_55002.out _).trans (((cell_far (p := ⟨gb55002, _, none⟩) NB55014_55002.out _).trans (((cell_far (p := ⟨gb55002, _, none⟩) NB55014_55002.out _).trans hHeld.2.2.2.2.1))))))), ((cell_far (p := ⟨gb55002, _, none⟩) NB55014_55002.out _).trans (((cell_far (p := ⟨gb55002, _, none⟩) NB55014_55002.out _).trans (((cell_far (p := ⟨gb55002, _, none⟩) NB55014_55002.out _).trans (((cell_far (p := ⟨gb55002, _, none⟩) NB55014_55002.out _).trans hHeld.2.2.2.2.2.1))))))), ((cell_far (p := ⟨gb55002, _, none⟩) NB55014_55002.out _).trans (((cell_far (p := ⟨gb55002, _, none⟩) NB55014_55002.out _).trans (((cell_far (p := ⟨gb55002, _, none⟩) NB55014_55002.out _).trans (((cell_far (p := ⟨gb55002, _, none⟩) NB55014_55002.out _).trans hHeld.2.2.2.2.2.2.1))))))), ((cell_far (p := ⟨gb55002, _, none⟩) NB55014_55002.out _).trans (((cell_far (p := ⟨gb55002, _, none⟩) NB55014_55002.out _).trans (((cell_far (p := ⟨gb55002, _, none⟩) NB55014_55002.out _).trans (((cell_far (p := ⟨gb55002, _, none⟩) NB55014_55002.out _).trans hHeld.2.2.2.2.2.2.2)))))))⟩ (fun hHeld => ?_)
              clear hK K
              refine done_ (by kernel_rfl) ?_
              try go_wp2
              refine bodyPost_ret (results_cc rfl _ _ gb55001 gb55002 28 28 #[.int .i64 t55003, .int .i64 t55004, .int .i64 t55005, .slice Ao61 x55011003_1.length co61] #[.int .i64 t55024, .int .i64 t55025, .int .i64 t55026, .slice Ao55 t55027.length co55] (0, 0) (0, 0) _ _ rfl (by refine blk_far ?_ NB55001_55002.out _; (with_reducible repeat (first | refine blk_drewN ?_ _ | refine blk_drew ?_ | refine blk_alloc ?_ _)); refine blk_far ?_ NB55001_55002.out _; (with_reducible repeat (first | refine blk_drewN ?_ _ | refine blk_drew ?_ | refine blk_alloc ?_ _)); refine blk_far ?_ NB55001_55002.out _; (with_reducible repeat (first | refine blk_drewN ?_ _ | refine blk_drew ?_ | refine blk_alloc ?_ _)); refine blk_far ?_ NB55001_55002.out _; (with_reducible repeat (first | refine blk_drewN ?_ _ | refine blk_drew ?_ | refine blk_alloc ?_ _)); refine blk_put (cs := #[.int .i64 t55003, .int .i64 t55004, .int .i64 t55005, .slice none 0 0]) ?_ 3 _ rfl; (with_reducible repeat (first | refine blk_drewN ?_ _ | refine blk_drew ?_ | refine blk_alloc ?_ _)); refine blk_put (cs := #[.int .i64 t55003, .int .i64 t55004, .int .i64 0, .slice none 0 0]) ?_ 2 _ rfl; (with_reducible repeat (first | refine blk_drewN ?_ _ | refine blk_drew ?_ | refine blk_alloc ?_ _)); refine blk_put (cs := #[.int .i64 t55003, .int .i64 0, .int .i64 0, .slice none 0 0]) ?_ 1 _ rfl; (with_reducible repeat (first | refine blk_drewN ?_ _ | refine blk_drew ?_ | refine blk_alloc ?_ _)); refine blk_put (cs := #[.int .i64 0, .int .i64 0, .int .i64 0, .slice none 0 0]) ?_ 0 _ rfl; (with_reducible repeat (first | refine blk_drewN ?_ _ | refine blk_drew ?_ | refine blk_alloc ?_ _)); exact BK55001.out) Try.underlying28 rfl (by kernel_rfl) rfl (by refine blk_put (cs := #[.int .i64 t55024, .int .i64 t55025, .int .i64 t55026, .slice none 0 0]) ?_ 3 _ rfl; (with_reducible repeat (first | refine blk_drewN ?_ _ | refine blk_drew ?_ | refine blk_alloc ?_ _)); refine blk_put (cs := #[.int .i64 t55024, .int .i64 t55025, .int .i64 0, .slice none 0 0]) ?_ 2 _ rfl; (with_reducible repeat (first | refine blk_drewN ?_ _ | refine blk_drew ?_ | refine blk_alloc ?_ _)); refine blk_put (cs := #[.int .i64 t55024, .int .i64 0, .int .i64 0, .slice none 0 0]) ?_ 1 _ rfl; (with_reducible repeat (first | refine blk_drewN ?_ _ | refine blk_drew ?_ | refine blk_alloc ?_ _)); refine blk_put (cs := #[.int .i64 0, .int .i64 0, .int .i64 0, .slice none 0 0]) ?_ 0 _ rfl; (with_reducible repeat (first | refine blk_drewN ?_ _ | refine blk_drew ?_ | refine blk_alloc ?_ _)); refine blk_far ?_ NB55002_55001.out _; (with_reducible repeat (first | refine blk_drewN ?_ _ | refine blk_drew ?_ | refine blk_alloc ?_ _)); refine blk_far ?_ NB55002_55001.out _; (with_reducible repeat (first | refine blk_drewN ?_ _ | refine blk_drew ?_ | refine blk_alloc ?_ _)); refine blk_far ?_ NB55002_55001.out _; (with_reducible repeat (first | refine blk_drewN ?_ _ | refine blk_drew ?_ | refine blk_alloc ?_ _)); refine blk_far ?_ NB55002_55001.out _; (with_reducible repeat (first | refine blk_drewN ?_ _ | refine blk_drew ?_ | refine blk_alloc ?_ _)); exact BK55002.out) Try.underlying28 rfl (by kernel_rfl)) rfl ?_
              exact ⟨_, _, by rfl, by (with_reducible repeat (first | apply Kd.Q_alloc | apply Kd.Q_drewN | apply Kd.Q_drew)); exact Kd.Q_mono (Kd.Q_far (p := ⟨gb55002, 3, none⟩) (Kd.Q_far (p := ⟨gb55002, 2, none⟩) (Kd.Q_far (p := ⟨gb55002, 1, none⟩) (Kd.Q_far (p := ⟨gb55002, 0, none⟩) (Kd.Q_far (p := ⟨gb55001, 3, none⟩) (Kd.Q_far (p := ⟨gb55001, 2, none⟩) (Kd.Q_far (p := ⟨gb55001, 1, none⟩) (Kd.Q_far (p := ⟨gb55001, 0, none⟩) (Kd.Q_types (Kd.Q_types HO_55011003.out BK55001.out (by decide)) BK55002.out (by decide)) (fun _ hk => hk.1.2) (.int .i64 t55003)) (fun _ hk => hk.1.2) (.int .i64 t55004)) (fun _ hk => hk.1.2) (.int .i64 t55005)) (fun _ hk => hk.1.2) (.slice Ao61 x55011003_1.length co61)) (fun _ hk => hk.2) (.int .i64 t55024)) (fun _ hk => hk.2) (.int .i64 t55025)) (fun _ hk => hk.2) (.int .i64 t55026)) (fun _ hk => hk.2) (.slice Ao55 t55027.length co55)) (fun _ hk => hk.1.1.2), by (with_reducible repeat (first | apply Kd.Q_alloc | apply Kd.Q_drewN | apply Kd.Q_drew)); exact Kd.Q_mono (Kd.Q_far (p := ⟨gb55002, 3, none⟩) (Kd.Q_far (p := ⟨gb55002, 2, none⟩) (Kd.Q_far (p := ⟨gb55002, 1, none⟩) (Kd.Q_far (p := ⟨gb55002, 0, none⟩) (Kd.Q_far (p := ⟨gb55001, 3, none⟩) (Kd.Q_far (p := ⟨gb55001, 2, none⟩) (Kd.Q_far (p := ⟨gb55001, 1, none⟩) (Kd.Q_far (p := ⟨gb55001, 0, none⟩) (Kd.Q_types (Kd.Q_types HO55029.out BK55001.out (by decide)) BK55002.out (by decide)) (fun _ hk => hk.1.2) (.int .i64 t55003)) (fun _ hk => hk.1.2) (.int .i64 t55004)) (fun _ hk => hk.1.2) (.int .i64 t55005)) (fun _ hk => hk.1.2) (.slice Ao61 x55011003_1.length co61)) (fun _ hk => hk.2) (.int .i64 t55024)) (fun _ hk => hk.2) (.int .i64 t55025)) (fun _ hk => hk.2) (.int .i64 t55026)) (fun _ hk => hk.2) (.slice Ao55 t55027.length co55)) (fun _ hk => hk.1.1.1), by repeat (with_reducible first | exact HI0.out | refine IsS100.far ?_ NB0_55001.out _ | refine IsS100.far ?_ NB0_55002.out _), by repeat (with_reducible first | exact HB.out | refine below_set ?_ GE55001.out | refine below_set ?_ GE55002.out), by repeat (with_reducible first | exact HK.out | refine keep_far ?_ GW55001.out _ | refine keep_far ?_ GW55002.out _)⟩
            · rw [if_neg c46] at H
              have c46b0 : (t55022 == 0) = false := beq_eq_false_iff_ne.mpr c46
              have c46b1 : (t55022 != 0) = true := bne_iff_ne.mpr c46
              simp only [Option.some.injEq, Prod.mk.injEq] at H
              obtain ⟨rfl, rfl, rfl, rfl, rfl, rfl, rfl, rfl, rfl⟩ := H
              try go_wp2_with (first | ((with_reducible refine gate_callee (f := 82) rfl ?_); refine goesL_ (some 42) rfl rfl Try.func82 (by kernel_rfl) rfl #[.pointer (some ⟨g, 0, none⟩), .int .i64 16] rfl (by (try simp only [List.map_toArray, List.map_cons, List.map_nil]); rfl) ?_; (with_reducible refine (spec_reader_pick.calls kj25 g s0_0 x1001_1 16 t55022 t55023 w0 _ ?side1 ?side2 A45.out).mono ?_); (case side1 => repeat (with_reducible exact HI0.out)); (case side2 => repeat (with_reducible exact HB.out)); rintro e w67 ⟨rfl, hi, hb, hk⟩; refine ⟨_, rfl, ?_⟩; have n0_ := Aside0.mk (Kd.Q_mono (Kd.Q_keep (IsS100.apartQ (show IsS100 w0 _ g s0_0 x1001_1 from by exact HI0.out) HO_55011003.out (by decide)) hk (fun _ h => h.2)) (fun _ h => h.1)); have n1_ := Aside0.mk (Kd.Q_mono (Kd.Q_keep (IsS100.apartQ (show IsS100 w0 _ g s0_0 x1001_1 from by exact HI0.out) HO_55015003.out (by decide)) hk (fun _ h => h.2)) (fun _ h => h.1)); have n2_ := Aside0.mk (KeepBut.blk hk (g' := gb55001) (o := .cells #[.int .i64 0, .int .i64 0, .int .i64 0, .slice none 0 0] 28 (0, 0)) BK55001.out NB55001_0.out (by simp)); have n3_ := Aside0.mk (KeepBut.blk hk (g' := gb55002) (o := .cells #[.int .i64 0, .int .i64 0, .int .i64 0, .slice none 0 0] 28 (0, 0)) BK55002.out NB55002_0.out (by simp)); have n4_ := Aside0.mk (KeepBut.blk hk (g' := gb55010) (o := .cells #[.int .i64 t55003, .int .i64 t55004, .int .i64 t55005, u55011003] 28 (0, 0)) BK55010.out NB55010_0.out (by simp)); have n5_ := Aside0.mk (KeepBut.blk hk (g' := gb55014) (o := .cells #[.int .i64 t55003, .int .i64 t55004, .int .i64 t55005, u55015003] 28 (0, 0)) BK55014.out NB55014_0.out (by simp)); have n6_ := Aside0.mk (KeepBut.trans HK.out hk (.inl rfl)); have n7_ := Aside0.mk (hb); have n8_ := Aside0.mk (hi); clear HO_55011003; clear HO_55015003; clear BK55001; clear BK55002; clear BK55010; clear BK55014; clear HK; clear HB; clear HI0; have HO_55011003 := n0_; have HO_55015003 := n1_; have BK55001 := n2_; have BK55002 := n3_; have BK55010 := n4_; have BK55014 := n5_; have HK := n6_; have HB := n7_; have HI0 := n8_; clear n0_ n1_ n2_ n3_ n4_ n5_ n6_ n7_ n8_; (try clear hb); (try clear hk); (try clear hi)))
              have n0_ := Aside0.mk (Kd.Q_drew HO_55011003.out)
              have n1_ := Aside0.mk (Kd.Q_drew HO_55015003.out)
              have n2_ := Aside0.mk (blk_drew BK55001.out)
              have n3_ := Aside0.mk (blk_drew BK55002.out)
              have n4_ := Aside0.mk (blk_drew BK55010.out)
              have n5_ := Aside0.mk (blk_drew BK55014.out)
              have n6_ := Aside0.mk (IsS100.drew HI0.out)
              have n7_ := Aside0.mk (keep_drew HK.out)
              have n8_ := Aside0.mk (below_drew1 HB.out)
              clear HO_55011003 HO_55015003 BK55001 BK55002 BK55010 BK55014 HI0 HK HB
              revert n0_ n1_ n2_ n3_ n4_ n5_ n6_ n7_ n8_; intro HO_55011003 HO_55015003 BK55001 BK55002 BK55010 BK55014 HI0 HK HB
              obtain ⟨Ao72, co72, eo72, _⟩ := Kd.Q_slice HO_55011003.out
              (subst eo72)
              obtain ⟨Ao77, co77, eo77, _⟩ := Kd.Q_slice HO_55015003.out
              (subst eo77)
              refine start_ (n := 4) (S := fun w' => w'.cell? ⟨gb55010, 0, none⟩ = some (.int .i64 t55003) ∧ w'.cell? ⟨gb55010, 1, none⟩ = some (.int .i64 t55004) ∧ w'.cell? ⟨gb55010, 2, none⟩ = some (.int .i64 t55005) ∧ w'.cell? ⟨gb55010, 3, none⟩ = some (.slice Ao72 x55011003_1.length co72) ∧ w'.cell? ⟨gb55014, 0, none⟩ = some (.int .i64 t55003) ∧ w'.cell? ⟨gb55014, 1, none⟩ = some (.int .i64 t55004) ∧ w'.cell? ⟨gb55014, 2, none⟩ = some (.int .i64 t55005) ∧ w'.cell? ⟨gb55014, 3, none⟩ = some (.slice Ao77 x55015003_1.length co77)) (ds := []) #[false, false, false, false] (by kernel_rfl) rfl rfl ⟨(blk_cell BK55010.out 0).trans rfl, (blk_cell BK55010.out 1).trans rfl, (blk_cell BK55010.out 2).trans rfl, (blk_cell BK55010.out 3).trans rfl, (blk_cell BK55014.out 0).trans rfl, (blk_cell BK55014.out 1).trans rfl, (blk_cell BK55014.out 2).trans rfl, (blk_cell BK55014.out 3).trans rfl⟩ (fun hHeld => ?_)
              generalize w67.drew = w68 at HO_55011003 HO_55015003 BK55001 BK55002 BK55010 BK55014 HI0 HK HB hHeld ⊢
              refine take_ (i := 0) (N := some 46) (v := ?_) (a' := ?_) #[true, false, false, false] rfl rfl (by kernel_rfl) (fun _ _ _ h => h) (Or.inl ⟨by rfl, ?_⟩) hHeld ?_ ?_
              rotate_left
              · rintro w' ⟨s0, s1, s2, s3, s4, s5, s6, s7⟩
                go_simp
                with_reducible rfl
              rotate_left
              · simp only [Act.put, List.setIfInBounds_toArray, List.set_cons_zero, List.set_cons_succ, i64_w, i32_w]
                rfl
              refine take_ (i := 1) (N := some 47) (v := ?_) (a' := ?_) #[true, true, false, false] rfl rfl (by kernel_rfl) (fun _ _ _ h => h) (Or.inl ⟨by rfl, ?_⟩) hHeld ?_ ?_
              rotate_left
              · rintro w' ⟨s0, s1, s2, s3, s4, s5, s6, s7⟩
                go_simp
                with_reducible rfl
              rotate_left
              · simp only [Act.put, List.setIfInBounds_toArray, List.set_cons_zero, List.set_cons_succ, i64_w, i32_w]
                rfl
              refine one_ (i := 2) (N := none) #[true, true, true, false] rfl rfl (by kernel_rfl) (by decide) (fun K hK => ?_)
              have hs69 : w68.cell? ⟨gb55001, 0, none⟩ = some (.int .i64 0) := (blk_cell BK55001.out 0).trans rfl
              have hfs69 := blk_frozen BK55001.out 0
              have hns69_1 := NB55002_55001.out
              have hns69_2 := NB55010_55001.out
              have hns69_3 := NB55014_55001.out
              have hms69_1 := NB55001_55002.out
              have hms69_2 := NB55001_55010.out
              have hms69_3 := NB55001_55014.out
              have hs70 : w68.cell? ⟨gb55001, 1, none⟩ = some (.int .i64 0) := (blk_cell BK55001.out 1).trans rfl
              have hfs70 := blk_frozen BK55001.out 1
              have hns70_1 := NB55002_55001.out
              have hns70_2 := NB55010_55001.out
              have hns70_3 := NB55014_55001.out
              have hms70_1 := NB55001_55002.out
              have hms70_2 := NB55001_55010.out
              have hms70_3 := NB55001_55014.out
              have hs71 : w68.cell? ⟨gb55001, 2, none⟩ = some (.int .i64 0) := (blk_cell BK55001.out 2).trans rfl
              have hfs71 := blk_frozen BK55001.out 2
              have hns71_1 := NB55002_55001.out
              have hns71_2 := NB55010_55001.out
              have hns71_3 := NB55014_55001.out
              have hms71_1 := NB55001_55002.out
              have hms71_2 := NB55001_55010.out
              have hms71_3 := NB55001_55014.out
              have hs73 : w68.cell? ⟨gb55001, 3, none⟩ = some (.slice none 0 0) := (blk_cell BK55001.out 3).trans rfl
              have hfs73 := blk_frozen BK55001.out 3
              have hns73_1 := NB55002_55001.out
              have hns73_2 := NB55010_55001.out
              have hns73_3 := NB55014_55001.out
              have hms73_1 := NB55001_55002.out
              have hms73_2 := NB55001_55010.out
              have hms73_3 := NB55001_55014.out
              refine skip_ (w1 := ?_) (by rfl) rfl ?_ ?_
              rotate_left
              · go_simp
                rfl
              refine hK.out _ _ ⟨((cell_far (p := ⟨gb55001, _, none⟩) NB55010_55001.out _).trans (((cell_far (p := ⟨gb55001, _, none⟩) NB55010_55001.out _).trans (((cell_far (p := ⟨gb55001, _, none⟩) NB55010_55001.out _).trans (((cell_far (p := ⟨gb55001, _, none⟩) NB55010_55001.out _).trans hHeld.1))))))), ((cell_far (p := ⟨gb55001, _, none⟩) NB55010_55001.out _).trans (((cell_far (p := ⟨gb55001, _, none⟩) NB55010_55001.out _).trans (((cell_far (p := ⟨gb55001, _, none⟩) NB55010_55001.out _).trans (((cell_far (p := ⟨gb55001, _, none⟩) NB55010_55001.out _).trans hHeld.2.1))))))), ((cell_far (p := ⟨gb55001, _, none⟩) NB55010_55001.out _).trans (((cell_far (p := ⟨gb55001, _, none⟩) NB55010_55001.out _).trans (((cell_far (p := ⟨gb55001, _, none⟩) NB55010_55001.out _).trans (((cell_far (p := ⟨gb55001, _, none⟩) NB55010_55001.out _).trans hHeld.2.2.1))))))), ((cell_far (p := ⟨gb55001, _, none⟩) NB55010_55001.out _).trans (((cell_far (p := ⟨gb55001, _, none⟩) NB55010_55001.out _).trans (((cell_far (p := ⟨gb55001, _, none⟩) NB55010_55001.out _).trans (((cell_far (p := ⟨gb55001, _, none⟩) NB55010_55001.out _).trans hHeld.2.2.2.1))))))), ((cell_far (p := ⟨gb55001, _, none⟩) NB55014_55001.out _).trans (((cell_far (p := ⟨gb55001, _, none⟩) NB55014_55001.out _).trans (((cell_far (p := ⟨gb55001, _, none⟩) NB55014_55001.out _).trans (((cell_far (p := ⟨gb55001, _, none⟩) NB55014_55001.out _).trans hHeld.2.2.2.2.1))))))), ((cell_far (p := ⟨gb55001, _, none⟩) NB55014_55001.out _).trans (((cell_far (p := ⟨gb55001, _, none⟩) NB55014_55001.out _).trans (((cell_far (p := ⟨gb55001, _, none⟩) NB55014_55001.out _).trans (((cell_far (p := ⟨gb55001, _, none⟩) NB55014_55001.out _).trans hHeld.2.2.2.2.2.1))))))), ((cell_far (p := ⟨gb55001, _, none⟩) NB55014_55001.out _).trans (((cell_far (p := ⟨gb55001, _, none⟩) NB55014_55001.out _).trans (((cell_far (p := ⟨gb55001, _, none⟩) NB55014_55001.out _).trans (((cell_far (p := ⟨gb55001, _, none⟩) NB55014_55001.out _).trans hHeld.2.2.2.2.2.2.1))))))), ((cell_far (p := ⟨gb55001, _, none⟩) NB55014_55001.out _).trans (((cell_far (p := ⟨gb55001, _, none⟩) NB55014_55001.out _).trans (((cell_far (p := ⟨gb55001, _, none⟩) NB55014_55001.out _).trans (((cell_far (p := ⟨gb55001, _, none⟩) NB55014_55001.out _).trans hHeld.2.2.2.2.2.2.2)))))))⟩ (fun hHeld => ?_)
              clear hK K
              refine one_ (i := 3) (N := none) #[true, true, true, true] rfl rfl (by kernel_rfl) (by decide) (fun K hK => ?_)
              have hs74 : w68.cell? ⟨gb55002, 0, none⟩ = some (.int .i64 0) := (blk_cell BK55002.out 0).trans rfl
              have hfs74 := blk_frozen BK55002.out 0
              have hns74_0 := NB55001_55002.out
              have hns74_2 := NB55010_55002.out
              have hns74_3 := NB55014_55002.out
              have hms74_0 := NB55002_55001.out
              have hms74_2 := NB55002_55010.out
              have hms74_3 := NB55002_55014.out
              have hs75 : w68.cell? ⟨gb55002, 1, none⟩ = some (.int .i64 0) := (blk_cell BK55002.out 1).trans rfl
              have hfs75 := blk_frozen BK55002.out 1
              have hns75_0 := NB55001_55002.out
              have hns75_2 := NB55010_55002.out
              have hns75_3 := NB55014_55002.out
              have hms75_0 := NB55002_55001.out
              have hms75_2 := NB55002_55010.out
              have hms75_3 := NB55002_55014.out
              have hs76 : w68.cell? ⟨gb55002, 2, none⟩ = some (.int .i64 0) := (blk_cell BK55002.out 2).trans rfl
              have hfs76 := blk_frozen BK55002.out 2
              have hns76_0 := NB55001_55002.out
              have hns76_2 := NB55010_55002.out
              have hns76_3 := NB55014_55002.out
              have hms76_0 := NB55002_55001.out
              have hms76_2 := NB55002_55010.out
              have hms76_3 := NB55002_55014.out
              have hs78 : w68.cell? ⟨gb55002, 3, none⟩ = some (.slice none 0 0) := (blk_cell BK55002.out 3).trans rfl
              have hfs78 := blk_frozen BK55002.out 3
              have hns78_0 := NB55001_55002.out
              have hns78_2 := NB55010_55002.out
              have hns78_3 := NB55014_55002.out
              have hms78_0 := NB55002_55001.out
              have hms78_2 := NB55002_55010.out
              have hms78_3 := NB55002_55014.out
              refine skip_ (w1 := ?_) (by rfl) rfl ?_ ?_
              rotate_left
              · go_simp
                rfl
              refine hK.out _ _ ⟨((cell_far (p := ⟨gb55002, _, none⟩) NB55010_55002.out _).trans (((cell_far (p := ⟨gb55002, _, none⟩) NB55010_55002.out _).trans (((cell_far (p := ⟨gb55002, _, none⟩) NB55010_55002.out _).trans (((cell_far (p := ⟨gb55002, _, none⟩) NB55010_55002.out _).trans hHeld.1))))))), ((cell_far (p := ⟨gb55002, _, none⟩) NB55010_55002.out _).trans (((cell_far (p := ⟨gb55002, _, none⟩) NB55010_55002.out _).trans (((cell_far (p := ⟨gb55002, _, none⟩) NB55010_55002.out _).trans (((cell_far (p := ⟨gb55002, _, none⟩) NB55010_55002.out _).trans hHeld.2.1))))))), ((cell_far (p := ⟨gb55002, _, none⟩) NB55010_55002.out _).trans (((cell_far (p := ⟨gb55002, _, none⟩) NB55010_55002.out _).trans (((cell_far (p := ⟨gb55002, _, none⟩) NB55010_55002.out _).trans (((cell_far (p := ⟨gb55002, _, none⟩) NB55010_55002.out _).trans hHeld.2.2.1))))))), ((cell_far (p := ⟨gb55002, _, none⟩) NB55010_55002.out _).trans (((cell_far (p := ⟨gb55002, _, none⟩) NB55010_55002.out _).trans (((cell_far (p := ⟨gb55002, _, none⟩) NB55010_55002.out _).trans (((cell_far (p := ⟨gb55002, _, none⟩) NB55010_55002.out _).trans hHeld.2.2.2.1))))))), ((cell_far (p := ⟨gb55002, _, none⟩) NB55014_55002.out _).trans (((cell_far (p := ⟨gb55002, _, none⟩) NB55014_55002.out _).trans (((cell_far (p := ⟨gb55002, _, none⟩) NB55014_55002.out _).trans (((cell_far (p := ⟨gb55002, _, none⟩) NB55014_55002.out _).trans hHeld.2.2.2.2.1))))))), ((cell_far (p := ⟨gb55002, _, none⟩) NB55014_55002.out _).trans (((cell_far (p := ⟨gb55002, _, none⟩) NB55014_55002.out _).trans (((cell_far (p := ⟨gb55002, _, none⟩) NB55014_55002.out _).trans (((cell_far (p := ⟨gb55002, _, none⟩) NB55014_55002.out _).trans hHeld.2.2.2.2.2.1))))))), ((cell_far (p := ⟨gb55002, _, none⟩) NB55014_55002.out _).trans (((cell_far (p := ⟨gb55002, _, none⟩) NB55014_55002.out _).trans (((cell_far (p := ⟨gb55002, _, none⟩) NB55014_55002.out _).trans (((cell_far (p := ⟨gb55002, _, none⟩) NB55014_55002.out _).trans hHeld.2.2.2.2.2.2.1))))))), ((cell_far (p := ⟨gb55002, _, none⟩) NB55014_55002.out _).trans (((cell_far (p := ⟨gb55002, _, none⟩) NB55014_55002.out _).trans (((cell_far (p := ⟨gb55002, _, none⟩) NB55014_55002.out _).trans (((cell_far (p := ⟨gb55002, _, none⟩) NB55014_55002.out _).trans hHeld.2.2.2.2.2.2.2)))))))⟩ (fun hHeld => ?_)
              clear hK K
              refine done_ (by kernel_rfl) ?_
              try go_wp2
              refine bodyPost_ret (results_cc rfl _ _ gb55001 gb55002 28 28 #[.int .i64 t55003, .int .i64 t55004, .int .i64 t55005, .slice Ao72 x55011003_1.length co72] #[.int .i64 t55003, .int .i64 t55004, .int .i64 t55005, .slice Ao77 x55015003_1.length co77] (0, 0) (0, 0) _ _ rfl (by refine blk_far ?_ NB55001_55002.out _; (with_reducible repeat (first | refine blk_drewN ?_ _ | refine blk_drew ?_ | refine blk_alloc ?_ _)); refine blk_far ?_ NB55001_55002.out _; (with_reducible repeat (first | refine blk_drewN ?_ _ | refine blk_drew ?_ | refine blk_alloc ?_ _)); refine blk_far ?_ NB55001_55002.out _; (with_reducible repeat (first | refine blk_drewN ?_ _ | refine blk_drew ?_ | refine blk_alloc ?_ _)); refine blk_far ?_ NB55001_55002.out _; (with_reducible repeat (first | refine blk_drewN ?_ _ | refine blk_drew ?_ | refine blk_alloc ?_ _)); refine blk_put (cs := #[.int .i64 t55003, .int .i64 t55004, .int .i64 t55005, .slice none 0 0]) ?_ 3 _ rfl; (with_reducible repeat (first | refine blk_drewN ?_ _ | refine blk_drew ?_ | refine blk_alloc ?_ _)); refine blk_put (cs := #[.int .i64 t55003, .int .i64 t55004, .int .i64 0, .slice none 0 0]) ?_ 2 _ rfl; (with_reducible repeat (first | refine blk_drewN ?_ _ | refine blk_drew ?_ | refine blk_alloc ?_ _)); refine blk_put (cs := #[.int .i64 t55003, .int .i64 0, .int .i64 0, .slice none 0 0]) ?_ 1 _ rfl; (with_reducible repeat (first | refine blk_drewN ?_ _ | refine blk_drew ?_ | refine blk_alloc ?_ _)); refine blk_put (cs := #[.int .i64 0, .int .i64 0, .int .i64 0, .slice none 0 0]) ?_ 0 _ rfl; (with_reducible repeat (first | refine blk_drewN ?_ _ | refine blk_drew ?_ | refine blk_alloc ?_ _)); exact BK55001.out) Try.underlying28 rfl (by kernel_rfl) rfl (by refine blk_put (cs := #[.int .i64 t55003, .int .i64 t55004, .int .i64 t55005, .slice none 0 0]) ?_ 3 _ rfl; (with_reducible repeat (first | refine blk_drewN ?_ _ | refine blk_drew ?_ | refine blk_alloc ?_ _)); refine blk_put (cs := #[.int .i64 t55003, .int .i64 t55004, .int .i64 0, .slice none 0 0]) ?_ 2 _ rfl; (with_reducible repeat (first | refine blk_drewN ?_ _ | refine blk_drew ?_ | refine blk_alloc ?_ _)); refine blk_put (cs := #[.int .i64 t55003, .int .i64 0, .int .i64 0, .slice none 0 0]) ?_ 1 _ rfl; (with_reducible repeat (first | refine blk_drewN ?_ _ | refine blk_drew ?_ | refine blk_alloc ?_ _)); refine blk_put (cs := #[.int .i64 0, .int .i64 0, .int .i64 0, .slice none 0 0]) ?_ 0 _ rfl; (with_reducible repeat (first | refine blk_drewN ?_ _ | refine blk_drew ?_ | refine blk_alloc ?_ _)); refine blk_far ?_ NB55002_55001.out _; (with_reducible repeat (first | refine blk_drewN ?_ _ | refine blk_drew ?_ | refine blk_alloc ?_ _)); refine blk_far ?_ NB55002_55001.out _; (with_reducible repeat (first | refine blk_drewN ?_ _ | refine blk_drew ?_ | refine blk_alloc ?_ _)); refine blk_far ?_ NB55002_55001.out _; (with_reducible repeat (first | refine blk_drewN ?_ _ | refine blk_drew ?_ | refine blk_alloc ?_ _)); refine blk_far ?_ NB55002_55001.out _; (with_reducible repeat (first | refine blk_drewN ?_ _ | refine blk_drew ?_ | refine blk_alloc ?_ _)); exact BK55002.out) Try.underlying28 rfl (by kernel_rfl)) rfl ?_
              exact ⟨_, _, by rfl, by (with_reducible repeat (first | apply Kd.Q_alloc | apply Kd.Q_drewN | apply Kd.Q_drew)); exact Kd.Q_mono (Kd.Q_far (p := ⟨gb55002, 3, none⟩) (Kd.Q_far (p := ⟨gb55002, 2, none⟩) (Kd.Q_far (p := ⟨gb55002, 1, none⟩) (Kd.Q_far (p := ⟨gb55002, 0, none⟩) (Kd.Q_far (p := ⟨gb55001, 3, none⟩) (Kd.Q_far (p := ⟨gb55001, 2, none⟩) (Kd.Q_far (p := ⟨gb55001, 1, none⟩) (Kd.Q_far (p := ⟨gb55001, 0, none⟩) (Kd.Q_types (Kd.Q_types HO_55011003.out BK55001.out (by decide)) BK55002.out (by decide)) (fun _ hk => hk.1.2) (.int .i64 t55003)) (fun _ hk => hk.1.2) (.int .i64 t55004)) (fun _ hk => hk.1.2) (.int .i64 t55005)) (fun _ hk => hk.1.2) (.slice Ao72 x55011003_1.length co72)) (fun _ hk => hk.2) (.int .i64 t55003)) (fun _ hk => hk.2) (.int .i64 t55004)) (fun _ hk => hk.2) (.int .i64 t55005)) (fun _ hk => hk.2) (.slice Ao77 x55015003_1.length co77)) (fun _ hk => hk.1.1), by (with_reducible repeat (first | apply Kd.Q_alloc | apply Kd.Q_drewN | apply Kd.Q_drew)); exact Kd.Q_mono (Kd.Q_far (p := ⟨gb55002, 3, none⟩) (Kd.Q_far (p := ⟨gb55002, 2, none⟩) (Kd.Q_far (p := ⟨gb55002, 1, none⟩) (Kd.Q_far (p := ⟨gb55002, 0, none⟩) (Kd.Q_far (p := ⟨gb55001, 3, none⟩) (Kd.Q_far (p := ⟨gb55001, 2, none⟩) (Kd.Q_far (p := ⟨gb55001, 1, none⟩) (Kd.Q_far (p := ⟨gb55001, 0, none⟩) (Kd.Q_types (Kd.Q_types HO_55015003.out BK55001.out (by decide)) BK55002.out (by decide)) (fun _ hk => hk.1.2) (.int .i64 t55003)) (fun _ hk => hk.1.2) (.int .i64 t55004)) (fun _ hk => hk.1.2) (.int .i64 t55005)) (fun _ hk => hk.1.2) (.slice Ao72 x55011003_1.length co72)) (fun _ hk => hk.2) (.int .i64 t55003)) (fun _ hk => hk.2) (.int .i64 t55004)) (fun _ hk => hk.2) (.int .i64 t55005)) (fun _ hk => hk.2) (.slice Ao77 x55015003_1.length co77)) (fun _ hk => hk.1.1), by repeat (with_reducible first | exact HI0.out | refine IsS100.far ?_ NB0_55001.out _ | refine IsS100.far ?_ NB0_55002.out _), by repeat (with_reducible first | exact HB.out | refine below_set ?_ GE55001.out | refine below_set ?_ GE55002.out), by repeat (with_reducible first | exact HK.out | refine keep_far ?_ GW55001.out _ | refine keep_far ?_ GW55002.out _)⟩


def spec_newReader.f (l0 : List Int) : Option (List Int × Int) := if (l0.length : Int) > 2000 then (if 2000 ≤ (l0.length : Int) then (some (l0.take 2000, 0)) else (none)) else (some (l0, 0))
set_option maxHeartbeats 8000000 in
set_option maxRecDepth 100000 in
theorem spec_newReader.calls (A0 : Option Addr) (c0 : Nat) (l0 : List Int) (r1 : List Int) (r2 : Int) (w0 w : World) (hB : Below w0.heap.size w0 w) (hr0 : Kd.C (Kd.int .u8) w0 A0 l0.length l0) (hc0 : l0.length ≤ c0) (h : spec_newReader.f l0 = some (r1, r2)) :
    Calls Try.prog 55 #[.slice A0 l0.length c0] w fun e w' => ∃ g_ : Nat, e = .returned (.pointer (some ⟨g_, 0, none⟩)) ∧ IsS100 w0 w' g_ r1 r2 ∧ Below w0.heap.size w0 w' ∧ Below w.heap.size w w' := by
  have hu100 := Try.underlying100
  have HR0 := Aside0.mk hr0
  have HC0 := Aside0.mk hc0
  clear hr0 hc0
  have HBW := Aside0.mk (Below.refl w.heap.size w)
  have HW0 := Aside0.mk hB.size
  have HB := Aside0.mk hB
  clear hB
  have H : (if (l0.length : Int) > 2000 then (if 2000 ≤ (l0.length : Int) then (some (l0.take 2000, 0)) else (none)) else (some (l0, 0))) = some (r1, r2) := h
  clear h
  by_cases c2 : (l0.length : Int) > 2000
  · rw [if_pos c2] at H
    have c2b0 : decide (2000 < (l0.length : Int)) = true := decide_eq_true c2
    have c2b1 : decide (2000 < l0.length) = true := decide_eq_true (by omega)
    clear c2
    by_cases c3 : 2000 ≤ (l0.length : Int)
    · rw [if_pos c3] at H
      have c3b0 := eq_true c3
      have c3b1 : decide (2000 ≤ (l0.length : Int)) = true := decide_eq_true c3
      clear c3
      simp only [Option.some.injEq, Prod.mk.injEq] at H
      obtain ⟨rfl, rfl⟩ := H
      obtain ⟨i04, hi04, _, hsz4, _⟩ := info_parts info5
      obtain ⟨hcut4, hA4, hC4⟩ := print_take_of (P := Try.prog) (Value.int .u8) 0 35 5 .i64 Try.underlying35 hi04 hsz4 A0 c0 l0 2000 (by omega) (of_decide_eq_true (by first | (with_reducible assumption) | assumption)) HC0.out
      have HR56001 := Aside0.mk (Kd.C_of_reads (h1 := fun _ => rfl) (hA4 _ (Kd.reads_of_C HR0.out)))
      have HC56001 := Aside0.mk hC4
      clear hA4 hC4 hi04 hsz4
      go_enter Try.func55, Try.ntmps55
      go_wp2_with (first | ((with_reducible refine gate_dst (N := 10) rfl ?_); refine box_event ?hg (N := 10) ?hd (cs := #[.slice A0 (l0.take 2000).length c0, .int .i64 0]) (t := 100) ?hr ?_; (case hd => rfl); (case hg => rfl); (case hr => first | (go_simp; done) | (go_simp; rfl)); intro gb56002 hg w5 hbox hb; have n0_ := Aside0.mk (below_step HBW.out hb); have n1_ := Aside0.mk (below_step (by repeat (first | (with_reducible first | exact HB.out | apply below_alloc | apply pw_below_drewN | apply below_drew1) | exact HB.out)) hb); have n2_ := Aside0.mk (hbox); have n3_ := Aside0.mk ((by rw [hg]; exact (below_size (by repeat (first | (with_reducible first | exact HBW.out | apply below_alloc | apply pw_below_drewN | apply below_drew1) | exact HBW.out))) : w.heap.size ≤ gb56002)); have n4_ := Aside0.mk ((Nat.le_trans HW0.out (by rw [hg]; exact (below_size (by repeat (first | (with_reducible first | exact HBW.out | apply below_alloc | apply pw_below_drewN | apply below_drew1) | exact HBW.out))) : w.heap.size ≤ gb56002) : w0.heap.size ≤ gb56002)); clear HBW; clear HB; have HBW := n0_; have HB := n1_; have BK56002 := n2_; have GW56002 := n3_; have GE56002 := n4_; clear n0_ n1_ n2_ n3_ n4_; clear hb hbox hg))
      go_ret
      exact ⟨_, rfl, (show IsS100 w0 _ gb56002 (l0.take 2000) 0 from ⟨_, _, by (with_reducible repeat (first | refine blk_drewN ?_ _ | refine blk_drew ?_ | refine blk_alloc ?_ _)); exact BK56002.out, GE56002.out, HR56001.out⟩), by repeat (first | (with_reducible first | exact HB.out | apply below_alloc | apply pw_below_drewN | apply below_drew1 | refine below_set ?_ GE56002.out) | exact HB.out), by repeat (first | (with_reducible first | exact HBW.out | apply below_alloc | apply pw_below_drewN | apply below_drew1 | refine below_set ?_ GW56002.out) | exact HBW.out)⟩
    · rw [if_neg c3] at H
      exact absurd H (by simp)
  · rw [if_neg c2] at H
    have c2b0 : decide (2000 < (l0.length : Int)) = false := decide_eq_false c2
    have c2b1 : decide (2000 < l0.length) = false := decide_eq_false (by omega)
    clear c2
    simp only [Option.some.injEq, Prod.mk.injEq] at H
    obtain ⟨rfl, rfl⟩ := H
    go_enter Try.func55, Try.ntmps55
    go_wp2_with (first | ((with_reducible refine gate_dst (N := 10) rfl ?_); refine box_event ?hg (N := 10) ?hd (cs := #[.slice A0 l0.length c0, .int .i64 0]) (t := 100) ?hr ?_; (case hd => rfl); (case hg => rfl); (case hr => first | (go_simp; done) | (go_simp; rfl)); intro gb56003 hg w6 hbox hb; have n0_ := Aside0.mk (below_step HBW.out hb); have n1_ := Aside0.mk (below_step (by repeat (first | (with_reducible first | exact HB.out | apply below_alloc | apply pw_below_drewN | apply below_drew1) | exact HB.out)) hb); have n2_ := Aside0.mk (hbox); have n3_ := Aside0.mk ((by rw [hg]; exact (below_size (by repeat (first | (with_reducible first | exact HBW.out | apply below_alloc | apply pw_below_drewN | apply below_drew1) | exact HBW.out))) : w.heap.size ≤ gb56003)); have n4_ := Aside0.mk ((Nat.le_trans HW0.out (by rw [hg]; exact (below_size (by repeat (first | (with_reducible first | exact HBW.out | apply below_alloc | apply pw_below_drewN | apply below_drew1) | exact HBW.out))) : w.heap.size ≤ gb56003) : w0.heap.size ≤ gb56003)); clear HBW; clear HB; have HBW := n0_; have HB := n1_; have BK56003 := n2_; have GW56003 := n3_; have GE56003 := n4_; clear n0_ n1_ n2_ n3_ n4_; clear hb hbox hg))
    go_ret
    exact ⟨_, rfl, (show IsS100 w0 _ gb56003 l0 0 from ⟨_, _, by (with_reducible repeat (first | refine blk_drewN ?_ _ | refine blk_drew ?_ | refine blk_alloc ?_ _)); exact BK56003.out, GE56003.out, HR0.out⟩), by repeat (first | (with_reducible first | exact HB.out | apply below_alloc | apply pw_below_drewN | apply below_drew1 | refine below_set ?_ GE56003.out) | exact HB.out), by repeat (first | (with_reducible first | exact HBW.out | apply below_alloc | apply pw_below_drewN | apply below_drew1 | refine below_set ?_ GW56003.out) | exact HBW.out)⟩


def spec_DrawChangedBoxes.f (k : Nat) (l0 : List Int) : Option (Int × Int × Int × List Int × Int × Int × Int × List Int) := (spec_newReader.f l0).bind fun bt38003 => ((spec_twoImages.f k bt38003.1 bt38003.2).bind fun bt38006 => (some (bt38006.1, bt38006.2.1, bt38006.2.2.1, bt38006.2.2.2.1, bt38006.2.2.2.2.1, bt38006.2.2.2.2.2.1, bt38006.2.2.2.2.2.2.1, bt38006.2.2.2.2.2.2.2.1)))
theorem spec_DrawChangedBoxes.mono : ∀ a0 k, LeO (spec_DrawChangedBoxes.f k a0) (spec_DrawChangedBoxes.f (k + 1) a0) := by
  intro a0 k
  unfold spec_DrawChangedBoxes.f
  repeat' first | (with_reducible exact spec_twoImages.mono _ _ _) | (with_reducible exact LeO.refl _) | (with_reducible refine LeO.bind ?_ (fun _ => ?_))
set_option maxHeartbeats 8000000 in
set_option maxRecDepth 100000 in
theorem spec_DrawChangedBoxes.calls (k : Nat) (A0 : Option Addr) (c0 : Nat) (l0 : List Int) (r1 : Int) (r2 : Int) (r3 : Int) (r4 : List Int) (r5 : Int) (r6 : Int) (r7 : Int) (r8 : List Int) (w : World) (hr0 : Kd.C (Kd.int .u8) w A0 l0.length l0) (hc0 : l0.length ≤ c0) (h : spec_DrawChangedBoxes.f k l0 = some (r1, r2, r3, r4, r5, r6, r7, r8)) :
    Calls Try.prog 37 #[.slice A0 l0.length c0] w fun e w' => ∃ v3_ v7_ : Value, e = .returned (.tuple #[.agg #[.int .i64 r1, .int .i64 r2, .int .i64 r3, v3_], .agg #[.int .i64 r5, .int .i64 r6, .int .i64 r7, v7_]]) ∧ Kd.Q (Kd.int .i64) 3 w' w.heap.size (fun k_ => some k_ ≠ (v7_ : Value).ownBlock) v3_ r4 ∧ Kd.Q (Kd.int .i64) 3 w' w.heap.size (fun k_ => some k_ ≠ (v3_ : Value).ownBlock) v7_ r8 ∧ Below w.heap.size w w' := by
  have hu28 := Try.underlying28
  have HR0 := Aside0.mk hr0
  have HC0 := Aside0.mk hc0
  clear hr0 hc0
  have HB := Aside0.mk (Below.refl w.heap.size w)
  have H : ((spec_newReader.f l0).bind fun bt38003 => ((spec_twoImages.f k bt38003.1 bt38003.2).bind fun bt38006 => (some (bt38006.1, bt38006.2.1, bt38006.2.2.1, bt38006.2.2.2.1, bt38006.2.2.2.2.1, bt38006.2.2.2.2.2.1, bt38006.2.2.2.2.2.2.1, bt38006.2.2.2.2.2.2.2.1)))) = some (r1, r2, r3, r4, r5, r6, r7, r8) := h
  clear h
  replace H := Option.bind_eq_some_iff.mp H
  obtain ⟨⟨t38003, t38004⟩, A20, H⟩ := H
  replace H : ((spec_twoImages.f k t38003 t38004).bind fun bt38006 => (some (bt38006.1, bt38006.2.1, bt38006.2.2.1, bt38006.2.2.2.1, bt38006.2.2.2.2.1, bt38006.2.2.2.2.2.1, bt38006.2.2.2.2.2.2.1, bt38006.2.2.2.2.2.2.2.1))) = some (r1, r2, r3, r4, r5, r6, r7, r8) := H
  have A2 := Aside0.mk A20
  clear A20
  replace H := Option.bind_eq_some_iff.mp H
  obtain ⟨⟨t38006, t38007, t38008, t38009, t38012, t38013, t38014, t38015, t38018⟩, A30, H⟩ := H
  replace H : (some (t38006, t38007, t38008, t38009, t38012, t38013, t38014, t38015)) = some (r1, r2, r3, r4, r5, r6, r7, r8) := H
  have A3 := Aside0.mk A30
  clear A30
  simp only [Option.some.injEq, Prod.mk.injEq] at H
  obtain ⟨rfl, rfl, rfl, rfl, rfl, rfl, rfl, rfl⟩ := H
  go_enter Try.func37, Try.ntmps37
  go_wp2_with (first | ((with_reducible refine gate_dst (N := 2) rfl ?_); refine box_event ?hg (N := 2) ?hd (cs := #[.int .i64 0, .int .i64 0, .int .i64 0, .slice none 0 0]) (t := 28) ?hr ?_; (case hd => rfl); (case hg => rfl); (case hr => (go_simp; done)); intro gb38001 hg w4 hbox hb; have n0_ := Aside0.mk (below_step HB.out hb); have n1_ := Aside0.mk (hbox); have n2_ := Aside0.mk ((by rw [hg]; exact (below_size HB.out) : w.heap.size ≤ gb38001)); have n3_ := Aside0.mk ((by rw [hg]; exact (below_size HB.out) : w.heap.size ≤ gb38001)); clear HB; have HB := n0_; have BK38001 := n1_; have GW38001 := n2_; have GE38001 := n3_; clear n0_ n1_ n2_ n3_; clear hb hbox hg) | ((with_reducible refine gate_dst (N := 3) rfl ?_); refine box_event ?hg (N := 3) ?hd (cs := #[.int .i64 0, .int .i64 0, .int .i64 0, .slice none 0 0]) (t := 28) ?hr ?_; (case hd => rfl); (case hg => rfl); (case hr => (go_simp; done)); intro gb38002 hg w5 hbox hb; have n0_ := Aside0.mk (blk_below BK38001.out hb); have n1_ := Aside0.mk (below_step HB.out hb); have n2_ := Aside0.mk (hbox); have n3_ := Aside0.mk ((by rw [hg]; exact (below_size HB.out) : w.heap.size ≤ gb38002)); have n4_ := Aside0.mk ((by rw [hg]; exact (below_size HB.out) : w.heap.size ≤ gb38002)); have n5_ := Aside0.mk ((by rw [hg]; exact Nat.ne_of_lt (blk_lt BK38001.out) : gb38001 ≠ gb38002)); have n6_ := Aside0.mk ((by rw [hg]; exact Nat.ne_of_gt (blk_lt BK38001.out) : gb38002 ≠ gb38001)); clear BK38001; clear HB; have BK38001 := n0_; have HB := n1_; have BK38002 := n2_; have GW38002 := n3_; have GE38002 := n4_; have NB38001_38002 := n5_; have NB38002_38001 := n6_; clear n0_ n1_ n2_ n3_ n4_ n5_ n6_; clear hb hbox hg) | ((with_reducible refine gate_callee (f := 55) rfl ?_); refine goesL_ (some 5) rfl rfl Try.func55 (by kernel_rfl) rfl #[.slice A0 l0.length c0] rfl (by (try simp only [List.map_toArray, List.map_cons, List.map_nil]); rfl) ?_; (with_reducible refine (spec_newReader.calls _ _ l0 t38003 t38004 w _ ?side1 ?side2 ?side3 A2.out).mono ?_); (case side1 => repeat (with_reducible exact HB.out)); (case side2 => exact HR0.out); (case side3 => exact HC0.out); rintro e w6 ⟨g38005, rfl, hi, hb, hb2⟩; refine ⟨_, rfl, ?_⟩; have n0_ := Aside0.mk (blk_below BK38001.out hb2); have n1_ := Aside0.mk (blk_below BK38002.out hb2); have n2_ := Aside0.mk (hb); have n3_ := Aside0.mk (hi); have n4_ := Aside0.mk (IsS100.ne_blk hi (blk_below BK38001.out hb2) (by decide)); have n5_ := Aside0.mk (Ne.symm (IsS100.ne_blk hi (blk_below BK38001.out hb2) (by decide))); have n6_ := Aside0.mk (IsS100.ne_blk hi (blk_below BK38002.out hb2) (by decide)); have n7_ := Aside0.mk (Ne.symm (IsS100.ne_blk hi (blk_below BK38002.out hb2) (by decide))); clear BK38001; clear BK38002; clear HB; have BK38001 := n0_; have BK38002 := n1_; have HB := n2_; have HI38005 := n3_; have NB38005_38001 := n4_; have NB38001_38005 := n5_; have NB38005_38002 := n6_; have NB38002_38005 := n7_; clear n0_ n1_ n2_ n3_ n4_ n5_ n6_ n7_; (try clear hb); (try clear hb2); (try clear hi)) | ((with_reducible refine gate_callee (f := 54) rfl ?_); refine goesL_ (some 6) rfl rfl Try.func54 (by kernel_rfl) rfl #[.pointer (some ⟨g38005, 0, none⟩)] rfl (by (try simp only [List.map_toArray, List.map_cons, List.map_nil]); rfl) ?_; (with_reducible refine (spec_twoImages.calls k g38005 t38003 t38004 t38006 t38007 t38008 t38009 t38012 t38013 t38014 t38015 t38018 w _ ?side1 ?side2 A3.out).mono ?_); (case side1 => repeat (with_reducible exact HI38005.out)); (case side2 => repeat (with_reducible exact HB.out)); rintro e w7 ⟨v38010, v38016, rfl, ho0, ho1, hi, hb, hk⟩; refine ⟨_, rfl, ?_⟩; have n0_ := Aside0.mk (KeepBut.blk hk (g' := gb38001) (o := .cells #[.int .i64 0, .int .i64 0, .int .i64 0, .slice none 0 0] 28 (0, 0)) BK38001.out NB38001_38005.out (by simp)); have n1_ := Aside0.mk (KeepBut.blk hk (g' := gb38002) (o := .cells #[.int .i64 0, .int .i64 0, .int .i64 0, .slice none 0 0] 28 (0, 0)) BK38002.out NB38002_38005.out (by simp)); have n2_ := Aside0.mk (Kd.Q_lower ho0 (below_size HB.out)); have n3_ := Aside0.mk (Kd.Q_lower ho1 (below_size HB.out)); have n4_ := Aside0.mk (hb); have n5_ := Aside0.mk (hi); clear BK38001; clear BK38002; clear HB; clear HI38005; have BK38001 := n0_; have BK38002 := n1_; have HO38011 := n2_; have HO38017 := n3_; have HB := n4_; have HI38005 := n5_; clear n0_ n1_ n2_ n3_ n4_ n5_; (try clear hb); (try clear hk); (try clear hi); (try clear ho0); (try clear ho1); have hnb8 := NB38001_38002.out; have hnc8 := NB38002_38001.out; have hnb9 := NB38001_38005.out; have hnc9 := NB38005_38001.out; have hcz10_0 : w7.cell? ⟨gb38001, 0, none⟩ = some (.int .i64 0) := (blk_cell BK38001.out 0).trans rfl; have hcz10_1 : w7.cell? ⟨gb38001, 1, none⟩ = some (.int .i64 0) := (blk_cell BK38001.out 1).trans rfl; have hcz10_2 : w7.cell? ⟨gb38001, 2, none⟩ = some (.int .i64 0) := (blk_cell BK38001.out 2).trans rfl; have hcz10_3 : w7.cell? ⟨gb38001, 3, none⟩ = some (.slice none 0 0) := (blk_cell BK38001.out 3).trans rfl; have hfz10_0 := blk_frozen BK38001.out 0; have hfz10_1 := blk_frozen BK38001.out 1; have hfz10_2 := blk_frozen BK38001.out 2; have hfz10_3 := blk_frozen BK38001.out 3; obtain ⟨Ao11, co11, eo11, _⟩ := Kd.Q_slice HO38011.out; subst eo11; have hnb12 := NB38002_38005.out; have hnc12 := NB38005_38002.out; have hcz13_0 : w7.cell? ⟨gb38002, 0, none⟩ = some (.int .i64 0) := (blk_cell BK38002.out 0).trans rfl; have hcz13_1 : w7.cell? ⟨gb38002, 1, none⟩ = some (.int .i64 0) := (blk_cell BK38002.out 1).trans rfl; have hcz13_2 : w7.cell? ⟨gb38002, 2, none⟩ = some (.int .i64 0) := (blk_cell BK38002.out 2).trans rfl; have hcz13_3 : w7.cell? ⟨gb38002, 3, none⟩ = some (.slice none 0 0) := (blk_cell BK38002.out 3).trans rfl; have hfz13_0 := blk_frozen BK38002.out 0; have hfz13_1 := blk_frozen BK38002.out 1; have hfz13_2 := blk_frozen BK38002.out 2; have hfz13_3 := blk_frozen BK38002.out 3; obtain ⟨Ao14, co14, eo14, _⟩ := Kd.Q_slice HO38017.out; subst eo14))
  refine bodyPost_ret (results_cc rfl _ _ gb38001 gb38002 28 28 #[.int .i64 t38006, .int .i64 t38007, .int .i64 t38008, .slice Ao11 t38009.length co11] #[.int .i64 t38012, .int .i64 t38013, .int .i64 t38014, .slice Ao14 t38015.length co14] (0, 0) (0, 0) _ _ rfl (by refine blk_far ?_ NB38001_38002.out _; (with_reducible repeat (first | refine blk_drewN ?_ _ | refine blk_drew ?_ | refine blk_alloc ?_ _)); refine blk_far ?_ NB38001_38002.out _; (with_reducible repeat (first | refine blk_drewN ?_ _ | refine blk_drew ?_ | refine blk_alloc ?_ _)); refine blk_far ?_ NB38001_38002.out _; (with_reducible repeat (first | refine blk_drewN ?_ _ | refine blk_drew ?_ | refine blk_alloc ?_ _)); refine blk_far ?_ NB38001_38002.out _; (with_reducible repeat (first | refine blk_drewN ?_ _ | refine blk_drew ?_ | refine blk_alloc ?_ _)); refine blk_put (cs := #[.int .i64 t38006, .int .i64 t38007, .int .i64 t38008, .slice none 0 0]) ?_ 3 _ rfl; (with_reducible repeat (first | refine blk_drewN ?_ _ | refine blk_drew ?_ | refine blk_alloc ?_ _)); refine blk_put (cs := #[.int .i64 t38006, .int .i64 t38007, .int .i64 0, .slice none 0 0]) ?_ 2 _ rfl; (with_reducible repeat (first | refine blk_drewN ?_ _ | refine blk_drew ?_ | refine blk_alloc ?_ _)); refine blk_put (cs := #[.int .i64 t38006, .int .i64 0, .int .i64 0, .slice none 0 0]) ?_ 1 _ rfl; (with_reducible repeat (first | refine blk_drewN ?_ _ | refine blk_drew ?_ | refine blk_alloc ?_ _)); refine blk_put (cs := #[.int .i64 0, .int .i64 0, .int .i64 0, .slice none 0 0]) ?_ 0 _ rfl; (with_reducible repeat (first | refine blk_drewN ?_ _ | refine blk_drew ?_ | refine blk_alloc ?_ _)); exact BK38001.out) Try.underlying28 rfl (by kernel_rfl) rfl (by refine blk_put (cs := #[.int .i64 t38012, .int .i64 t38013, .int .i64 t38014, .slice none 0 0]) ?_ 3 _ rfl; (with_reducible repeat (first | refine blk_drewN ?_ _ | refine blk_drew ?_ | refine blk_alloc ?_ _)); refine blk_put (cs := #[.int .i64 t38012, .int .i64 t38013, .int .i64 0, .slice none 0 0]) ?_ 2 _ rfl; (with_reducible repeat (first | refine blk_drewN ?_ _ | refine blk_drew ?_ | refine blk_alloc ?_ _)); refine blk_put (cs := #[.int .i64 t38012, .int .i64 0, .int .i64 0, .slice none 0 0]) ?_ 1 _ rfl; (with_reducible repeat (first | refine blk_drewN ?_ _ | refine blk_drew ?_ | refine blk_alloc ?_ _)); refine blk_put (cs := #[.int .i64 0, .int .i64 0, .int .i64 0, .slice none 0 0]) ?_ 0 _ rfl; (with_reducible repeat (first | refine blk_drewN ?_ _ | refine blk_drew ?_ | refine blk_alloc ?_ _)); refine blk_far ?_ NB38002_38001.out _; (with_reducible repeat (first | refine blk_drewN ?_ _ | refine blk_drew ?_ | refine blk_alloc ?_ _)); refine blk_far ?_ NB38002_38001.out _; (with_reducible repeat (first | refine blk_drewN ?_ _ | refine blk_drew ?_ | refine blk_alloc ?_ _)); refine blk_far ?_ NB38002_38001.out _; (with_reducible repeat (first | refine blk_drewN ?_ _ | refine blk_drew ?_ | refine blk_alloc ?_ _)); refine blk_far ?_ NB38002_38001.out _; (with_reducible repeat (first | refine blk_drewN ?_ _ | refine blk_drew ?_ | refine blk_alloc ?_ _)); exact BK38002.out) Try.underlying28 rfl (by kernel_rfl)) rfl ?_
  exact ⟨_, _, by rfl, by (with_reducible repeat (first | apply Kd.Q_alloc | apply Kd.Q_drewN | apply Kd.Q_drew)); exact Kd.Q_mono (Kd.Q_far (p := ⟨gb38002, 3, none⟩) (Kd.Q_far (p := ⟨gb38002, 2, none⟩) (Kd.Q_far (p := ⟨gb38002, 1, none⟩) (Kd.Q_far (p := ⟨gb38002, 0, none⟩) (Kd.Q_far (p := ⟨gb38001, 3, none⟩) (Kd.Q_far (p := ⟨gb38001, 2, none⟩) (Kd.Q_far (p := ⟨gb38001, 1, none⟩) (Kd.Q_far (p := ⟨gb38001, 0, none⟩) (Kd.Q_types (Kd.Q_types HO38011.out BK38001.out (by decide)) BK38002.out (by decide)) (fun _ hk => hk.1.2) (.int .i64 t38006)) (fun _ hk => hk.1.2) (.int .i64 t38007)) (fun _ hk => hk.1.2) (.int .i64 t38008)) (fun _ hk => hk.1.2) (.slice Ao11 t38009.length co11)) (fun _ hk => hk.2) (.int .i64 t38012)) (fun _ hk => hk.2) (.int .i64 t38013)) (fun _ hk => hk.2) (.int .i64 t38014)) (fun _ hk => hk.2) (.slice Ao14 t38015.length co14)) (fun _ hk => hk.1.1), by (with_reducible repeat (first | apply Kd.Q_alloc | apply Kd.Q_drewN | apply Kd.Q_drew)); exact Kd.Q_mono (Kd.Q_far (p := ⟨gb38002, 3, none⟩) (Kd.Q_far (p := ⟨gb38002, 2, none⟩) (Kd.Q_far (p := ⟨gb38002, 1, none⟩) (Kd.Q_far (p := ⟨gb38002, 0, none⟩) (Kd.Q_far (p := ⟨gb38001, 3, none⟩) (Kd.Q_far (p := ⟨gb38001, 2, none⟩) (Kd.Q_far (p := ⟨gb38001, 1, none⟩) (Kd.Q_far (p := ⟨gb38001, 0, none⟩) (Kd.Q_types (Kd.Q_types HO38017.out BK38001.out (by decide)) BK38002.out (by decide)) (fun _ hk => hk.1.2) (.int .i64 t38006)) (fun _ hk => hk.1.2) (.int .i64 t38007)) (fun _ hk => hk.1.2) (.int .i64 t38008)) (fun _ hk => hk.1.2) (.slice Ao11 t38009.length co11)) (fun _ hk => hk.2) (.int .i64 t38012)) (fun _ hk => hk.2) (.int .i64 t38013)) (fun _ hk => hk.2) (.int .i64 t38014)) (fun _ hk => hk.2) (.slice Ao14 t38015.length co14)) (fun _ hk => hk.1.1), by repeat (with_reducible first | exact HB.out | refine below_set ?_ GE38001.out | refine below_set ?_ GE38002.out)⟩


theorem eqA60 (d : Nat) (w : World) (x0 y0 : Int) (x1 y1 : Int) (x2 y2 : Int) (x3 y3 : Int) :
    (Op.equalIn (d + 2) 60 (.agg #[.int .i64 x0, .int .i64 x1, .int .i64 x2, .int .i64 x3]) (.agg #[.int .i64 y0, .int .i64 y1, .int .i64 y2, .int .i64 y3])).run Try.prog w = .ok (x0 == y0 && (x1 == y1 && (x2 == y2 && (x3 == y3)))) w := by
  refine eqA_of Try.underlying60 (by kernel_rfl) ?_
  refine eqf_cons (by rfl) (by go_simp; rfl) (by go_simp; rfl) (by go_simp) ?_
  refine eqf_cons (by rfl) (by go_simp; rfl) (by go_simp; rfl) (by go_simp) ?_
  refine eqf_cons (by rfl) (by go_simp; rfl) (by go_simp; rfl) (by go_simp) ?_
  exact eqf_last (by rfl) (by go_simp; rfl) (by go_simp; rfl) (by go_simp)
end Go.Proofs.Ytbgohbinonkhfaa.Q

namespace Go.Proofs.Ytbgohbinonkhfaa.Q
open Go.RowKit Go.Proofs.YtbgohbinonkhfaaW.PrintWords Go.Proofs.YtbgohbinonkhfaaW.PrintLast Go.Proofs.YtbgohbinonkhfaaW.PrintMore
attribute [local go_sem] max2_int min2_int max_two min_two max_three min_three max_four min_four
set_option linter.unusedVariables false
set_option linter.unusedSimpArgs false
attribute [local go_sem high] eqA60
def laws_equalBoxes.l0 : Nat → List (S60) → List (S60) → Int → Option (Bool)
  | 0, _, _, _ => none
  | k + 1, x0, x1, x5 => if x5 < (x0.length : Int) then (if 0 ≤ x5 then (if x5 < (x1.length : Int) then (if (!(((rd_T60 x0 x5).f0) == ((rd_T60 x1 x5).f0)) || (!(((rd_T60 x0 x5).f1) == ((rd_T60 x1 x5).f1)) || (!(((rd_T60 x0 x5).f2) == ((rd_T60 x1 x5).f2)) || (!(((rd_T60 x0 x5).f3) == ((rd_T60 x1 x5).f3)))))) = true then (some false) else (laws_equalBoxes.l0 k x0 x1 (wrap64 (x5 + 1)))) else (none)) else (none)) else (some true)
def laws_equalBoxes.f (k : Nat) (l0 : List (S60)) (l1 : List (S60)) : Option (Bool) := if (l0.length : Int) = (l1.length : Int) then (laws_equalBoxes.l0 k l0 l1 0) else (some false)
theorem laws_equalBoxes.mono_l : ∀ k, (∀ y0 y1 y2, LeO (laws_equalBoxes.l0 k y0 y1 y2) (laws_equalBoxes.l0 (k + 1) y0 y1 y2))
  | 0 => fun _ _ _ r h => by simp [laws_equalBoxes.l0] at h
  | k + 1 => by
    have ih0 := laws_equalBoxes.mono_l k
    · intro y0 y1 y2
      unfold laws_equalBoxes.l0
      repeat' first
      | (with_reducible exact ih0 _ _ _)
      | (with_reducible exact LeO.refl _)
      | (with_reducible exact LeO.none _)
      | (with_reducible refine LeO.ite ?_ ?_)
      | (with_reducible refine LeO.bind ?_ (fun _ => ?_))
      | exact ih0 _ _ _
      | exact LeO.none _
      | refine LeO.ite ?_ ?_
      | refine LeO.bind ?_ (fun _ => ?_)
theorem laws_equalBoxes.mono : ∀ a0 a1 k, LeO (laws_equalBoxes.f k a0 a1) (laws_equalBoxes.f (k + 1) a0 a1) := by
  intro a0 a1 k
  have ih0 := laws_equalBoxes.mono_l k
  unfold laws_equalBoxes.f
  repeat' first
      | (with_reducible exact ih0 _ _ _)
      | (with_reducible exact LeO.refl _)
      | (with_reducible exact LeO.none _)
      | (with_reducible refine LeO.ite ?_ ?_)
      | (with_reducible refine LeO.bind ?_ (fun _ => ?_))
      | exact ih0 _ _ _
      | exact LeO.none _
      | refine LeO.ite ?_ ?_
      | refine LeO.bind ?_ (fun _ => ?_)
set_option maxHeartbeats 8000000 in
set_option maxRecDepth 100000 in
theorem laws_equalBoxes.calls (k : Nat) (A0 : Option Addr) (c0 : Nat) (l0 : List (S60)) (A1 : Option Addr) (c1 : Nat) (l1 : List (S60)) (r : Bool) (w : World) (hr0 : Kd.C k60 w A0 l0.length l0) (hc0 : l0.length ≤ c0) (hr1 : Kd.C k60 w A1 l1.length l1) (hc1 : l1.length ≤ c1) (h : laws_equalBoxes.f k l0 l1 = some r) :
    Calls Try.prog 38 #[.slice A0 l0.length c0, .slice A1 l1.length c1] w fun e w' => e = .returned (.bool r) ∧ Drawn0 w w' := by
  have hu60 := Try.underlying60
  have HR0 := Aside0.mk hr0
  have HC0 := Aside0.mk hc0
  clear hr0 hc0
  have HR1 := Aside0.mk hr1
  have HC1 := Aside0.mk hc1
  clear hr1 hc1
  have H : (if (l0.length : Int) = (l1.length : Int) then (laws_equalBoxes.l0 k l0 l1 0) else (some false)) = some r := h
  clear h
  by_cases c3 : (l0.length : Int) = (l1.length : Int)
  · rw [if_pos c3] at H
    have c3b0 : ((l0.length : Int) == (l1.length : Int)) = true := beq_iff_eq.mpr c3
    have c3b1 : ((l0.length : Int) != (l1.length : Int)) = false := bne_eq_false_iff_eq.mpr c3
    have c3b2 : (l0.length == l1.length) = true := by first | simpa using c3 | (simp at c3 ⊢; omega)
    clear c3
    have H' := Aside0.mk H
    clear H
    go_enter Try.func38, Try.ntmps38
    go_wp2
    repeat (go_quiet (fail); try go_wp2)
    go_loopg [5] k (fun kq v5 w' => ∃ (x5_1 : Int), v5 = .int .i64 x5_1 ∧ Aside0 (laws_equalBoxes.l0 kq l0 l1 x5_1 = some r) ∧ Aside0 (kq ≤ k) ∧ Drawn0 w w')
    case atStart => exact ⟨(0), (by first | rfl | (simp; done) | (simp [*]; done)), H', ⟨Nat.le_refl _⟩, by repeat (first | exact Drawn0.refl _ | apply Drawn0.step)⟩
    case round =>
      clear H'
      try clear c1
      try clear p2
      try clear c3
      try clear c3b0
      try clear c3b1
      try clear c3b2
      obtain ⟨x5_1, rfl, HA, HK1, ⟨m1, rfl⟩⟩ := hrel
      cases gk with
      | zero => exact absurd HA.out (by simp [laws_equalBoxes.l0])
      | succ k1 =>
        have H := HA.out
        clear HA
        simp only [laws_equalBoxes.l0] at H
        by_cases c4 : x5_1 < (l0.length : Int)
        · rw [if_pos c4] at H
          have c4b0 : decide (x5_1 < (l0.length : Int)) = true := decide_eq_true c4
          clear c4
          by_cases c5 : 0 ≤ x5_1
          · rw [if_pos c5] at H
            have c5b0 : decide (0 ≤ x5_1) = true := decide_eq_true c5
            clear c5
            by_cases c6 : x5_1 < (l1.length : Int)
            · rw [if_pos c6] at H
              have c6b0 : decide (x5_1 < (l1.length : Int)) = true := decide_eq_true c6
              clear c6
              by_cases c7 : (!(((rd_T60 l0 x5_1).f0) == ((rd_T60 l1 x5_1).f0)) || (!(((rd_T60 l0 x5_1).f1) == ((rd_T60 l1 x5_1).f1)) || (!(((rd_T60 l0 x5_1).f2) == ((rd_T60 l1 x5_1).f2)) || (!(((rd_T60 l0 x5_1).f3) == ((rd_T60 l1 x5_1).f3)))))) = true
              · rw [if_pos c7] at H
                have c7b0 : (!(((rd_T60 l0 x5_1).f0) == ((rd_T60 l1 x5_1).f0)) || (!(((rd_T60 l0 x5_1).f1) == ((rd_T60 l1 x5_1).f1)) || (!(((rd_T60 l0 x5_1).f2) == ((rd_T60 l1 x5_1).f2)) || (!(((rd_T60 l0 x5_1).f3) == ((rd_T60 l1 x5_1).f3)))))) = true := c7
                clear c7
                obtain rfl := Option.some.inj H
                have p39001 : 0 ≤ (x5_1 : Int) := of_decide_eq_true (by first | (with_reducible assumption) | assumption)
                have q39001 : x5_1 < (l0.length : Int) := of_decide_eq_true (by first | (with_reducible assumption) | assumption)
                obtain ⟨ad39001, e39001, hx39001_0, hx39001_1, hx39001_2, hx39001_3⟩ := at_T60 HR0.out x5_1 p39001 q39001
                cases e39001
                replace p39001 := eq_true p39001
                replace q39001 := eq_true q39001
                have p39002 : 0 ≤ (x5_1 : Int) := of_decide_eq_true (by first | (with_reducible assumption) | assumption)
                have q39002 : x5_1 < (l1.length : Int) := of_decide_eq_true (by first | (with_reducible assumption) | assumption)
                obtain ⟨ad39002, e39002, hx39002_0, hx39002_1, hx39002_2, hx39002_3⟩ := at_T60 HR1.out x5_1 p39002 q39002
                cases e39002
                replace p39002 := eq_true p39002
                replace q39002 := eq_true q39002
                go_wp2
                repeat (go_quiet (fail); try go_wp2)
                go_ret
                exact ⟨by first | rfl | (simp; done) | (simp [*]; done), by repeat (first | exact Drawn0.refl _ | apply Drawn0.step)⟩
              · rw [if_neg c7] at H
                have c7b0 : (!(((rd_T60 l0 x5_1).f0) == ((rd_T60 l1 x5_1).f0)) || (!(((rd_T60 l0 x5_1).f1) == ((rd_T60 l1 x5_1).f1)) || (!(((rd_T60 l0 x5_1).f2) == ((rd_T60 l1 x5_1).f2)) || (!(((rd_T60 l0 x5_1).f3) == ((rd_T60 l1 x5_1).f3)))))) = false := by simpa using c7
                clear c7
                have H' := Aside0.mk H
                clear H
                have p39001 : 0 ≤ (x5_1 : Int) := of_decide_eq_true (by first | (with_reducible assumption) | assumption)
                have q39001 : x5_1 < (l0.length : Int) := of_decide_eq_true (by first | (with_reducible assumption) | assumption)
                obtain ⟨ad39001, e39001, hx39001_0, hx39001_1, hx39001_2, hx39001_3⟩ := at_T60 HR0.out x5_1 p39001 q39001
                cases e39001
                replace p39001 := eq_true p39001
                replace q39001 := eq_true q39001
                have p39002 : 0 ≤ (x5_1 : Int) := of_decide_eq_true (by first | (with_reducible assumption) | assumption)
                have q39002 : x5_1 < (l1.length : Int) := of_decide_eq_true (by first | (with_reducible assumption) | assumption)
                obtain ⟨ad39002, e39002, hx39002_0, hx39002_1, hx39002_2, hx39002_3⟩ := at_T60 HR1.out x5_1 p39002 q39002
                cases e39002
                replace p39002 := eq_true p39002
                replace q39002 := eq_true q39002
                go_wp2
                repeat (go_quiet (fail); try go_wp2)
                go_roundg k1
                case measure => have := HK1.out; omega
                case rel => exact ⟨(wrap64 (x5_1 + 1)), (by first | rfl | (simp; done) | (simp [*]; done)), H', ⟨by have := HK1.out; omega⟩, by repeat (first | exact Drawn0.refl _ | apply Drawn0.step)⟩
            · rw [if_neg c6] at H
              exact absurd H (by simp)
          · rw [if_neg c5] at H
            exact absurd H (by simp)
        · rw [if_neg c4] at H
          have c4b0 : decide (x5_1 < (l0.length : Int)) = false := decide_eq_false c4
          clear c4
          obtain rfl := Option.some.inj H
          go_wp2
          repeat (go_quiet (fail); try go_wp2)
          go_ret
          exact ⟨by first | rfl | (simp; done) | (simp [*]; done), by repeat (first | exact Drawn0.refl _ | apply Drawn0.step)⟩
  · rw [if_neg c3] at H
    have c3b0 : ((l0.length : Int) == (l1.length : Int)) = false := beq_eq_false_iff_ne.mpr c3
    have c3b1 : ((l0.length : Int) != (l1.length : Int)) = true := bne_iff_ne.mpr c3
    have c3b2 : (l0.length == l1.length) = false := by first | simpa using c3 | (simp at c3 ⊢; omega)
    obtain rfl := Option.some.inj H
    go_enter Try.func38, Try.ntmps38
    go_wp2
    repeat (go_quiet (fail); try go_wp2)
    go_ret
    exact ⟨by first | rfl | (simp; done) | (simp [*]; done), by repeat (first | exact Drawn0.refl _ | apply Drawn0.step)⟩

end Go.Proofs.Ytbgohbinonkhfaa.Q

namespace Go.Proofs.Ytbgohbinonkhfaa.Q
open Go.RowKit Go.Proofs.YtbgohbinonkhfaaW.PrintWords Go.Proofs.YtbgohbinonkhfaaW.PrintLast Go.Proofs.YtbgohbinonkhfaaW.PrintMore
attribute [local go_sem] max2_int min2_int max_two min_two max_three min_three max_four min_four
set_option linter.unusedVariables false
set_option linter.unusedSimpArgs false
mutual
noncomputable def laws_FnChangedBoxes.j0 : Nat → List S60 → Bool → Int → Int → Int → List Int → Int → Int → Int → List Int → Option (Bool)
  | 0, _, _, _, _, _, _, _, _, _, _ => none
  | k + 1, x5, x32, x10014000, x10014001, x10014002, x10014003, x10015000, x10015001, x10015002, x10015003 => if x32 = true then ((spec_ChangedBoxes.f k x10014000 x10014001 x10014002 x10014003 x10015000 x10015001 x10015002 x10015003).bind fun t10022 => ((laws_equalBoxes.f k x5 t10022).bind fun t10025 => (some t10025))) else ((impl_ChangedRegion.f x10014000 x10014001 x10014002 x10014003 x10015000 x10015001 x10015002 x10015003).bind fun t10026 => (laws_FnChangedBoxes.l0 k x5 t10026 t10026 0))
noncomputable def laws_FnChangedBoxes.l0 : Nat → List S60 → List S47 → List S47 → Int → Option (Bool)
  | 0, _, _, _, _ => none
  | k + 1, x5, x6, x7, x8 => if x8 < (x5.length : Int) then (if 0 ≤ x8 then ((impl_BoxRegion.f ((rd_T60 x5 x8).f0) ((rd_T60 x5 x8).f1) ((rd_T60 x5 x8).f2) ((rd_T60 x5 x8).f3)).bind fun bt10030 => (if bt10030.2 = true then ((laws_combined.f x6 bt10030.1 1).bind fun t10034 => (if (t10034.length : Int) = 0 then (some false) else ((laws_combined.f x7 bt10030.1 2).bind fun t10037 => (laws_FnChangedBoxes.l0 k x5 x6 t10037 (wrap64 (x8 + 1)))))) else (some false))) else none) else (some ((x7.length : Int) == 0))
end
noncomputable def laws_FnChangedBoxes.f (k : Nat) (l0 : List Int) : Option Bool := if (l0.length : Int) > 1048576 then (some true) else ((spec_DrawChangedBoxes.f k l0).bind fun bt10001 => ((impl_ChangedBoxes.f bt10001.1 bt10001.2.1 bt10001.2.2.1 bt10001.2.2.2.1 bt10001.2.2.2.2.1 bt10001.2.2.2.2.2.1 bt10001.2.2.2.2.2.2.1 bt10001.2.2.2.2.2.2.2).bind fun t10015 => ((spec_ChangedBoxes.f k bt10001.1 bt10001.2.1 bt10001.2.2.1 bt10001.2.2.2.1 bt10001.2.2.2.2.1 bt10001.2.2.2.2.2.1 bt10001.2.2.2.2.2.2.1 bt10001.2.2.2.2.2.2.2).bind fun t10018 => ((laws_equalBoxes.f k t10015 t10018).bind fun t10021 => (if t10021 = true then (laws_FnChangedBoxes.j0 k t10015 ((t10015.length : Int) == 0) bt10001.1 bt10001.2.1 bt10001.2.2.1 bt10001.2.2.2.1 bt10001.2.2.2.2.1 bt10001.2.2.2.2.2.1 bt10001.2.2.2.2.2.2.1 bt10001.2.2.2.2.2.2.2) else (laws_FnChangedBoxes.j0 k t10015 true bt10001.1 bt10001.2.1 bt10001.2.2.1 bt10001.2.2.2.1 bt10001.2.2.2.2.1 bt10001.2.2.2.2.2.1 bt10001.2.2.2.2.2.2.1 bt10001.2.2.2.2.2.2.2))))))
theorem laws_FnChangedBoxes.mono_l : ∀ k, (∀ y0 y1 y2 y3 y4 y5 y6 y7 y8 y9, LeO (laws_FnChangedBoxes.j0 k y0 y1 y2 y3 y4 y5 y6 y7 y8 y9) (laws_FnChangedBoxes.j0 (k + 1) y0 y1 y2 y3 y4 y5 y6 y7 y8 y9)) ∧ (∀ y0 y1 y2 y3, LeO (laws_FnChangedBoxes.l0 k y0 y1 y2 y3) (laws_FnChangedBoxes.l0 (k + 1) y0 y1 y2 y3))
  | 0 => ⟨fun _ _ _ _ _ _ _ _ _ _ r h => by simp [laws_FnChangedBoxes.j0] at h, fun _ _ _ _ r h => by simp [laws_FnChangedBoxes.l0] at h⟩
  | k + 1 => by
    obtain ⟨ih0, ih1⟩ := laws_FnChangedBoxes.mono_l k
    refine ⟨?_, ?_⟩
    · intro y0 y1 y2 y3 y4 y5 y6 y7 y8 y9
      unfold laws_FnChangedBoxes.j0
      repeat' first | (with_reducible exact ih1 _ _ _ _) | (with_reducible exact laws_equalBoxes.mono _ _ _) | (with_reducible exact spec_ChangedBoxes.mono _ _ _ _ _ _ _ _ _) | (with_reducible exact LeO.refl _) | (with_reducible refine LeO.ite ?_ ?_) | (with_reducible refine LeO.bind ?_ (fun _ => ?_))
    · intro y0 y1 y2 y3
      unfold laws_FnChangedBoxes.l0
      repeat' first | (with_reducible exact ih1 _ _ _ _) | (with_reducible exact LeO.refl _) | (with_reducible refine LeO.ite ?_ ?_) | (with_reducible refine LeO.bind ?_ (fun _ => ?_))
theorem laws_FnChangedBoxes.mono : ∀ a0 k, LeO (laws_FnChangedBoxes.f k a0) (laws_FnChangedBoxes.f (k + 1) a0) := by
  intro a0 k
  obtain ⟨ih0, ih1⟩ := laws_FnChangedBoxes.mono_l k
  unfold laws_FnChangedBoxes.f
  repeat' first | (with_reducible exact ih0 _ _ _ _ _ _ _ _ _ _) | (with_reducible exact laws_equalBoxes.mono _ _ _) | (with_reducible exact spec_ChangedBoxes.mono _ _ _ _ _ _ _ _ _) | (with_reducible exact spec_DrawChangedBoxes.mono _ _) | (with_reducible exact LeO.refl _) | (with_reducible refine LeO.ite ?_ ?_) | (with_reducible refine LeO.bind ?_ (fun _ => ?_))
set_option maxHeartbeats 8000000 in
set_option maxRecDepth 100000 in
theorem laws_FnChangedBoxes.calls (k : Nat) (A0 : Option Addr) (c0 : Nat) (l0 : List Int) (r : Bool) (w : World) (hr0 : Kd.C (Kd.int .u8) w A0 l0.length l0) (hc0 : l0.length ≤ c0) (h : laws_FnChangedBoxes.f k l0 = some r) (hrt : r = true) :
    Calls Try.prog 9 #[.slice A0 l0.length c0] w fun e w' => e = .returned (.bool r) ∧ Below w.heap.size w w' := by
  have HRT := Aside0.mk hrt
  clear hrt
  have hu28 := Try.underlying28
  have hu60 := Try.underlying60
  have HR0 := Aside0.mk hr0
  have HC0 := Aside0.mk hc0
  clear hr0 hc0
  have HB := Aside0.mk (Below.refl w.heap.size w)
  have H : (if (l0.length : Int) > 1048576 then (some true) else ((spec_DrawChangedBoxes.f k l0).bind fun bt10001 => ((impl_ChangedBoxes.f bt10001.1 bt10001.2.1 bt10001.2.2.1 bt10001.2.2.2.1 bt10001.2.2.2.2.1 bt10001.2.2.2.2.2.1 bt10001.2.2.2.2.2.2.1 bt10001.2.2.2.2.2.2.2).bind fun t10015 => ((spec_ChangedBoxes.f k bt10001.1 bt10001.2.1 bt10001.2.2.1 bt10001.2.2.2.1 bt10001.2.2.2.2.1 bt10001.2.2.2.2.2.1 bt10001.2.2.2.2.2.2.1 bt10001.2.2.2.2.2.2.2).bind fun t10018 => ((laws_equalBoxes.f k t10015 t10018).bind fun t10021 => (if t10021 = true then (laws_FnChangedBoxes.j0 k t10015 ((t10015.length : Int) == 0) bt10001.1 bt10001.2.1 bt10001.2.2.1 bt10001.2.2.2.1 bt10001.2.2.2.2.1 bt10001.2.2.2.2.2.1 bt10001.2.2.2.2.2.2.1 bt10001.2.2.2.2.2.2.2) else (laws_FnChangedBoxes.j0 k t10015 true bt10001.1 bt10001.2.1 bt10001.2.2.1 bt10001.2.2.2.1 bt10001.2.2.2.2.1 bt10001.2.2.2.2.2.1 bt10001.2.2.2.2.2.2.1 bt10001.2.2.2.2.2.2.2))))))) = some r := h
  clear h
  by_cases c2 : (l0.length : Int) > 1048576
  · rw [if_pos c2] at H
    have c2b0 : decide (1048576 < (l0.length : Int)) = true := decide_eq_true c2
    have c2b1 : decide (1048576 < l0.length) = true := decide_eq_true (by omega)
    clear c2
    obtain rfl := Option.some.inj H
    go_enter Try.func9, Try.ntmps9
    go_wp2
    go_ret
    exact ⟨by rfl, by exact HB.out⟩
  · rw [if_neg c2] at H
    have c2b0 : decide (1048576 < (l0.length : Int)) = false := decide_eq_false c2
    have c2b1 : decide (1048576 < l0.length) = false := decide_eq_false (by omega)
    clear c2
    replace H := Option.bind_eq_some_iff.mp H
    obtain ⟨⟨t10001, t10002, t10003, t10004, t10007, t10008, t10009, t10010⟩, A30, H⟩ := H
    replace H : ((impl_ChangedBoxes.f t10001 t10002 t10003 t10004 t10007 t10008 t10009 t10010).bind fun t10015 => ((spec_ChangedBoxes.f k t10001 t10002 t10003 t10004 t10007 t10008 t10009 t10010).bind fun t10018 => ((laws_equalBoxes.f k t10015 t10018).bind fun t10021 => (if t10021 = true then (laws_FnChangedBoxes.j0 k t10015 ((t10015.length : Int) == 0) t10001 t10002 t10003 t10004 t10007 t10008 t10009 t10010) else (laws_FnChangedBoxes.j0 k t10015 true t10001 t10002 t10003 t10004 t10007 t10008 t10009 t10010))))) = some r := H
    have A3 := Aside0.mk A30
    clear A30
    replace H := Option.bind_eq_some_iff.mp H
    obtain ⟨t10015, A40, H⟩ := H
    replace H : ((spec_ChangedBoxes.f k t10001 t10002 t10003 t10004 t10007 t10008 t10009 t10010).bind fun t10018 => ((laws_equalBoxes.f k t10015 t10018).bind fun t10021 => (if t10021 = true then (laws_FnChangedBoxes.j0 k t10015 ((t10015.length : Int) == 0) t10001 t10002 t10003 t10004 t10007 t10008 t10009 t10010) else (laws_FnChangedBoxes.j0 k t10015 true t10001 t10002 t10003 t10004 t10007 t10008 t10009 t10010)))) = some r := H
    have A4 := Aside0.mk A40
    clear A40
    have HC5 := Aside0.mk H
    clear H
    go_enter Try.func9, Try.ntmps9
    go_upto_region 5 with (first | ((with_reducible refine gate_callee (f := 37) rfl ?_); refine goesL_ (some 16) rfl rfl Try.func37 (by kernel_rfl) rfl #[.slice A0 l0.length c0] rfl (by (try simp only [List.map_toArray, List.map_cons, List.map_nil]); rfl) ?_; (with_reducible refine (spec_DrawChangedBoxes.calls k _ _ l0 t10001 t10002 t10003 t10004 t10007 t10008 t10009 t10010 _ ?side1 ?side2 A3.out).mono ?_); (case side1 => repeat (exact HR0.out)); (case side2 => exact HC0.out); rintro e w6 ⟨v10005, v10011, rfl, ho0, ho1, hb⟩; refine ⟨_, rfl, ?_⟩; have n0_ := Aside0.mk (Kd.Q_lower ho0 (below_size HB.out)); have n1_ := Aside0.mk (Kd.Q_lower ho1 (below_size HB.out)); have n2_ := Aside0.mk (below_step HB.out hb); clear HB; have HO10006 := n0_; have HO10012 := n1_; have HB := n2_; clear n0_ n1_ n2_; (try clear hb); (try clear ho0); (try clear ho1)) | ((with_reducible refine gate_dst (N := 3) rfl ?_); (try (refine gate_guard (by rfl) ?_; dsimp only)); refine box_event ?hg (N := 3) ?hd (cs := #[.int .i64 0, .int .i64 0, .int .i64 0, .slice none 0 0]) (t := 28) ?hr ?_; (case hd => rfl); (case hg => rfl); (case hr => (go_simp; done)); intro gb10013 hg w7 hbox hb; have n0_ := Aside0.mk (Kd.Q_below HO10006.out hb); have n1_ := Aside0.mk (Kd.Q_below HO10012.out hb); have n2_ := Aside0.mk (below_step HB.out hb); have n3_ := Aside0.mk (hbox); have n4_ := Aside0.mk ((by rw [hg]; exact (below_size HB.out) : w.heap.size ≤ gb10013)); have n5_ := Aside0.mk ((by rw [hg]; exact (below_size HB.out) : w.heap.size ≤ gb10013)); clear HO10006; clear HO10012; clear HB; have HO10006 := n0_; have HO10012 := n1_; have HB := n2_; have BK10013 := n3_; have GW10013 := n4_; have GE10013 := n5_; clear n0_ n1_ n2_ n3_ n4_ n5_; clear hb hbox hg) | ((with_reducible refine gate_dst (N := 4) rfl ?_); (try (refine gate_guard (by rfl) ?_; dsimp only)); refine box_event ?hg (N := 4) ?hd (cs := #[.int .i64 0, .int .i64 0, .int .i64 0, .slice none 0 0]) (t := 28) ?hr ?_; (case hd => rfl); (case hg => rfl); (case hr => (go_simp; done)); intro gb10014 hg w8 hbox hb; have n0_ := Aside0.mk (Kd.Q_below HO10006.out hb); have n1_ := Aside0.mk (Kd.Q_below HO10012.out hb); have n2_ := Aside0.mk (blk_below BK10013.out hb); have n3_ := Aside0.mk (below_step HB.out hb); have n4_ := Aside0.mk (hbox); have n5_ := Aside0.mk ((by rw [hg]; exact (below_size HB.out) : w.heap.size ≤ gb10014)); have n6_ := Aside0.mk ((by rw [hg]; exact (below_size HB.out) : w.heap.size ≤ gb10014)); have n7_ := Aside0.mk ((by rw [hg]; exact Nat.ne_of_lt (blk_lt BK10013.out) : gb10013 ≠ gb10014)); have n8_ := Aside0.mk ((by rw [hg]; exact Nat.ne_of_gt (blk_lt BK10013.out) : gb10014 ≠ gb10013)); clear HO10006; clear HO10012; clear BK10013; clear HB; have HO10006 := n0_; have HO10012 := n1_; have BK10013 := n2_; have HB := n3_; have BK10014 := n4_; have GW10014 := n5_; have GE10014 := n6_; have NB10013_10014 := n7_; have NB10014_10013 := n8_; clear n0_ n1_ n2_ n3_ n4_ n5_ n6_ n7_ n8_; clear hb hbox hg; have hnb9 := NB10013_10014.out; have hnc9 := NB10014_10013.out; have hcz10_0 : w8.cell? ⟨gb10013, 0, none⟩ = some (.int .i64 0) := (blk_cell BK10013.out 0).trans rfl; have hcz10_1 : w8.cell? ⟨gb10013, 1, none⟩ = some (.int .i64 0) := (blk_cell BK10013.out 1).trans rfl; have hcz10_2 : w8.cell? ⟨gb10013, 2, none⟩ = some (.int .i64 0) := (blk_cell BK10013.out 2).trans rfl; have hcz10_3 : w8.cell? ⟨gb10013, 3, none⟩ = some (.slice none 0 0) := (blk_cell BK10013.out 3).trans rfl; have hfz10_0 := blk_frozen BK10013.out 0; have hfz10_1 := blk_frozen BK10013.out 1; have hfz10_2 := blk_frozen BK10013.out 2; have hfz10_3 := blk_frozen BK10013.out 3; obtain ⟨Ao11, co11, eo11, _⟩ := Kd.Q_slice HO10006.out; subst eo11; have hcz12_0 : w8.cell? ⟨gb10014, 0, none⟩ = some (.int .i64 0) := (blk_cell BK10014.out 0).trans rfl; have hcz12_1 : w8.cell? ⟨gb10014, 1, none⟩ = some (.int .i64 0) := (blk_cell BK10014.out 1).trans rfl; have hcz12_2 : w8.cell? ⟨gb10014, 2, none⟩ = some (.int .i64 0) := (blk_cell BK10014.out 2).trans rfl; have hcz12_3 : w8.cell? ⟨gb10014, 3, none⟩ = some (.slice none 0 0) := (blk_cell BK10014.out 3).trans rfl; have hfz12_0 := blk_frozen BK10014.out 0; have hfz12_1 := blk_frozen BK10014.out 1; have hfz12_2 := blk_frozen BK10014.out 2; have hfz12_3 := blk_frozen BK10014.out 3; obtain ⟨Ao13, co13, eo13, _⟩ := Kd.Q_slice HO10012.out; subst eo13) | ((with_reducible refine gate_callee (f := 33) rfl ?_); refine goesL_ (some 21) rfl rfl Try.func33 (by kernel_rfl) rfl #[.agg #[.int .i64 t10001, .int .i64 t10002, .int .i64 t10003, .slice Ao11 t10004.length co11], .agg #[.int .i64 t10007, .int .i64 t10008, .int .i64 t10009, .slice Ao13 t10010.length co13]] rfl (by (try simp only [List.map_toArray, List.map_cons, List.map_nil]); rfl) ?_; (with_reducible refine (impl_ChangedBoxes.calls t10001 t10002 t10003 _ _ t10004 t10007 t10008 t10009 _ _ t10010 t10015 _ ?side1 ?side2 ?side3 ?side4 A4.out).mono ?_); (case side1 => refine (Kd.Q_reads' (e := 3) (base := w.heap.size) (ok := fun k_ => some k_ ≠ (.slice Ao13 t10010.length co13 : Value).ownBlock) (n := t10004.length) (c := co11) ?_).2.2; exact (by exact (Kd.Q_mono (Kd.Q_mono (Kd.Q_far (p := ⟨gb10014, 3, none⟩) (Kd.Q_far (p := ⟨gb10014, 2, none⟩) (Kd.Q_far (p := ⟨gb10014, 1, none⟩) (Kd.Q_far (p := ⟨gb10014, 0, none⟩) (Kd.Q_far (p := ⟨gb10013, 3, none⟩) (Kd.Q_far (p := ⟨gb10013, 2, none⟩) (Kd.Q_far (p := ⟨gb10013, 1, none⟩) (Kd.Q_far (p := ⟨gb10013, 0, none⟩) (Kd.Q_types (Kd.Q_types HO10006.out BK10013.out (by decide)) BK10014.out (by decide)) (fun _ hk => by exact hk.1.2) (.int .i64 t10001)) (fun _ hk => by exact hk.1.2) (.int .i64 t10002)) (fun _ hk => by exact hk.1.2) (.int .i64 t10003)) (fun _ hk => by exact hk.1.2) (.slice Ao11 t10004.length co11)) (fun _ hk => by exact hk.2) (.int .i64 t10007)) (fun _ hk => by exact hk.2) (.int .i64 t10008)) (fun _ hk => by exact hk.2) (.int .i64 t10009)) (fun _ hk => by exact hk.2) (.slice Ao13 t10010.length co13)) (fun _ h_ => h_.1)) (fun _ h_ => h_.1)))); (case side2 => exact (Kd.Q_reads' HO10006.out).2.1); (case side3 => refine (Kd.Q_reads' (e := 3) (base := w.heap.size) (ok := fun k_ => some k_ ≠ (.slice Ao11 t10004.length co11 : Value).ownBlock) (n := t10010.length) (c := co13) ?_).2.2; exact (by exact (Kd.Q_mono (Kd.Q_mono (Kd.Q_far (p := ⟨gb10014, 3, none⟩) (Kd.Q_far (p := ⟨gb10014, 2, none⟩) (Kd.Q_far (p := ⟨gb10014, 1, none⟩) (Kd.Q_far (p := ⟨gb10014, 0, none⟩) (Kd.Q_far (p := ⟨gb10013, 3, none⟩) (Kd.Q_far (p := ⟨gb10013, 2, none⟩) (Kd.Q_far (p := ⟨gb10013, 1, none⟩) (Kd.Q_far (p := ⟨gb10013, 0, none⟩) (Kd.Q_types (Kd.Q_types HO10012.out BK10013.out (by decide)) BK10014.out (by decide)) (fun _ hk => by exact hk.1.2) (.int .i64 t10001)) (fun _ hk => by exact hk.1.2) (.int .i64 t10002)) (fun _ hk => by exact hk.1.2) (.int .i64 t10003)) (fun _ hk => by exact hk.1.2) (.slice Ao11 t10004.length co11)) (fun _ hk => by exact hk.2) (.int .i64 t10007)) (fun _ hk => by exact hk.2) (.int .i64 t10008)) (fun _ hk => by exact hk.2) (.int .i64 t10009)) (fun _ hk => by exact hk.2) (.slice Ao13 t10010.length co13)) (fun _ h_ => h_.1)) (fun _ h_ => h_.1)))); (case side4 => exact (Kd.Q_reads' HO10012.out).2.1); rintro e w14 ⟨v10016, rfl, ho0, hb⟩; refine ⟨_, rfl, ?_⟩; have n0_ := Aside0.mk (Kd.Q_below (by exact (Kd.Q_mono (Kd.Q_mono (Kd.Q_far (p := ⟨gb10014, 3, none⟩) (Kd.Q_far (p := ⟨gb10014, 2, none⟩) (Kd.Q_far (p := ⟨gb10014, 1, none⟩) (Kd.Q_far (p := ⟨gb10014, 0, none⟩) (Kd.Q_far (p := ⟨gb10013, 3, none⟩) (Kd.Q_far (p := ⟨gb10013, 2, none⟩) (Kd.Q_far (p := ⟨gb10013, 1, none⟩) (Kd.Q_far (p := ⟨gb10013, 0, none⟩) (Kd.Q_types (Kd.Q_types HO10006.out BK10013.out (by decide)) BK10014.out (by decide)) (fun _ hk => by exact hk.1.2) (.int .i64 t10001)) (fun _ hk => by exact hk.1.2) (.int .i64 t10002)) (fun _ hk => by exact hk.1.2) (.int .i64 t10003)) (fun _ hk => by exact hk.1.2) (.slice Ao11 t10004.length co11)) (fun _ hk => by exact hk.2) (.int .i64 t10007)) (fun _ hk => by exact hk.2) (.int .i64 t10008)) (fun _ hk => by exact hk.2) (.int .i64 t10009)) (fun _ hk => by exact hk.2) (.slice Ao13 t10010.length co13)) (fun _ h_ => h_.1)) (fun _ h_ => h_.1))) hb); have n1_ := Aside0.mk (Kd.Q_below (by exact (Kd.Q_mono (Kd.Q_mono (Kd.Q_far (p := ⟨gb10014, 3, none⟩) (Kd.Q_far (p := ⟨gb10014, 2, none⟩) (Kd.Q_far (p := ⟨gb10014, 1, none⟩) (Kd.Q_far (p := ⟨gb10014, 0, none⟩) (Kd.Q_far (p := ⟨gb10013, 3, none⟩) (Kd.Q_far (p := ⟨gb10013, 2, none⟩) (Kd.Q_far (p := ⟨gb10013, 1, none⟩) (Kd.Q_far (p := ⟨gb10013, 0, none⟩) (Kd.Q_types (Kd.Q_types HO10012.out BK10013.out (by decide)) BK10014.out (by decide)) (fun _ hk => by exact hk.1.2) (.int .i64 t10001)) (fun _ hk => by exact hk.1.2) (.int .i64 t10002)) (fun _ hk => by exact hk.1.2) (.int .i64 t10003)) (fun _ hk => by exact hk.1.2) (.slice Ao11 t10004.length co11)) (fun _ hk => by exact hk.2) (.int .i64 t10007)) (fun _ hk => by exact hk.2) (.int .i64 t10008)) (fun _ hk => by exact hk.2) (.int .i64 t10009)) (fun _ hk => by exact hk.2) (.slice Ao13 t10010.length co13)) (fun _ h_ => h_.1)) (fun _ h_ => h_.1))) hb); have n2_ := Aside0.mk (Kd.R_lower ho0 (below_size (by repeat (with_reducible first | exact HB.out | refine below_set ?_ GE10013.out | refine below_set ?_ GE10014.out)))); have n3_ := Aside0.mk (blk_below (g := gb10013) (o := .cells #[.int .i64 t10001, .int .i64 t10002, .int .i64 t10003, .slice Ao11 t10004.length co11] 28 (0, 0)) (by refine blk_far ?_ NB10013_10014.out _; (with_reducible repeat (first | refine blk_drewN ?_ _ | refine blk_drew ?_ | refine blk_alloc ?_ _)); refine blk_far ?_ NB10013_10014.out _; (with_reducible repeat (first | refine blk_drewN ?_ _ | refine blk_drew ?_ | refine blk_alloc ?_ _)); refine blk_far ?_ NB10013_10014.out _; (with_reducible repeat (first | refine blk_drewN ?_ _ | refine blk_drew ?_ | refine blk_alloc ?_ _)); refine blk_far ?_ NB10013_10014.out _; (with_reducible repeat (first | refine blk_drewN ?_ _ | refine blk_drew ?_ | refine blk_alloc ?_ _)); refine blk_put (cs := #[.int .i64 t10001, .int .i64 t10002, .int .i64 t10003, .slice none 0 0]) ?_ 3 _ rfl; (with_reducible repeat (first | refine blk_drewN ?_ _ | refine blk_drew ?_ | refine blk_alloc ?_ _)); refine blk_put (cs := #[.int .i64 t10001, .int .i64 t10002, .int .i64 0, .slice none 0 0]) ?_ 2 _ rfl; (with_reducible repeat (first | refine blk_drewN ?_ _ | refine blk_drew ?_ | refine blk_alloc ?_ _)); refine blk_put (cs := #[.int .i64 t10001, .int .i64 0, .int .i64 0, .slice none 0 0]) ?_ 1 _ rfl; (with_reducible repeat (first | refine blk_drewN ?_ _ | refine blk_drew ?_ | refine blk_alloc ?_ _)); refine blk_put (cs := #[.int .i64 0, .int .i64 0, .int .i64 0, .slice none 0 0]) ?_ 0 _ rfl; (with_reducible repeat (first | refine blk_drewN ?_ _ | refine blk_drew ?_ | refine blk_alloc ?_ _)); exact BK10013.out) hb); have n4_ := Aside0.mk (blk_below (g := gb10014) (o := .cells #[.int .i64 t10007, .int .i64 t10008, .int .i64 t10009, .slice Ao13 t10010.length co13] 28 (0, 0)) (by refine blk_put (cs := #[.int .i64 t10007, .int .i64 t10008, .int .i64 t10009, .slice none 0 0]) ?_ 3 _ rfl; (with_reducible repeat (first | refine blk_drewN ?_ _ | refine blk_drew ?_ | refine blk_alloc ?_ _)); refine blk_put (cs := #[.int .i64 t10007, .int .i64 t10008, .int .i64 0, .slice none 0 0]) ?_ 2 _ rfl; (with_reducible repeat (first | refine blk_drewN ?_ _ | refine blk_drew ?_ | refine blk_alloc ?_ _)); refine blk_put (cs := #[.int .i64 t10007, .int .i64 0, .int .i64 0, .slice none 0 0]) ?_ 1 _ rfl; (with_reducible repeat (first | refine blk_drewN ?_ _ | refine blk_drew ?_ | refine blk_alloc ?_ _)); refine blk_put (cs := #[.int .i64 0, .int .i64 0, .int .i64 0, .slice none 0 0]) ?_ 0 _ rfl; (with_reducible repeat (first | refine blk_drewN ?_ _ | refine blk_drew ?_ | refine blk_alloc ?_ _)); refine blk_far ?_ NB10014_10013.out _; (with_reducible repeat (first | refine blk_drewN ?_ _ | refine blk_drew ?_ | refine blk_alloc ?_ _)); refine blk_far ?_ NB10014_10013.out _; (with_reducible repeat (first | refine blk_drewN ?_ _ | refine blk_drew ?_ | refine blk_alloc ?_ _)); refine blk_far ?_ NB10014_10013.out _; (with_reducible repeat (first | refine blk_drewN ?_ _ | refine blk_drew ?_ | refine blk_alloc ?_ _)); refine blk_far ?_ NB10014_10013.out _; (with_reducible repeat (first | refine blk_drewN ?_ _ | refine blk_drew ?_ | refine blk_alloc ?_ _)); exact BK10014.out) hb); have n5_ := Aside0.mk (below_step (by repeat (with_reducible first | exact HB.out | refine below_set ?_ GE10013.out | refine below_set ?_ GE10014.out)) hb); clear HO10006; clear HO10012; clear BK10013; clear BK10014; clear HB; have HO10006 := n0_; have HO10012 := n1_; have HO10017 := n2_; have BK10013 := n3_; have BK10014 := n4_; have HB := n5_; clear n0_ n1_ n2_ n3_ n4_ n5_; (try clear hb); (try clear ho0)))
    go_cut [32] (fun v32 wc => ∃ (kq : Nat) (x32_4 : Bool), v32 = .bool x32_4 ∧ Aside0 (laws_FnChangedBoxes.j0 kq t10015 x32_4 t10001 t10002 t10003 t10004 t10007 t10008 t10009 t10010 = some r) ∧ Aside0 (kq ≤ k) ∧ Aside0 (Kd.R k60 60 wc w.heap.size (fun _ => True) v10016 t10015) ∧ Aside0 (Kd.Q (Kd.int .i64) 3 wc w.heap.size (fun k_ => some k_ ≠ ((.slice Ao13 t10010.length co13) : Value).ownBlock) (.slice Ao11 t10004.length co11) t10004) ∧ Aside0 (Kd.Q (Kd.int .i64) 3 wc w.heap.size (fun k_ => some k_ ≠ ((.slice Ao11 t10004.length co11) : Value).ownBlock) (.slice Ao13 t10010.length co13) t10010) ∧ Aside0 (wc.heap[gb10013]? = some (.cells #[.int .i64 t10001, .int .i64 t10002, .int .i64 t10003, (.slice Ao11 t10004.length co11)] 28 (0, 0))) ∧ Aside0 (wc.heap[gb10014]? = some (.cells #[.int .i64 t10007, .int .i64 t10008, .int .i64 t10009, (.slice Ao13 t10010.length co13)] 28 (0, 0))) ∧ Aside0 (Below w.heap.size w wc))
    case first =>
      have H := HC5.out
      clear HC5
      replace H := Option.bind_eq_some_iff.mp H
      obtain ⟨t10018, A150, H⟩ := H
      replace H : ((laws_equalBoxes.f k t10015 t10018).bind fun t10021 => (if t10021 = true then (laws_FnChangedBoxes.j0 k t10015 ((t10015.length : Int) == 0) t10001 t10002 t10003 t10004 t10007 t10008 t10009 t10010) else (laws_FnChangedBoxes.j0 k t10015 true t10001 t10002 t10003 t10004 t10007 t10008 t10009 t10010))) = some r := H
      have A15 := Aside0.mk A150
      clear A150
      replace H := Option.bind_eq_some_iff.mp H
      obtain ⟨t10021, A160, H⟩ := H
      replace H : (if t10021 = true then (laws_FnChangedBoxes.j0 k t10015 ((t10015.length : Int) == 0) t10001 t10002 t10003 t10004 t10007 t10008 t10009 t10010) else (laws_FnChangedBoxes.j0 k t10015 true t10001 t10002 t10003 t10004 t10007 t10008 t10009 t10010)) = some r := H
      have A16 := Aside0.mk A160
      clear A160
      by_cases c17 : t10021 = true
      · subst c17
        have H1 : (laws_FnChangedBoxes.j0 k t10015 ((t10015.length : Int) == 0) t10001 t10002 t10003 t10004 t10007 t10008 t10009 t10010) = some r := by rw [if_pos rfl] at H; exact H
        clear H
        have H := H1
        clear H1
        have H' := Aside0.mk H
        clear H
        have hnb18 := NB10013_10014.out
        have hnc18 := NB10014_10013.out
        have hcz19_0 : w14.cell? ⟨gb10013, 0, none⟩ = some (.int .i64 t10001) := (blk_cell BK10013.out 0).trans rfl
        have hcz19_1 : w14.cell? ⟨gb10013, 1, none⟩ = some (.int .i64 t10002) := (blk_cell BK10013.out 1).trans rfl
        have hcz19_2 : w14.cell? ⟨gb10013, 2, none⟩ = some (.int .i64 t10003) := (blk_cell BK10013.out 2).trans rfl
        have hcz19_3 : w14.cell? ⟨gb10013, 3, none⟩ = some (.slice Ao11 t10004.length co11) := (blk_cell BK10013.out 3).trans rfl
        have hfz19_0 := blk_frozen BK10013.out 0
        have hfz19_1 := blk_frozen BK10013.out 1
        have hfz19_2 := blk_frozen BK10013.out 2
        have hfz19_3 := blk_frozen BK10013.out 3
        have hcz20_0 : w14.cell? ⟨gb10014, 0, none⟩ = some (.int .i64 t10007) := (blk_cell BK10014.out 0).trans rfl
        have hcz20_1 : w14.cell? ⟨gb10014, 1, none⟩ = some (.int .i64 t10008) := (blk_cell BK10014.out 1).trans rfl
        have hcz20_2 : w14.cell? ⟨gb10014, 2, none⟩ = some (.int .i64 t10009) := (blk_cell BK10014.out 2).trans rfl
        have hcz20_3 : w14.cell? ⟨gb10014, 3, none⟩ = some (.slice Ao13 t10010.length co13) := (blk_cell BK10014.out 3).trans rfl
        have hfz20_0 := blk_frozen BK10014.out 0
        have hfz20_1 := blk_frozen BK10014.out 1
        have hfz20_2 := blk_frozen BK10014.out 2
        have hfz20_3 := blk_frozen BK10014.out 3
        go_wp2_with (first | ((with_reducible refine gate_callee (f := 32) rfl ?_); refine goesL_ (some 25) rfl rfl Try.func32 (by kernel_rfl) rfl #[.agg #[.int .i64 t10001, .int .i64 t10002, .int .i64 t10003, .slice Ao11 t10004.length co11], .agg #[.int .i64 t10007, .int .i64 t10008, .int .i64 t10009, .slice Ao13 t10010.length co13]] rfl (by (try simp only [List.map_toArray, List.map_cons, List.map_nil]); rfl) ?_; (with_reducible refine (spec_ChangedBoxes.calls k t10001 t10002 t10003 _ _ t10004 t10007 t10008 t10009 _ _ t10010 t10018 _ ?side1 ?side2 ?side3 ?side4 A15.out).mono ?_); (case side1 => repeat (exact (Kd.Q_reads' HO10006.out).2.2)); (case side2 => exact (Kd.Q_reads' HO10006.out).2.1); (case side3 => repeat (exact (Kd.Q_reads' HO10012.out).2.2)); (case side4 => exact (Kd.Q_reads' HO10012.out).2.1); rintro e w21 ⟨v10019, rfl, ho0, hb⟩; refine ⟨_, rfl, ?_⟩; have n0_ := Aside0.mk (Kd.Q_below HO10006.out hb); have n1_ := Aside0.mk (Kd.Q_below HO10012.out hb); have n2_ := Aside0.mk (Kd.R_elder' HO10017.out (Kd.R_base ho0) hb); have n3_ := Aside0.mk (Kd.R_lower (Kd.R_new' ho0 (Kd.R_lt HO10017.out)) (below_size HB.out)); have n4_ := Aside0.mk (blk_below BK10013.out hb); have n5_ := Aside0.mk (blk_below BK10014.out hb); have n6_ := Aside0.mk (below_step HB.out hb); clear HO10006; clear HO10012; clear HO10017; clear BK10013; clear BK10014; clear HB; have HO10006 := n0_; have HO10012 := n1_; have HO10017 := n2_; have HO10020 := n3_; have BK10013 := n4_; have BK10014 := n5_; have HB := n6_; clear n0_ n1_ n2_ n3_ n4_ n5_ n6_; (try clear hb); (try clear ho0); obtain ⟨Ao22, co22, eo22⟩ := Kd.R_slice HO10017.out; subst eo22; obtain ⟨Ao23, co23, eo23⟩ := Kd.R_slice HO10020.out; subst eo23) | ((with_reducible refine gate_callee (f := 38) rfl ?_); refine goesL_ (some 26) rfl rfl Try.func38 (by kernel_rfl) rfl #[.slice Ao22 t10015.length co22, .slice Ao23 t10018.length co23] rfl (by (try simp only [List.map_toArray, List.map_cons, List.map_nil]); rfl) ?_; (with_reducible refine (laws_equalBoxes.calls k _ _ t10015 _ _ t10018 true _ ?side1 ?side2 ?side3 ?side4 A16.out).mono ?_); (case side1 => repeat (exact (Kd.R_reads' HO10017.out).2.2)); (case side2 => exact (Kd.R_reads' HO10017.out).2.1); (case side3 => repeat (exact (Kd.R_reads' HO10020.out).2.2)); (case side4 => exact (Kd.R_reads' HO10020.out).2.1); rintro e w' ⟨rfl, ⟨nd, rfl⟩⟩; refine ⟨_, rfl, ?_⟩))
        go_meet
        case rel => exact ⟨_, (((t10015.length : Int) == 0)), (by rfl), H', ⟨by omega⟩, ⟨by (with_reducible repeat (apply Kd.R_drewN)); exact Kd.R_mono HO10017.out (fun _ hk => trivial)⟩, ⟨by (with_reducible repeat (apply Kd.Q_drewN)); exact HO10006.out⟩, ⟨by (with_reducible repeat (apply Kd.Q_drewN)); exact HO10012.out⟩, ⟨by (with_reducible repeat (refine blk_drewN ?_ _)); exact BK10013.out⟩, ⟨by (with_reducible repeat (refine blk_drewN ?_ _)); exact BK10014.out⟩, ⟨by repeat (with_reducible first | exact HB.out | apply pw_below_drewN)⟩⟩
      · replace c17 := Bool.eq_false_iff.mpr c17
        subst c17
        have H1 : (laws_FnChangedBoxes.j0 k t10015 true t10001 t10002 t10003 t10004 t10007 t10008 t10009 t10010) = some r := by rw [if_neg (show ¬ (false = true) by decide)] at H; exact H
        clear H
        have H := H1
        clear H1
        have H' := Aside0.mk H
        clear H
        have hnb24 := NB10013_10014.out
        have hnc24 := NB10014_10013.out
        have hcz25_0 : w14.cell? ⟨gb10013, 0, none⟩ = some (.int .i64 t10001) := (blk_cell BK10013.out 0).trans rfl
        have hcz25_1 : w14.cell? ⟨gb10013, 1, none⟩ = some (.int .i64 t10002) := (blk_cell BK10013.out 1).trans rfl
        have hcz25_2 : w14.cell? ⟨gb10013, 2, none⟩ = some (.int .i64 t10003) := (blk_cell BK10013.out 2).trans rfl
        have hcz25_3 : w14.cell? ⟨gb10013, 3, none⟩ = some (.slice Ao11 t10004.length co11) := (blk_cell BK10013.out 3).trans rfl
        have hfz25_0 := blk_frozen BK10013.out 0
        have hfz25_1 := blk_frozen BK10013.out 1
        have hfz25_2 := blk_frozen BK10013.out 2
        have hfz25_3 := blk_frozen BK10013.out 3
        have hcz26_0 : w14.cell? ⟨gb10014, 0, none⟩ = some (.int .i64 t10007) := (blk_cell BK10014.out 0).trans rfl
        have hcz26_1 : w14.cell? ⟨gb10014, 1, none⟩ = some (.int .i64 t10008) := (blk_cell BK10014.out 1).trans rfl
        have hcz26_2 : w14.cell? ⟨gb10014, 2, none⟩ = some (.int .i64 t10009) := (blk_cell BK10014.out 2).trans rfl
        have hcz26_3 : w14.cell? ⟨gb10014, 3, none⟩ = some (.slice Ao13 t10010.length co13) := (blk_cell BK10014.out 3).trans rfl
        have hfz26_0 := blk_frozen BK10014.out 0
        have hfz26_1 := blk_frozen BK10014.out 1
        have hfz26_2 := blk_frozen BK10014.out 2
        have hfz26_3 := blk_frozen BK10014.out 3
        go_wp2_with (first | ((with_reducible refine gate_callee (f := 32) rfl ?_); refine goesL_ (some 25) rfl rfl Try.func32 (by kernel_rfl) rfl #[.agg #[.int .i64 t10001, .int .i64 t10002, .int .i64 t10003, .slice Ao11 t10004.length co11], .agg #[.int .i64 t10007, .int .i64 t10008, .int .i64 t10009, .slice Ao13 t10010.length co13]] rfl (by (try simp only [List.map_toArray, List.map_cons, List.map_nil]); rfl) ?_; (with_reducible refine (spec_ChangedBoxes.calls k t10001 t10002 t10003 _ _ t10004 t10007 t10008 t10009 _ _ t10010 t10018 _ ?side1 ?side2 ?side3 ?side4 A15.out).mono ?_); (case side1 => repeat (exact (Kd.Q_reads' HO10006.out).2.2)); (case side2 => exact (Kd.Q_reads' HO10006.out).2.1); (case side3 => repeat (exact (Kd.Q_reads' HO10012.out).2.2)); (case side4 => exact (Kd.Q_reads' HO10012.out).2.1); rintro e w27 ⟨v10019, rfl, ho0, hb⟩; refine ⟨_, rfl, ?_⟩; have n0_ := Aside0.mk (Kd.Q_below HO10006.out hb); have n1_ := Aside0.mk (Kd.Q_below HO10012.out hb); have n2_ := Aside0.mk (Kd.R_elder' HO10017.out (Kd.R_base ho0) hb); have n3_ := Aside0.mk (Kd.R_lower (Kd.R_new' ho0 (Kd.R_lt HO10017.out)) (below_size HB.out)); have n4_ := Aside0.mk (blk_below BK10013.out hb); have n5_ := Aside0.mk (blk_below BK10014.out hb); have n6_ := Aside0.mk (below_step HB.out hb); clear HO10006; clear HO10012; clear HO10017; clear BK10013; clear BK10014; clear HB; have HO10006 := n0_; have HO10012 := n1_; have HO10017 := n2_; have HO10020 := n3_; have BK10013 := n4_; have BK10014 := n5_; have HB := n6_; clear n0_ n1_ n2_ n3_ n4_ n5_ n6_; (try clear hb); (try clear ho0); obtain ⟨Ao28, co28, eo28⟩ := Kd.R_slice HO10017.out; subst eo28; obtain ⟨Ao29, co29, eo29⟩ := Kd.R_slice HO10020.out; subst eo29) | ((with_reducible refine gate_callee (f := 38) rfl ?_); refine goesL_ (some 26) rfl rfl Try.func38 (by kernel_rfl) rfl #[.slice Ao28 t10015.length co28, .slice Ao29 t10018.length co29] rfl (by (try simp only [List.map_toArray, List.map_cons, List.map_nil]); rfl) ?_; (with_reducible refine (laws_equalBoxes.calls k _ _ t10015 _ _ t10018 false _ ?side1 ?side2 ?side3 ?side4 A16.out).mono ?_); (case side1 => repeat (exact (Kd.R_reads' HO10017.out).2.2)); (case side2 => exact (Kd.R_reads' HO10017.out).2.1); (case side3 => repeat (exact (Kd.R_reads' HO10020.out).2.2)); (case side4 => exact (Kd.R_reads' HO10020.out).2.1); rintro e w' ⟨rfl, ⟨nd, rfl⟩⟩; refine ⟨_, rfl, ?_⟩))
        go_meet
        case rel => exact ⟨_, (true), (by rfl), H', ⟨by omega⟩, ⟨by (with_reducible repeat (apply Kd.R_drewN)); exact Kd.R_mono HO10017.out (fun _ hk => trivial)⟩, ⟨by (with_reducible repeat (apply Kd.Q_drewN)); exact HO10006.out⟩, ⟨by (with_reducible repeat (apply Kd.Q_drewN)); exact HO10012.out⟩, ⟨by (with_reducible repeat (refine blk_drewN ?_ _)); exact BK10013.out⟩, ⟨by (with_reducible repeat (refine blk_drewN ?_ _)); exact BK10014.out⟩, ⟨by repeat (with_reducible first | exact HB.out | apply pw_below_drewN)⟩⟩
    case rest =>
      clear HC5
      try clear c1
      try clear c2
      try clear c2b0
      try clear c2b1
      try clear p2
      try clear c3
      try clear c9
      try clear c17
      try clear c18
      try clear c24
      try clear hcz10_0
      try clear hcz10_1
      try clear hcz10_2
      try clear hcz10_3
      try clear hcz12_0
      try clear hcz12_1
      try clear hcz12_2
      try clear hcz12_3
      try clear hcz19_0
      try clear hcz19_1
      try clear hcz19_2
      try clear hcz19_3
      try clear hcz20_0
      try clear hcz20_1
      try clear hcz20_2
      try clear hcz20_3
      try clear hcz25_0
      try clear hcz25_1
      try clear hcz25_2
      try clear hcz25_3
      try clear hcz26_0
      try clear hcz26_1
      try clear hcz26_2
      try clear hcz26_3
      try clear hfz10_0
      try clear hfz10_1
      try clear hfz10_2
      try clear hfz10_3
      try clear hfz12_0
      try clear hfz12_1
      try clear hfz12_2
      try clear hfz12_3
      try clear hfz19_0
      try clear hfz19_1
      try clear hfz19_2
      try clear hfz19_3
      try clear hfz20_0
      try clear hfz20_1
      try clear hfz20_2
      try clear hfz20_3
      try clear hfz25_0
      try clear hfz25_1
      try clear hfz25_2
      try clear hfz25_3
      try clear hfz26_0
      try clear hfz26_1
      try clear hfz26_2
      try clear hfz26_3
      obtain ⟨kq, x32_4, rfl, HA, HJ4, HO_5, HO_10014003, HO_10015003, BK10013, BK10014, HB⟩ := hcut
      cases kq with
      | zero => exact absurd HA.out (by simp [laws_FnChangedBoxes.j0])
      | succ kj4 =>
        have H := HA.out
        clear HA
        simp only [laws_FnChangedBoxes.j0] at H
        by_cases c30 : x32_4 = true
        · subst c30
          have H1 : ((spec_ChangedBoxes.f kj4 t10001 t10002 t10003 t10004 t10007 t10008 t10009 t10010).bind fun t10022 => ((laws_equalBoxes.f kj4 t10015 t10022).bind fun t10025 => (some t10025))) = some r := by rw [if_pos rfl] at H; exact H
          clear H
          have H := H1
          clear H1
          replace H := Option.bind_eq_some_iff.mp H
          obtain ⟨t10022, A310, H⟩ := H
          replace H : ((laws_equalBoxes.f kj4 t10015 t10022).bind fun t10025 => (some t10025)) = some r := H
          have A31 := Aside0.mk A310
          clear A310
          replace H := Option.bind_eq_some_iff.mp H
          obtain ⟨t10025, A320, H⟩ := H
          replace H : (some t10025) = some r := H
          have A32 := Aside0.mk A320
          clear A320
          obtain rfl := Option.some.inj H
          have hnb33 := NB10013_10014.out
          have hnc33 := NB10014_10013.out
          have hcz34_0 : wc.cell? ⟨gb10013, 0, none⟩ = some (.int .i64 t10001) := (blk_cell BK10013.out 0).trans rfl
          have hcz34_1 : wc.cell? ⟨gb10013, 1, none⟩ = some (.int .i64 t10002) := (blk_cell BK10013.out 1).trans rfl
          have hcz34_2 : wc.cell? ⟨gb10013, 2, none⟩ = some (.int .i64 t10003) := (blk_cell BK10013.out 2).trans rfl
          have hcz34_3 : wc.cell? ⟨gb10013, 3, none⟩ = some (.slice Ao11 t10004.length co11) := (blk_cell BK10013.out 3).trans rfl
          have hfz34_0 := blk_frozen BK10013.out 0
          have hfz34_1 := blk_frozen BK10013.out 1
          have hfz34_2 := blk_frozen BK10013.out 2
          have hfz34_3 := blk_frozen BK10013.out 3
          have hcz35_0 : wc.cell? ⟨gb10014, 0, none⟩ = some (.int .i64 t10007) := (blk_cell BK10014.out 0).trans rfl
          have hcz35_1 : wc.cell? ⟨gb10014, 1, none⟩ = some (.int .i64 t10008) := (blk_cell BK10014.out 1).trans rfl
          have hcz35_2 : wc.cell? ⟨gb10014, 2, none⟩ = some (.int .i64 t10009) := (blk_cell BK10014.out 2).trans rfl
          have hcz35_3 : wc.cell? ⟨gb10014, 3, none⟩ = some (.slice Ao13 t10010.length co13) := (blk_cell BK10014.out 3).trans rfl
          have hfz35_0 := blk_frozen BK10014.out 0
          have hfz35_1 := blk_frozen BK10014.out 1
          have hfz35_2 := blk_frozen BK10014.out 2
          have hfz35_3 := blk_frozen BK10014.out 3
          go_wp2_with (first | ((with_reducible refine gate_callee (f := 32) rfl ?_); refine goesL_ (some 36) rfl rfl Try.func32 (by kernel_rfl) rfl #[.agg #[.int .i64 t10001, .int .i64 t10002, .int .i64 t10003, .slice Ao11 t10004.length co11], .agg #[.int .i64 t10007, .int .i64 t10008, .int .i64 t10009, .slice Ao13 t10010.length co13]] rfl (by (try simp only [List.map_toArray, List.map_cons, List.map_nil]); rfl) ?_; (with_reducible refine (spec_ChangedBoxes.calls kj4 t10001 t10002 t10003 _ _ t10004 t10007 t10008 t10009 _ _ t10010 t10022 _ ?side1 ?side2 ?side3 ?side4 A31.out).mono ?_); (case side1 => repeat (exact (Kd.Q_reads' HO_10014003.out).2.2)); (case side2 => exact (Kd.Q_reads' HO_10014003.out).2.1); (case side3 => repeat (exact (Kd.Q_reads' HO_10015003.out).2.2)); (case side4 => exact (Kd.Q_reads' HO_10015003.out).2.1); rintro e w36 ⟨v10023, rfl, ho0, hb⟩; refine ⟨_, rfl, ?_⟩; have n0_ := Aside0.mk (Kd.R_elder' HO_5.out (Kd.R_base ho0) hb); have n1_ := Aside0.mk (Kd.Q_below HO_10014003.out hb); have n2_ := Aside0.mk (Kd.Q_below HO_10015003.out hb); have n3_ := Aside0.mk (Kd.R_lower (Kd.R_new' ho0 (Kd.R_lt HO_5.out)) (below_size HB.out)); have n4_ := Aside0.mk (blk_below BK10013.out hb); have n5_ := Aside0.mk (blk_below BK10014.out hb); have n6_ := Aside0.mk (below_step HB.out hb); clear HO_5; clear HO_10014003; clear HO_10015003; clear BK10013; clear BK10014; clear HB; have HO_5 := n0_; have HO_10014003 := n1_; have HO_10015003 := n2_; have HO10024 := n3_; have BK10013 := n4_; have BK10014 := n5_; have HB := n6_; clear n0_ n1_ n2_ n3_ n4_ n5_ n6_; (try clear hb); (try clear ho0); obtain ⟨Ao37, co37, eo37⟩ := Kd.R_slice HO_5.out; subst eo37; obtain ⟨Ao38, co38, eo38⟩ := Kd.R_slice HO10024.out; subst eo38) | ((with_reducible refine gate_callee (f := 38) rfl ?_); refine goesL_ (some 37) rfl rfl Try.func38 (by kernel_rfl) rfl #[.slice Ao37 t10015.length co37, .slice Ao38 t10022.length co38] rfl (by (try simp only [List.map_toArray, List.map_cons, List.map_nil]); rfl) ?_; (with_reducible refine (laws_equalBoxes.calls kj4 _ _ t10015 _ _ t10022 t10025 _ ?side1 ?side2 ?side3 ?side4 A32.out).mono ?_); (case side1 => repeat (exact (Kd.R_reads' HO_5.out).2.2)); (case side2 => exact (Kd.R_reads' HO_5.out).2.1); (case side3 => repeat (exact (Kd.R_reads' HO10024.out).2.2)); (case side4 => exact (Kd.R_reads' HO10024.out).2.1); rintro e w' ⟨rfl, ⟨nd, rfl⟩⟩; refine ⟨_, rfl, ?_⟩))
          go_ret
          exact ⟨by rfl, by repeat (with_reducible first | exact HB.out | apply pw_below_drewN)⟩
        · replace c30 := Bool.eq_false_iff.mpr c30
          subst c30
          have H1 : ((impl_ChangedRegion.f t10001 t10002 t10003 t10004 t10007 t10008 t10009 t10010).bind fun t10026 => (laws_FnChangedBoxes.l0 kj4 t10015 t10026 t10026 0)) = some r := by rw [if_neg (show ¬ (false = true) by decide)] at H; exact H
          clear H
          have H := H1
          clear H1
          replace H := Option.bind_eq_some_iff.mp H
          obtain ⟨t10026, A390, H⟩ := H
          replace H : (laws_FnChangedBoxes.l0 kj4 t10015 t10026 t10026 0) = some r := H
          have A39 := Aside0.mk A390
          clear A390
          have H' := Aside0.mk H
          clear H
          have hnb40 := NB10013_10014.out
          have hnc40 := NB10014_10013.out
          have hcz41_0 : wc.cell? ⟨gb10013, 0, none⟩ = some (.int .i64 t10001) := (blk_cell BK10013.out 0).trans rfl
          have hcz41_1 : wc.cell? ⟨gb10013, 1, none⟩ = some (.int .i64 t10002) := (blk_cell BK10013.out 1).trans rfl
          have hcz41_2 : wc.cell? ⟨gb10013, 2, none⟩ = some (.int .i64 t10003) := (blk_cell BK10013.out 2).trans rfl
          have hcz41_3 : wc.cell? ⟨gb10013, 3, none⟩ = some (.slice Ao11 t10004.length co11) := (blk_cell BK10013.out 3).trans rfl
          have hfz41_0 := blk_frozen BK10013.out 0
          have hfz41_1 := blk_frozen BK10013.out 1
          have hfz41_2 := blk_frozen BK10013.out 2
          have hfz41_3 := blk_frozen BK10013.out 3
          have hcz42_0 : wc.cell? ⟨gb10014, 0, none⟩ = some (.int .i64 t10007) := (blk_cell BK10014.out 0).trans rfl
          have hcz42_1 : wc.cell? ⟨gb10014, 1, none⟩ = some (.int .i64 t10008) := (blk_cell BK10014.out 1).trans rfl
          have hcz42_2 : wc.cell? ⟨gb10014, 2, none⟩ = some (.int .i64 t10009) := (blk_cell BK10014.out 2).trans rfl
          have hcz42_3 : wc.cell? ⟨gb10014, 3, none⟩ = some (.slice Ao13 t10010.length co13) := (blk_cell BK10014.out 3).trans rfl
          have hfz42_0 := blk_frozen BK10014.out 0
          have hfz42_1 := blk_frozen BK10014.out 1
          have hfz42_2 := blk_frozen BK10014.out 2
          have hfz42_3 := blk_frozen BK10014.out 3
          go_wp2_with (first | ((with_reducible refine gate_callee (f := 14) rfl ?_); refine goesL_ (some 40) rfl rfl Try.func14 (by kernel_rfl) rfl #[.agg #[.int .i64 t10001, .int .i64 t10002, .int .i64 t10003, .slice Ao11 t10004.length co11], .agg #[.int .i64 t10007, .int .i64 t10008, .int .i64 t10009, .slice Ao13 t10010.length co13]] rfl (by (try simp only [List.map_toArray, List.map_cons, List.map_nil]); rfl) ?_; (with_reducible refine (impl_ChangedRegion.calls t10001 t10002 t10003 _ _ t10004 t10007 t10008 t10009 _ _ t10010 t10026 _ ?side1 ?side2 ?side3 ?side4 A39.out).mono ?_); (case side1 => repeat (exact (Kd.Q_reads' HO_10014003.out).2.2)); (case side2 => exact (Kd.Q_reads' HO_10014003.out).2.1); (case side3 => repeat (exact (Kd.Q_reads' HO_10015003.out).2.2)); (case side4 => exact (Kd.Q_reads' HO_10015003.out).2.1); rintro e w43 ⟨v10027, rfl, ho0, hb⟩; refine ⟨_, rfl, ?_⟩; have n0_ := Aside0.mk (Kd.R_below HO_5.out hb); have n1_ := Aside0.mk (Kd.Q_below HO_10014003.out hb); have n2_ := Aside0.mk (Kd.Q_below HO_10015003.out hb); have n3_ := Aside0.mk (Kd.R_lower ho0 (below_size HB.out)); have n4_ := Aside0.mk (blk_below BK10013.out hb); have n5_ := Aside0.mk (blk_below BK10014.out hb); have n6_ := Aside0.mk (below_step HB.out hb); clear HO_5; clear HO_10014003; clear HO_10015003; clear BK10013; clear BK10014; clear HB; have HO_5 := n0_; have HO_10014003 := n1_; have HO_10015003 := n2_; have HO10028 := n3_; have BK10013 := n4_; have BK10014 := n5_; have HB := n6_; clear n0_ n1_ n2_ n3_ n4_ n5_ n6_; (try clear hb); (try clear ho0)))
          go_loopg [7, 8] kj4 (fun kq v7 v8 w' => ∃ (x7_2 : List S47) (x8_2 : Int), v8 = .int .i64 x8_2 ∧ Aside0 (laws_FnChangedBoxes.l0 kq t10015 t10026 x7_2 x8_2 = some r) ∧ Aside0 (kq ≤ kj4) ∧ Aside0 (Kd.R k60 60 w' w.heap.size (fun _ => True) v10016 t10015) ∧ Aside0 (Kd.R k47 47 w' w.heap.size (fun _ => True) v10027 t10026) ∧ Aside0 (Kd.R k47 47 w' w.heap.size (fun _ => True) v7 x7_2) ∧ Aside0 (Kd.Q (Kd.int .i64) 3 w' w.heap.size (fun k_ => some k_ ≠ ((.slice Ao13 t10010.length co13) : Value).ownBlock) (.slice Ao11 t10004.length co11) t10004) ∧ Aside0 (Kd.Q (Kd.int .i64) 3 w' w.heap.size (fun k_ => some k_ ≠ ((.slice Ao11 t10004.length co11) : Value).ownBlock) (.slice Ao13 t10010.length co13) t10010) ∧ Aside0 (w'.heap[gb10013]? = some (.cells #[.int .i64 t10001, .int .i64 t10002, .int .i64 t10003, (.slice Ao11 t10004.length co11)] 28 (0, 0))) ∧ Aside0 (w'.heap[gb10014]? = some (.cells #[.int .i64 t10007, .int .i64 t10008, .int .i64 t10009, (.slice Ao13 t10010.length co13)] 28 (0, 0))) ∧ Aside0 (Below w.heap.size w w'))
          case atStart => exact ⟨(t10026), (0), (by rfl), H', ⟨Nat.le_refl _⟩, ⟨by (with_reducible repeat (first | apply Kd.R_alloc | apply Kd.R_drewN | apply Kd.R_drew)); exact HO_5.out⟩, ⟨by (with_reducible repeat (first | apply Kd.R_alloc | apply Kd.R_drewN | apply Kd.R_drew)); exact HO10028.out⟩, ⟨by (with_reducible repeat (first | apply Kd.R_alloc | apply Kd.R_drewN | apply Kd.R_drew)); exact HO10028.out⟩, ⟨by (with_reducible repeat (first | apply Kd.Q_alloc | apply Kd.Q_drewN | apply Kd.Q_drew)); exact HO_10014003.out⟩, ⟨by (with_reducible repeat (first | apply Kd.Q_alloc | apply Kd.Q_drewN | apply Kd.Q_drew)); exact HO_10015003.out⟩, ⟨by (with_reducible repeat (first | refine blk_drewN ?_ _ | refine blk_drew ?_ | refine blk_alloc ?_ _)); exact BK10013.out⟩, ⟨by (with_reducible repeat (first | refine blk_drewN ?_ _ | refine blk_drew ?_ | refine blk_alloc ?_ _)); exact BK10014.out⟩, ⟨by exact HB.out⟩⟩
          case round =>
            clear H'
            try clear c1
            try clear c2
            try clear c2b0
            try clear c2b1
            try clear p2
            try clear c3
            try clear c4
            try clear c9
            try clear c14
            try clear c17
            try clear c18
            try clear c24
            try clear c30
            try clear c32
            try clear c33
            try clear c37
            try clear c38
            try clear c40
            try clear hcz10_0
            try clear hcz10_1
            try clear hcz10_2
            try clear hcz10_3
            try clear hcz12_0
            try clear hcz12_1
            try clear hcz12_2
            try clear hcz12_3
            try clear hcz19_0
            try clear hcz19_1
            try clear hcz19_2
            try clear hcz19_3
            try clear hcz20_0
            try clear hcz20_1
            try clear hcz20_2
            try clear hcz20_3
            try clear hcz25_0
            try clear hcz25_1
            try clear hcz25_2
            try clear hcz25_3
            try clear hcz26_0
            try clear hcz26_1
            try clear hcz26_2
            try clear hcz26_3
            try clear hcz34_0
            try clear hcz34_1
            try clear hcz34_2
            try clear hcz34_3
            try clear hcz35_0
            try clear hcz35_1
            try clear hcz35_2
            try clear hcz35_3
            try clear hcz41_0
            try clear hcz41_1
            try clear hcz41_2
            try clear hcz41_3
            try clear hcz42_0
            try clear hcz42_1
            try clear hcz42_2
            try clear hcz42_3
            try clear hfz10_0
            try clear hfz10_1
            try clear hfz10_2
            try clear hfz10_3
            try clear hfz12_0
            try clear hfz12_1
            try clear hfz12_2
            try clear hfz12_3
            try clear hfz19_0
            try clear hfz19_1
            try clear hfz19_2
            try clear hfz19_3
            try clear hfz20_0
            try clear hfz20_1
            try clear hfz20_2
            try clear hfz20_3
            try clear hfz25_0
            try clear hfz25_1
            try clear hfz25_2
            try clear hfz25_3
            try clear hfz26_0
            try clear hfz26_1
            try clear hfz26_2
            try clear hfz26_3
            try clear hfz34_0
            try clear hfz34_1
            try clear hfz34_2
            try clear hfz34_3
            try clear hfz35_0
            try clear hfz35_1
            try clear hfz35_2
            try clear hfz35_3
            try clear hfz41_0
            try clear hfz41_1
            try clear hfz41_2
            try clear hfz41_3
            try clear hfz42_0
            try clear hfz42_1
            try clear hfz42_2
            try clear hfz42_3
            try clear p2
            obtain ⟨x7_2, x8_2, rfl, HA, HK2, HO_5, HO_6, HO_7, HO_10014003, HO_10015003, BK10013, BK10014, HB⟩ := hrel
            cases gk with
            | zero => exact absurd HA.out (by simp [laws_FnChangedBoxes.l0])
            | succ k2 =>
              have H := HA.out
              clear HA
              simp only [laws_FnChangedBoxes.l0] at H
              by_cases c44 : x8_2 < (t10015.length : Int)
              · rw [if_pos c44] at H
                have c44b0 : decide (x8_2 < (t10015.length : Int)) = true := decide_eq_true c44
                clear c44
                by_cases c45 : 0 ≤ x8_2
                · rw [if_pos c45] at H
                  have c45b0 : decide (0 ≤ x8_2) = true := decide_eq_true c45
                  clear c45
                  replace H := Option.bind_eq_some_iff.mp H
                  obtain ⟨⟨t10030, t10033⟩, A460, H⟩ := H
                  replace H : (if t10033 = true then ((laws_combined.f t10026 t10030 1).bind fun t10034 => (if (t10034.length : Int) = 0 then (some false) else ((laws_combined.f x7_2 t10030 2).bind fun t10037 => (laws_FnChangedBoxes.l0 k2 t10015 t10026 t10037 (wrap64 (x8_2 + 1)))))) else (some false)) = some r := H
                  have A46 := Aside0.mk A460
                  clear A460
                  by_cases c47 : t10033 = true
                  · subst c47
                    have H1 : ((laws_combined.f t10026 t10030 1).bind fun t10034 => (if (t10034.length : Int) = 0 then (some false) else ((laws_combined.f x7_2 t10030 2).bind fun t10037 => (laws_FnChangedBoxes.l0 k2 t10015 t10026 t10037 (wrap64 (x8_2 + 1)))))) = some r := by rw [if_pos rfl] at H; exact H
                    clear H
                    have H := H1
                    clear H1
                    replace H := Option.bind_eq_some_iff.mp H
                    obtain ⟨t10034, A480, H⟩ := H
                    replace H : (if (t10034.length : Int) = 0 then (some false) else ((laws_combined.f x7_2 t10030 2).bind fun t10037 => (laws_FnChangedBoxes.l0 k2 t10015 t10026 t10037 (wrap64 (x8_2 + 1))))) = some r := H
                    have A48 := Aside0.mk A480
                    clear A480
                    by_cases c49 : (t10034.length : Int) = 0
                    · rw [if_pos c49] at H
                      have c49b0 : ((t10034.length : Int) == 0) = true := beq_iff_eq.mpr c49
                      have c49b1 : ((t10034.length : Int) != 0) = false := bne_eq_false_iff_eq.mpr c49
                      clear c49
                      exact absurd ((Option.some.inj H).trans HRT.out) (by decide)
                    · rw [if_neg c49] at H
                      have c49b0 : ((t10034.length : Int) == 0) = false := beq_eq_false_iff_ne.mpr c49
                      have c49b1 : ((t10034.length : Int) != 0) = true := bne_iff_ne.mpr c49
                      have c49b2 : ¬ (t10034 = []) := fun h_ => c49 (by rw [h_]; rfl)
                      replace H := Option.bind_eq_some_iff.mp H
                      obtain ⟨t10037, A560, H⟩ := H
                      replace H : (laws_FnChangedBoxes.l0 k2 t10015 t10026 t10037 (wrap64 (x8_2 + 1))) = some r := H
                      have A56 := Aside0.mk A560
                      clear A560
                      have H' := Aside0.mk H
                      clear H
                      obtain ⟨Ao57, co57, eo57⟩ := Kd.R_slice HO_5.out
                      subst eo57
                      have p10029 : 0 ≤ (x8_2 : Int) := of_decide_eq_true (by (with_reducible assumption))
                      have q10029 : x8_2 < (t10015.length : Int) := of_decide_eq_true (by (with_reducible assumption))
                      obtain ⟨ad10029, e10029, hx10029_0, hx10029_1, hx10029_2, hx10029_3⟩ := at_T60 (Kd.R_reads' HO_5.out).2.2 x8_2 p10029 q10029
                      cases e10029
                      replace p10029 := eq_true p10029
                      replace q10029 := eq_true q10029
                      go_wp2_with (first | ((with_reducible refine gate_callee (f := 39) rfl ?_); refine goesL_ (some 53) rfl rfl Try.func39 (by kernel_rfl) rfl #[.agg #[.int .i64 ((rd_T60 t10015 x8_2).f0), .int .i64 ((rd_T60 t10015 x8_2).f1), .int .i64 ((rd_T60 t10015 x8_2).f2), .int .i64 ((rd_T60 t10015 x8_2).f3)]] rfl (by (try simp only [List.map_toArray, List.map_cons, List.map_nil]); rfl) ?_; (with_reducible refine (impl_BoxRegion.calls ((rd_T60 t10015 x8_2).f0) ((rd_T60 t10015 x8_2).f1) ((rd_T60 t10015 x8_2).f2) ((rd_T60 t10015 x8_2).f3) t10030 true _ A46.out).mono ?_); rintro e w58 ⟨v10031, rfl, ho0, hb⟩; refine ⟨_, rfl, ?_⟩; have n0_ := Aside0.mk (Kd.R_below HO_5.out hb); have n1_ := Aside0.mk (Kd.R_elder' HO_6.out (Kd.R_base ho0) hb); have n2_ := Aside0.mk (Kd.R_elder' HO_7.out (Kd.R_base ho0) hb); have n3_ := Aside0.mk (Kd.Q_below HO_10014003.out hb); have n4_ := Aside0.mk (Kd.Q_below HO_10015003.out hb); have n5_ := Aside0.mk (Kd.R_lower (Kd.R_new' (Kd.R_new' ho0 (Kd.R_lt HO_6.out)) (Kd.R_lt HO_7.out)) (below_size HB.out)); have n6_ := Aside0.mk (blk_below BK10013.out hb); have n7_ := Aside0.mk (blk_below BK10014.out hb); have n8_ := Aside0.mk (below_step HB.out hb); clear HO_5; clear HO_6; clear HO_7; clear HO_10014003; clear HO_10015003; clear BK10013; clear BK10014; clear HB; have HO_5 := n0_; have HO_6 := n1_; have HO_7 := n2_; have HO_10014003 := n3_; have HO_10015003 := n4_; have HO10032 := n5_; have BK10013 := n6_; have BK10014 := n7_; have HB := n8_; clear n0_ n1_ n2_ n3_ n4_ n5_ n6_ n7_ n8_; (try clear hb); (try clear ho0); obtain ⟨Ao59, co59, eo59⟩ := Kd.R_slice HO_6.out; subst eo59; obtain ⟨Ao60, co60, eo60⟩ := Kd.R_slice HO10032.out; subst eo60) | (go_at_call 28; (with_reducible refine (laws_combined.calls _ _ t10026 _ _ t10030 1 t10034 _ ?side1 ?side2 ?side3 ?side4 A48.out).mono ?_); (case side1 => repeat (exact (Kd.R_reads' HO_6.out).2.2)); (case side2 => exact (Kd.R_reads' HO_6.out).2.1); (case side3 => repeat (exact (Kd.R_reads' HO10032.out).2.2)); (case side4 => exact (Kd.R_reads' HO10032.out).2.1); rintro e w61 ⟨v10035, rfl, ho0, hb⟩; have n0_ := Aside0.mk (Kd.R_below HO_5.out hb); have n1_ := Aside0.mk (Kd.R_elder' HO_6.out (Kd.R_base ho0) hb); have n2_ := Aside0.mk (Kd.R_elder' HO_7.out (Kd.R_base ho0) hb); have n3_ := Aside0.mk (Kd.Q_below HO_10014003.out hb); have n4_ := Aside0.mk (Kd.Q_below HO_10015003.out hb); have n5_ := Aside0.mk (Kd.R_elder' HO10032.out (Kd.R_base ho0) hb); have n6_ := Aside0.mk (Kd.R_lower (Kd.R_new' (Kd.R_new' (Kd.R_new' ho0 (Kd.R_lt HO_6.out)) (Kd.R_lt HO_7.out)) (Kd.R_lt HO10032.out)) (below_size HB.out)); have n7_ := Aside0.mk (blk_below BK10013.out hb); have n8_ := Aside0.mk (blk_below BK10014.out hb); have n9_ := Aside0.mk (below_step HB.out hb); clear HO_5; clear HO_6; clear HO_7; clear HO_10014003; clear HO_10015003; clear HO10032; clear BK10013; clear BK10014; clear HB; have HO_5 := n0_; have HO_6 := n1_; have HO_7 := n2_; have HO_10014003 := n3_; have HO_10015003 := n4_; have HO10032 := n5_; have HO10036 := n6_; have BK10013 := n7_; have BK10014 := n8_; have HB := n9_; clear n0_ n1_ n2_ n3_ n4_ n5_ n6_ n7_ n8_ n9_; (try clear hb); (try clear ho0); obtain ⟨Ao62, co62, eo62⟩ := Kd.R_slice HO10036.out; subst eo62; obtain ⟨Ao63, co63, eo63⟩ := Kd.R_slice HO_7.out; subst eo63) | ((with_reducible refine gate_callee (f := 28) rfl ?_); refine goesL_ (some 67) rfl rfl Try.func28 (by kernel_rfl) rfl #[.slice Ao63 x7_2.length co63, .slice Ao60 t10030.length co60, .int .i64 2] rfl (by (try simp only [List.map_toArray, List.map_cons, List.map_nil]); rfl) ?_; (with_reducible refine (laws_combined.calls _ _ x7_2 _ _ t10030 2 t10037 _ ?side1 ?side2 ?side3 ?side4 A56.out).mono ?_); (case side1 => repeat (exact (Kd.R_reads' HO_7.out).2.2)); (case side2 => exact (Kd.R_reads' HO_7.out).2.1); (case side3 => repeat (exact (Kd.R_reads' HO10032.out).2.2)); (case side4 => exact (Kd.R_reads' HO10032.out).2.1); rintro e w64 ⟨v10038, rfl, ho0, hb⟩; refine ⟨_, rfl, ?_⟩; have n0_ := Aside0.mk (Kd.R_below HO_5.out hb); have n1_ := Aside0.mk (Kd.R_elder' HO_6.out (Kd.R_base ho0) hb); have n2_ := Aside0.mk (Kd.R_elder' HO_7.out (Kd.R_base ho0) hb); have n3_ := Aside0.mk (Kd.Q_below HO_10014003.out hb); have n4_ := Aside0.mk (Kd.Q_below HO_10015003.out hb); have n5_ := Aside0.mk (Kd.R_elder' HO10032.out (Kd.R_base ho0) hb); have n6_ := Aside0.mk (Kd.R_elder' HO10036.out (Kd.R_base ho0) hb); have n7_ := Aside0.mk (Kd.R_lower (Kd.R_new' (Kd.R_new' (Kd.R_new' (Kd.R_new' ho0 (Kd.R_lt HO_6.out)) (Kd.R_lt HO_7.out)) (Kd.R_lt HO10032.out)) (Kd.R_lt HO10036.out)) (below_size HB.out)); have n8_ := Aside0.mk (blk_below BK10013.out hb); have n9_ := Aside0.mk (blk_below BK10014.out hb); have n10_ := Aside0.mk (below_step HB.out hb); clear HO_5; clear HO_6; clear HO_7; clear HO_10014003; clear HO_10015003; clear HO10032; clear HO10036; clear BK10013; clear BK10014; clear HB; have HO_5 := n0_; have HO_6 := n1_; have HO_7 := n2_; have HO_10014003 := n3_; have HO_10015003 := n4_; have HO10032 := n5_; have HO10036 := n6_; have HO10039 := n7_; have BK10013 := n8_; have BK10014 := n9_; have HB := n10_; clear n0_ n1_ n2_ n3_ n4_ n5_ n6_ n7_ n8_ n9_ n10_; (try clear hb); (try clear ho0)))
                      go_roundg k2
                      case measure => have := HJ4.out; have := HK2.out; omega
                      case rel => exact ⟨(t10037), (wrap64 (x8_2 + 1)), (by rfl), H', ⟨by have := HJ4.out; have := HK2.out; omega⟩, ⟨by (with_reducible repeat (first | apply Kd.R_alloc | apply Kd.R_drewN | apply Kd.R_drew)); exact HO_5.out⟩, ⟨by (with_reducible repeat (first | apply Kd.R_alloc | apply Kd.R_drewN | apply Kd.R_drew)); exact Kd.R_mono HO_6.out (fun _ hk => by trivial)⟩, ⟨by (with_reducible repeat (first | apply Kd.R_alloc | apply Kd.R_drewN | apply Kd.R_drew)); exact Kd.R_mono HO10039.out (fun _ hk => by trivial)⟩, ⟨by (with_reducible repeat (first | apply Kd.Q_alloc | apply Kd.Q_drewN | apply Kd.Q_drew)); exact HO_10014003.out⟩, ⟨by (with_reducible repeat (first | apply Kd.Q_alloc | apply Kd.Q_drewN | apply Kd.Q_drew)); exact HO_10015003.out⟩, ⟨by (with_reducible repeat (first | refine blk_drewN ?_ _ | refine blk_drew ?_ | refine blk_alloc ?_ _)); exact BK10013.out⟩, ⟨by (with_reducible repeat (first | refine blk_drewN ?_ _ | refine blk_drew ?_ | refine blk_alloc ?_ _)); exact BK10014.out⟩, ⟨by exact HB.out⟩⟩
                  · replace c47 := Bool.eq_false_iff.mpr c47
                    subst c47
                    have H1 : (some false) = some r := by rw [if_neg (show ¬ (false = true) by decide)] at H; exact H
                    clear H
                    have H := H1
                    clear H1
                    exact absurd ((Option.some.inj H).trans HRT.out) (by decide)
                · rw [if_neg c45] at H
                  exact absurd H (by simp)
              · rw [if_neg c44] at H
                have c44b0 : decide (x8_2 < (t10015.length : Int)) = false := decide_eq_false c44
                clear c44
                obtain rfl := Option.some.inj H
                obtain ⟨Ao67, co67, eo67⟩ := Kd.R_slice HO_5.out
                subst eo67
                obtain ⟨Ao68, co68, eo68⟩ := Kd.R_slice HO_7.out
                subst eo68
                go_wp2
                go_ret
                exact ⟨by rfl, by exact HB.out⟩

/-- THE ONE PURE STATEMENT of laws_FnChangedBoxes: yours. -/
def laws_FnChangedBoxes.Pure : Prop := ∀ (l0 : List Int), l0.length ≤ maxLen → l0.length * 1 ≤ 140737488351232 → (∀ x ∈ l0, (Lit.int .u8 x).wf = true) → ∃ k, laws_FnChangedBoxes.f k l0 = some true
theorem laws_FnChangedBoxes.walk (P : laws_FnChangedBoxes.Pure) (a0 : Option Addr) (len0 cap0 : Nat) (z0 : List Int) (w : World) (w0 : (a0 = none ∧ len0 = 0 ∧ cap0 = 0 ∧ z0 = []) ∨ ∃ x, a0 = some x ∧ len0 ≤ cap0 ∧ cap0 ≤ maxLen ∧ z0.length = cap0 ∧ (∀ i, i < z0.length → w.cell? (x.add i) = some (.int .u8 (z0.getD i 0))) ∧ ∀ n ∈ z0, (Lit.int .u8 n).wf = true) (y0 : len0 * 1 ≤ 140737488351232) :
    Calls Try.prog 9 #[.slice a0 len0 cap0] w fun e w' => e = .returned (.bool true) ∧ Below w.heap.size w w' := by
  obtain ⟨l0, rfl, hr0, hm0, hw0, hc0⟩ := ReadsInt.ofRowC w0
  obtain ⟨k, h⟩ := P l0 hm0 y0 hw0
  refine (laws_FnChangedBoxes.calls k _ _ l0 true w (Kd.C_of_reads (d := (0 : Int)) (h1 := fun _ => rfl) hr0) hc0 h rfl).mono ?_
  rintro e w' ⟨rfl, hd⟩
  exact ⟨rfl, hd⟩

end Go.Proofs.Ytbgohbinonkhfaa.Q

/- The pixels at which two images differ, as the program and the reference have them. -/
namespace Go.Proofs.Ytbgohbinonkhfaa.Pure
open Go.RowKit Go.Proofs.Ytbgohbinonkhfaa.Q Go.Proofs.YtbgohbinonkhfaaW.PrintWords Go.Proofs.YtbgohbinonkhfaaW.PrintLast Go.Proofs.YtbgohbinonkhfaaW.PrintMore
set_option linter.unusedVariables false
set_option linter.unusedSimpArgs false

theorem copyInts_eq (l : List Int) (hl : l.length ≤ 1000000) : spec_copyInts.f l = some l := by
  unfold spec_copyInts.f
  simp only [Option.bind_some]
  rw [if_pos (by simp; omega)]
  simp
theorem spec_pixelAt_eq {a b p : Int} {d : List Int} (hv : validI a b p d = true) {x y : Nat} (hx : (x : Int) < a) (hy : (y : Int) < b) : spec_pixelAt.f a b p d (x : Int) (y : Int) = some (pixT d (pixJ a p x y) p) := by
  have h := pixJ_is hv hx hy
  have hh := (validI_iff a b p d).1 hv
  have hp := shape_prod hh.1
  have e : wrap64 ((wrap64 ((wrap64 ((y : Int) * a)) + (x : Int))) * p) = pixJ a p x y := rfl
  unfold spec_pixelAt.f
  rw [e]
  generalize pixJ a p x y = j at *
  have hw : wrap64 (j + p) = j + p := w64 (by omega) (by omega)
  rw [if_pos (by omega), if_pos (by omega), if_pos (by omega)]
  have hl := pixT_len d j p
  show (spec_copyInts.f (pixT d j p)).bind _ = _
  rw [copyInts_eq _ (by omega)]
  rfl
theorem spec_equalInts_ev (l m : List Int) (hl : l.length ≤ 1000000) : Ev (fun k => spec_equalInts.f k l m) (decide (l = m)) := by
  unfold spec_equalInts.f
  by_cases hn : l.length = m.length
  · have key := ev_up l.length (fun k i (_ : Unit) => spec_equalInts.l0 k l m (i : Int)) (fun _ _ => True) (fun i _ => decide (l.drop i = m.drop i))
      (by
        intro i s hi _
        have e1 := List.drop_eq_getElem_cons hi
        have e2 := List.drop_eq_getElem_cons (show i < m.length by omega)
        by_cases c : l[i] = m[i]'(by omega)
        · refine .inr ⟨(), fun k => ?_, trivial, ?_⟩
          · simp only [spec_equalInts.l0]
            rw [if_pos (by omega), if_pos (by omega), if_pos (by omega), rd_nat l i hi, rd_nat m i (by omega), if_pos c, w64n i (by omega)]
          · rw [e1, e2, decide_eq_decide, List.cons.injEq]
            exact ⟨fun h => ⟨c, h⟩, fun h => h.2⟩
        · left
          rw [e1, e2, decide_eq_false (by rw [List.cons.injEq]; exact fun h => c h.1)]
          refine Ev.step (f := fun _ => some false) (fun k => ?_) (Ev.now _)
          simp only [spec_equalInts.l0]
          rw [if_pos (by omega), if_pos (by omega), if_pos (by omega), rd_nat l i hi, rd_nat m i (by omega), if_neg c])
      (by
        intro s _
        refine Ev.step (f := fun _ => some true) (fun k => ?_) (ev_const (by rw [List.drop_length, hn, List.drop_length]; rfl))
        simp only [spec_equalInts.l0]
        rw [if_neg (by omega)])
      l.length 0 () (by omega) trivial
    exact ev_pos (by omega) (by simpa using key)
  · refine ev_neg (by omega) ?_
    rw [decide_eq_false (fun h => hn (by rw [h]))]
    exact Ev.now _
/-- what has been looked at ahead of column x of row y -/
def upG (f : Nat → Nat → Bool) (y x q : Nat) : Bool := decide (q / 16 < y ∨ (q / 16 = y ∧ q % 16 < x)) && f (q % 16) (q / 16)
theorem upG_set (f : Nat → Nat → Bool) (y x q : Nat) (hx : x < 16) : (if q = y * 16 + x then f x y else upG f y x q) = upG f y (x + 1) q := by
  unfold upG
  by_cases e : q = y * 16 + x
  · have e1 : q % 16 = x := by omega
    have e2 : q / 16 = y := by omega
    rw [if_pos e, e1, e2, decide_eq_true (by omega), Bool.true_and]
  · rw [if_neg e]
    congr 1
    rw [decide_eq_decide]
    omega
theorem upG_row (f : Nat → Nat → Bool) (W y q : Nat) (hf : ∀ x, W ≤ x → f x y = false) (hW : W ≤ 16) : upG f y W q = upG f (y + 1) 0 q := by
  unfold upG
  by_cases e : q / 16 = y
  · by_cases c : q % 16 < W
    · rw [decide_eq_true (by omega), decide_eq_true (by omega)]
    · rw [e, hf _ (by omega), Bool.and_false, Bool.and_false]
  · congr 1
    rw [decide_eq_decide]
    omega
theorem chg_col (a b p : Int) (d1 d2 : List Int) (x y : Nat) (h : a ≤ (x : Int)) : chg a b p d1 d2 x y = false := by
  unfold chg; rw [decide_eq_false (by omega), Bool.false_and]
theorem chg_row (a b p : Int) (d1 d2 : List Int) (x y : Nat) (h : b ≤ (y : Int)) : chg a b p d1 d2 x y = false := by
  unfold chg; rw [decide_eq_false (show ¬ (y : Int) < b by omega), Bool.false_and, Bool.and_false]
theorem spec_changed_ev (W H : Nat) (p : Int) (d1 d2 : List Int) (hv1 : validI W H p d1 = true) (hv2 : validI W H p d2 = true) : Ev (fun k => spec_changed.f k W H p d1 W H p d2) (runsL (gso (chg W H p d1 d2) 256)) := by
  have hh := (validI_iff _ _ _ _).1 hv1
  have hpr := shape_prod hh.1
  have hW : W ≤ 16 := by omega
  have hH : H ≤ 16 := by omega
  obtain ⟨f, hf⟩ : ∃ f, f = chg W H p d1 d2 := ⟨_, rfl⟩
  have hlast : ∀ q, q < 256 → upG f H 0 q = gso f 256 q := by
    intro q hq
    rw [gso_at _ _ hq]
    unfold upG
    by_cases c : q / 16 < H
    · rw [decide_eq_true (by omega), Bool.true_and]
    · rw [hf, chg_row _ _ _ _ _ _ _ (by omega), Bool.and_false]
  have key := ev_up2 H (fun k y (s : List Bool) => spec_changed.l0 k s (y : Int) W H p d1 W H p d2) (fun y s => s = tab (upG f y 0)) (fun _ _ => runsL (gso f 256))
    (by
      intro y s hy hs
      right
      refine ⟨tab (upG f (y + 1) 0), fun R hR => ?_, rfl, rfl⟩
      have inner := ev_up2 W (fun k x (s : List Bool) => spec_changed.l1 k s (y : Int) (x : Int) W H p d1 W H p d2) (fun x s => s = tab (upG f y x)) (fun _ _ => R)
        (by
          intro x s hx hs
          right
          refine ⟨tab (upG f y (x + 1)), fun R' hR' => ?_, rfl, rfl⟩
          have e1 := spec_pixelAt_eq hv1 (x := x) (y := y) (by omega) (by omega)
          have e2 := spec_pixelAt_eq hv2 (x := x) (y := y) (by omega) (by omega)
          have hl := pixT_len d1 (pixJ W p x y) p
          have e3 := spec_equalInts_ev (pixT d1 (pixJ W p x y) p) (pixT d2 (pixJ W p x y) p) (by omega)
          have e4 : wrap64 ((wrap64 ((y : Int) * 16)) + (x : Int)) = ((y * 16 + x : Nat) : Int) := by
            rw [w64 (x := (y : Int) * 16) (by omega) (by omega), w64 (by omega) (by omega)]; omega
          have e5 : (!(decide (pixT d1 (pixJ W p x y) p = pixT d2 (pixJ W p x y) p))) = f x y := by rw [hf, chg_in _ _ _ _ _ _ _ (by omega) (by omega)]
          have hset : s.set (y * 16 + x) (f x y) = tab (upG f y (x + 1)) := by
            rw [hs, tab_set]
            exact tab_congr (fun q _ => upG_set f y x q (by omega))
          have hlen : s.length = 256 := by rw [hs, tab_length]
          refine Ev.step (f := fun k => (spec_pixelAt.f W H p d1 (x : Int) (y : Int)).bind fun u => (spec_pixelAt.f W H p d2 (x : Int) (y : Int)).bind fun v => (spec_equalInts.f k u v).bind fun z => if 0 ≤ (wrap64 ((wrap64 ((y : Int) * 16)) + (x : Int))) then (if (wrap64 ((wrap64 ((y : Int) * 16)) + (x : Int))) < (s.length : Int) then spec_changed.l1 k (s.set ((wrap64 ((wrap64 ((y : Int) * 16)) + (x : Int))) : Int).toNat (!z)) (y : Int) (wrap64 ((x : Int) + 1)) W H p d1 W H p d2 else none) else none) (fun k => ?_) ?_
          · simp only [spec_changed.l1]
            rw [if_pos (by omega)]
          · refine ev_now e1 (ev_now e2 (ev_bind e3 ?_))
            rw [e4, e5]
            refine ev_pos (by omega) (ev_pos (by omega) ?_)
            rw [Int.toNat_natCast, hset, w64n x (by omega)]
            exact hR')
        (by
          intro s hs
          have hrow : s = tab (upG f (y + 1) 0) := by
            rw [hs]
            exact tab_congr (fun q _ => upG_row f W y q (fun x hx => by rw [hf]; exact chg_col _ _ _ _ _ _ _ (by omega)) hW)
          refine Ev.step (fun k => ?_) (show Ev (fun k => spec_changed.l0 k s ((y + 1 : Nat) : Int) W H p d1 W H p d2) R from by rw [hrow]; exact hR)
          simp only [spec_changed.l1]
          rw [if_neg (by omega), w64n y (by omega)])
        W 0 s (by omega) hs
      have inner' : Ev (fun k => spec_changed.l1 k s (y : Int) 0 W H p d1 W H p d2) R := inner
      refine Ev.step (fun k => ?_) inner'
      simp only [spec_changed.l0]
      rw [if_pos (by omega)])
    (by
      intro s hs
      have hend : s = tab (gso f 256) := by rw [hs]; exact tab_congr hlast
      refine Ev.step (f := fun k => (spec_runsOf.f k s).bind fun t => some t) (fun k => ?_) (ev_bind (by rw [hend]; exact spec_runsOf_ev _) (Ev.now _))
      simp only [spec_changed.l0]
      rw [if_neg (by omega)])
    H 0 (List.replicate 256 false) (by omega) (by
      rw [tab_false]
      refine tab_congr (fun q _ => ?_)
      unfold upG
      rw [decide_eq_false (by omega), Bool.false_and])
  unfold spec_changed.f
  rw [← hf]
  have key' : Ev (fun k => spec_changed.l0 k (List.replicate 256 false) 0 W H p d1 W H p d2) (runsL (gso f 256)) := key
  exact ev_pos (by omega) key'
def changedV (a b p : Int) (d1 : List Int) (a' b' p' : Int) (d2 : List Int) : List Run := if sameV a b p d1 a' b' p' d2 = true then runsL (gso (chg a b p d1 d2) 256) else []

/- The reference's parts of a region. -/

theorem tabD (g : Nat → Bool) (p : Nat) (hp : p < 256) : (tab g).getD p false = g p := by
  simp [tab, List.getD_eq_getElem?_getD, hp]
theorem spread_eq (g : Nat → Bool) (a : Nat) (ha : a < 256) : spec_spreadFrom.f (tab g) (a : Int) = some (tab (comp g a)) := by
  unfold spec_spreadFrom.f
  rw [if_pos ⟨tab_length g, by omega, by omega⟩, Int.toNat_natCast]
  congr 1
  exact tab_congr (fun q _ => comp_congr (fun p hp => tabD g p hp) a q)
theorem spec_parts_from : ∀ (n a : Nat) (g : Nat → Bool) (acc : List (List Run)), a + n = 256 → acc.length ≤ a → Ev (fun k => spec_parts.l0 k acc (tab g) (a : Int)) (acc ++ partsS n a g) := by
  intro n
  induction n with
  | zero =>
    intro a g acc ha _
    refine Ev.step (f := fun _ => some acc) (fun k => ?_) (ev_const (by unfold partsS; rw [List.append_nil]))
    simp only [spec_parts.l0]
    rw [if_neg (by rw [tab_length]; omega)]
  | succ n ih =>
    intro a g acc ha hl
    have ha256 : a < 256 := by omega
    cases hg : g a with
    | false =>
      have e : partsS (n + 1) a g = partsS n (a + 1) g := by
        conv => lhs; unfold partsS
        rw [if_neg (by rw [hg]; simp)]
      rw [e]
      refine Ev.step (fun k => ?_) (ih (a + 1) g acc (by omega) (by omega))
      simp only [spec_parts.l0]
      rw [if_pos (by rw [tab_length]; omega), if_pos (by omega), tab_get g a ha256, if_neg (by rw [hg]; simp), w64n a (by omega)]
    | true =>
      have e : partsS (n + 1) a g = runsL (comp g a) :: partsS n (a + 1) (fun q => g q && !(comp g a q)) := by
        conv => lhs; unfold partsS
        rw [if_pos hg]
      rw [e]
      have hnext : Ev (fun k => spec_parts.l0 k (acc ++ [runsL (comp g a)]) (tab (fun q => g q && !(comp g a q))) ((a + 1 : Nat) : Int)) (acc ++ runsL (comp g a) :: partsS n (a + 1) (fun q => g q && !(comp g a q))) := by
        have h := ih (a + 1) (fun q => g q && !(comp g a q)) (acc ++ [runsL (comp g a)]) (by omega) (by rw [List.length_append, List.length_singleton]; omega)
        rw [List.append_assoc] at h
        exact h
      have hfill := fill_ev (fun q => g q && !(comp g a q)) g (fun k s p => spec_parts.l1 k (acc ++ [runsL (comp g a)]) s (a : Int) (tab (comp g a)) (p : Int)) _
        (by
          intro k s p hp hs
          have hr : rdOf false s (p : Int) = g p := by rw [hs, tab_get _ _ hp, if_neg (by omega)]
          have hsl : (p : Int) < (s.length : Int) := by rw [hs, tab_length]; omega
          have hpl : (p : Int) < ((tab (comp g a)).length : Int) := by rw [tab_length]; omega
          simp only [spec_parts.l1]
          rw [if_pos hsl, if_pos (by omega), hr, w64n p (by omega), Int.toNat_natCast, tab_get _ _ hp]
          cases hgp : g p with
          | true => rw [if_pos rfl, if_pos hpl, Bool.true_and]
          | false => rw [if_neg (by simp), Bool.false_and])
        (by
          refine Ev.step (fun k => ?_) hnext
          simp only [spec_parts.l1]
          rw [if_neg (by rw [tab_length]; omega), w64n a (by omega)])
      have hfill' : Ev (fun k => spec_parts.l1 k (acc ++ [runsL (comp g a)]) (tab g) (a : Int) (tab (comp g a)) 0) _ := hfill
      refine Ev.step (f := fun k => (spec_spreadFrom.f (tab g) (a : Int)).bind fun t => (spec_runsOf.f k t).bind fun u => if acc.length < 5864062014805 then spec_parts.l1 k (acc ++ [u]) (tab g) (a : Int) t 0 else none) (fun k => ?_) (ev_now (spread_eq g a ha256) (ev_bind (spec_runsOf_ev _) (ev_pos (by omega) hfill')))
      simp only [spec_parts.l0]
      rw [if_pos (by rw [tab_length]; omega), if_pos (by omega), tab_get g a ha256, if_pos hg]
theorem spec_parts_ev (l : List Run) (hl : l.length ≤ 1000000000) (hok : ∀ r ∈ l, 0 ≤ r.f0 ∧ r.f0 < 16 ∧ 0 ≤ r.f1 ∧ r.f2 ≤ 16) : Ev (fun k => spec_parts.f k l) (partsS 256 0 (gridF l)) := by
  unfold spec_parts.f
  exact ev_bind (spec_gridOf_ev l hl hok) (spec_parts_from 256 0 (gridF l) [] (by omega) (by simp))

/- Copies of a list of Box: they are the list. -/

abbrev Box := S60
theorem rdBox (l : List Box) (i : Nat) (h : i < l.length) : rd_T60 l (i : Int) = l[i] := by simp [rd_T60, h]

/- ChangedBoxes, as the program and the reference have it. -/

noncomputable def chBoxes (a b p : Int) (d1 : List Int) (a' b' p' : Int) (d2 : List Int) : List Box := if sameV a b p d1 a' b' p' d2 = true then (partsS 256 0 (gso (chg a b p d1 d2) 256)).map boxB else []
theorem chBoxes_len (a b p : Int) (d1 : List Int) (a' b' p' : Int) (d2 : List Int) : (chBoxes a b p d1 a' b' p' d2).length ≤ 256 := by
  unfold chBoxes
  split
  · rw [List.length_map]; exact partsS_len 256 0 _
  · simp
theorem impl_ChangedBoxes_eq (a b p : Int) (d1 : List Int) (a' b' p' : Int) (d2 : List Int) : impl_ChangedBoxes.f a b p d1 a' b' p' d2 = some (chBoxes a b p d1 a' b' p' d2) := rfl
theorem boundsLoop (L : List (List Run)) (h : ∀ r ∈ L, r ≠ [] ∧ r.length ≤ 272 ∧ ∀ x ∈ r, runOK x = true) (hL : L.length ≤ 256) : Ev (fun k => spec_ChangedBoxes.l0 k [] L 0) (L.map boxB) := by
  have key := ev_up2 L.length (fun k i (s : List Box) => spec_ChangedBoxes.l0 k s L (i : Int)) (fun i s => s = (L.take i).map boxB) (fun _ _ => L.map boxB)
    (by
      intro i s hi hs
      right
      refine ⟨(L.take (i + 1)).map boxB, fun R hR => ?_, rfl, rfl⟩
      have hx := h L[i] (List.getElem_mem hi)
      have hrd : rd_L13 L (i : Int) = L[i] := by simp [rd_L13, hi]
      have hb : Ev (fun k => spec_boundsOf.f k L[i]) (boundsR L[i]) := ev_of L[i].length (fun k hk => spec_boundsOf_eq L[i] hx.1 (by omega) hx.2.2 k hk)
      have hlen : s.length ≤ 256 := by rw [hs, List.length_map, List.length_take]; omega
      have htk : (L.take (i + 1)).map boxB = s ++ [boxB L[i]] := by rw [List.take_succ_eq_append_getElem hi, List.map_append, hs]; rfl
      refine Ev.step (f := fun k => (spec_boundsOf.f k L[i]).bind fun bt => if s.length < 4398046511104 then spec_ChangedBoxes.l0 k (s ++ [⟨bt.1, bt.2.1, bt.2.2.1, bt.2.2.2⟩]) L (wrap64 ((i : Int) + 1)) else none) (fun k => ?_) (ev_bind hb (ev_pos (by omega) ?_))
      · simp only [spec_ChangedBoxes.l0]
        rw [if_pos (by omega), if_pos (by omega), hrd]
      · rw [w64n i (by omega)]
        rw [htk] at hR
        exact hR)
    (by
      intro s hs
      refine Ev.step (f := fun _ => some s) (fun k => ?_) (ev_const (by rw [hs, List.take_length]))
      simp only [spec_ChangedBoxes.l0]
      rw [if_neg (by omega)])
    L.length 0 [] (by omega) (by simp)
  exact key
theorem spec_ChangedBoxes_ev (a b p : Int) (d1 : List Int) (a' b' p' : Int) (d2 : List Int) (hl : d1.length ≤ 1000000000000) (hl' : d2.length ≤ 1000000000000) : Ev (fun k => spec_ChangedBoxes.f k a b p d1 a' b' p' d2) (chBoxes a b p d1 a' b' p' d2) := by
  unfold spec_ChangedBoxes.f chBoxes
  refine ev_bind (spec_sameShape_ev a b p d1 a' b' p' d2 hl hl') ?_
  by_cases c : sameV a b p d1 a' b' p' d2 = true
  · rw [if_pos c]
    obtain ⟨h1, h2, rfl, rfl, rfl⟩ := (sameV_iff _ _ _ _ _ _ _ _).1 c
    have hh := (validI_iff _ _ _ _).1 h1
    obtain ⟨W, rfl⟩ := Int.eq_ofNat_of_zero_le (show 0 ≤ a by omega)
    obtain ⟨H, rfl⟩ := Int.eq_ofNat_of_zero_le (show 0 ≤ b by omega)
    have hlen := runsL_len (gso (chg W H p d1 d2) 256)
    have hp := spec_parts_ev (runsL (gso (chg W H p d1 d2) 256)) (by omega) (valid_ranges (runs_valid _))
    rw [partsS_congr 256 0 _ _ (by omega) (fun q hq => grid_runs (gso (chg W H p d1 d2) 256) q hq)] at hp
    refine ev_pos c (ev_bind (spec_changed_ev W H p d1 d2 h1 h2) (ev_bind hp (boundsLoop _ (fun r hr => ?_) (partsS_len 256 0 _))))
    obtain ⟨f, hf⟩ := partsS_each 256 0 _ r hr
    exact ⟨partsS_ne 256 0 _ (by omega) r hr, by rw [hf]; exact runsL_len f, by rw [hf]; exact valid_ok (runs_valid f)⟩
  · rw [if_neg c]
    exact ev_neg c (Ev.now _)

/- ChangedRegion, as the program and the reference have it. -/

theorem impl_ChangedRegion_eq (a b p : Int) (d1 : List Int) (a' b' p' : Int) (d2 : List Int) : impl_ChangedRegion.f a b p d1 a' b' p' d2 = some (changedV a b p d1 a' b' p' d2) := rfl

/- The reader of draws: whatever the code's bytes are, it answers, in range. -/

/-- What a reader reads from: at most 2000 bytes. -/
def Bytes (b : List Int) : Prop := b.length ≤ 2000 ∧ ∀ x ∈ b, 0 ≤ x ∧ x ≤ 255
theorem Bytes.rd_ {b : List Int} (h : Bytes b) (i : Int) : 0 ≤ rd b i ∧ rd b i ≤ 255 := by
  unfold rd
  by_cases c : i.toNat < b.length
  · rw [List.getD_eq_getElem?_getD, List.getElem?_eq_getElem c]; exact h.2 _ (List.getElem_mem c)
  · rw [List.getD_eq_getElem?_getD, List.getElem?_eq_none (by omega)]; simp
theorem xor_nn (a b : Int) (ha : 0 ≤ a) (ha' : a < 4611686018427387904) (hb : 0 ≤ b) (hb' : b < 4611686018427387904) : 0 ≤ Go.bits .xor .i64 a b := by
  obtain ⟨a, rfl⟩ := Int.eq_ofNat_of_zero_le ha
  obtain ⟨b, rfl⟩ := Int.eq_ofNat_of_zero_le hb
  have ha2 : a < 2 ^ 62 := by have : (2 : Nat) ^ 62 = 4611686018427387904 := by decide +kernel
                              omega
  have hb2 : b < 2 ^ 62 := by have : (2 : Nat) ^ 62 = 4611686018427387904 := by decide +kernel
                              omega
  have e64 : IntKind.bits .i64 = 64 := rfl
  have hx := Nat.xor_lt_two_pow ha2 hb2
  have h62 : (2 : Nat) ^ 62 = 4611686018427387904 := by decide +kernel
  have h64 : (2 : Nat) ^ 64 = 18446744073709551616 := by decide +kernel
  simp only [Go.bits, BitVec.ofInt_natCast, BitVec.toNat_xor, BitVec.toNat_ofNat, e64]
  rw [Nat.mod_eq_of_lt (by omega), Nat.mod_eq_of_lt (by omega), IntKind.wrap_i64]
  generalize a ^^^ b = z at *
  omega
theorem tmod_range (x n : Int) (hx : 0 ≤ x) (hn : 1 ≤ n) : 0 ≤ Int.tmod x n ∧ Int.tmod x n < n := by
  rw [tmod_nn _ _ hx]
  exact ⟨Int.emod_nonneg _ (by omega), Int.emod_lt_of_pos _ (by omega)⟩
theorem pick_at (b : List Int) (p n : Int) (hb : Bytes b) (hp0 : 0 ≤ p) (hp : p ≤ 1000000000000) :
    ∃ v, (∀ k, 0 < k → spec_reader_pick.f k b p n = some (v, p + 1)) ∧ 0 ≤ v ∧ (1 ≤ n → v < n) ∧ (n < 1 → v = 0) := by
  by_cases hn : n < 1
  · refine ⟨0, fun k hk => ?_, by omega, by omega, fun _ => rfl⟩
    obtain ⟨k, rfl⟩ : ∃ m, k = m + 1 := ⟨k - 1, by omega⟩
    unfold spec_reader_pick.f
    rw [if_pos hn, w64 (by omega) (by omega)]
    simp only [spec_reader_pick.j0, if_true]
  by_cases he : b.length = 0
  · refine ⟨0, fun k hk => ?_, by omega, by omega, fun _ => rfl⟩
    obtain ⟨k, rfl⟩ : ∃ m, k = m + 1 := ⟨k - 1, by omega⟩
    unfold spec_reader_pick.f
    rw [if_neg hn, w64 (by omega) (by omega)]
    simp only [spec_reader_pick.j0, he]; simp
  have hlen := hb.1
  by_cases hlt : p < (b.length : Int)
  · have hr := hb.rd_ p
    have ht := tmod_range (rd b p) n hr.1 (by omega)
    refine ⟨Int.tmod (rd b p) n, fun k hk => ?_, ht.1, fun _ => ht.2, by omega⟩
    obtain ⟨k, rfl⟩ : ∃ m, k = m + 1 := ⟨k - 1, by omega⟩
    unfold spec_reader_pick.f
    rw [if_neg hn, w64 (x := p + 1) (by omega) (by omega)]
    simp only [spec_reader_pick.j0]
    rw [if_neg (by simp only [beq_iff_eq]; omega), w64 (x := p + 1 - 1) (by omega) (by omega), show p + 1 - 1 = p by omega, if_pos hlt, if_pos hp0, if_neg (by omega), w64 (x := rd b p) (by omega) (by omega)]
  · have h1 := tmod_range p (b.length : Int) hp0 (by omega)
    have h2 := tmod_range (p * 7 + 3) (b.length : Int) (by omega) (by omega)
    have r1 := hb.rd_ (Int.tmod p (b.length : Int))
    have r2 := hb.rd_ (Int.tmod (p * 7 + 3) (b.length : Int))
    have hd : 0 ≤ Int.tdiv p (b.length : Int) ∧ Int.tdiv p (b.length : Int) ≤ p := by
      rw [tdiv_nn _ _ hp0]
      exact ⟨Int.ediv_nonneg hp0 (by omega), Int.ediv_le_self _ hp0⟩
    generalize h1e : Int.tmod p (b.length : Int) = t1 at *
    generalize h2e : Int.tmod (p * 7 + 3) (b.length : Int) = t2 at *
    generalize hde : Int.tdiv p (b.length : Int) = d at *
    generalize hr1e : rd b t1 = x1 at *
    generalize hr2e : rd b t2 = x2 at *
    have hx := xor_nn (x1 * 131 + x2 * 1117 + p * 29 + d * 53) ((x1 * 131 + x2 * 1117 + p * 29 + d * 53) / 64) (by omega) (by omega) (by omega) (by omega)
    have ht := tmod_range _ n hx (by omega)
    refine ⟨Int.tmod (Go.bits .xor .i64 (x1 * 131 + x2 * 1117 + p * 29 + d * 53) ((x1 * 131 + x2 * 1117 + p * 29 + d * 53) / 64)) n, fun k hk => ?_, ht.1, fun _ => ht.2, by omega⟩
    obtain ⟨k, rfl⟩ : ∃ m, k = m + 1 := ⟨k - 1, by omega⟩
    unfold spec_reader_pick.f
    rw [if_neg hn, w64 (x := p + 1) (by omega) (by omega)]
    simp only [spec_reader_pick.j0]
    rw [if_neg (by simp only [beq_iff_eq]; omega), w64 (x := p + 1 - 1) (by omega) (by omega), show p + 1 - 1 = p by omega, if_neg hlt, if_neg (by omega),
      w64 (x := p * 7) (by omega) (by omega), w64 (x := p * 7 + 3) (by omega) (by omega), h1e, h2e, hde, hr1e, hr2e, if_pos (by omega), if_pos (by omega), if_pos (by omega), if_pos (by omega), if_neg (by omega),
      w64 (x := x1) (by omega) (by omega), w64 (x := x2) (by omega) (by omega), w64 (x := d) (by omega) (by omega), w64 (x := x1 * 131) (by omega) (by omega), w64 (x := x2 * 1117) (by omega) (by omega), w64 (x := p * 29) (by omega) (by omega), w64 (x := d * 53) (by omega) (by omega),
      w64 (x := x1 * 131 + x2 * 1117) (by omega) (by omega), w64 (x := x1 * 131 + x2 * 1117 + p * 29) (by omega) (by omega), w64 (x := x1 * 131 + x2 * 1117 + p * 29 + d * 53) (by omega) (by omega), tdiv_nn _ 64 (by omega),
      w64 (x := (x1 * 131 + x2 * 1117 + p * 29 + d * 53) / 64) (by omega) (by omega)]
theorem one_at (b : List Int) (p : Int) (l : List Int) (hl : 0 < l.length) (hl' : l.length ≤ 1000) (hb : Bytes b) (hp0 : 0 ≤ p) (hp : p ≤ 1000000000000) :
    ∃ v, (∀ k, 0 < k → spec_reader_one.f k b p l = some (v, p + 1)) ∧ v ∈ l := by
  obtain ⟨v, hv, h0, h1, _⟩ := pick_at b p (l.length : Int) hb hp0 hp
  have h1' := h1 (by omega)
  obtain ⟨v, rfl⟩ := Int.eq_ofNat_of_zero_le h0
  refine ⟨l[v]'(by omega), fun k hk => ?_, List.getElem_mem _⟩
  unfold spec_reader_one.f
  rw [hv k hk]
  simp only [Option.bind_some]
  rw [if_pos (by omega), if_pos (by omega), rd_nat l v (by omega)]
theorem newReader_at (l : List Int) (h : ∀ x ∈ l, 0 ≤ x ∧ x ≤ 255) : ∃ b, spec_newReader.f l = some (b, 0) ∧ Bytes b := by
  unfold spec_newReader.f
  by_cases c : (l.length : Int) > 2000
  · rw [if_pos c, if_pos (by omega)]
    exact ⟨_, rfl, by rw [List.length_take]; omega, fun x hx => h x (List.mem_of_mem_take hx)⟩
  · rw [if_neg c]
    exact ⟨_, rfl, by omega, h⟩
/-- What a law is told of its code: bytes. -/
theorem code_bytes (l : List Int) (h : ∀ x ∈ l, (Lit.int .u8 x).wf = true) : ∀ x ∈ l, 0 ≤ x ∧ x ≤ 255 := by
  intro x hx
  have := h x hx
  simp only [Lit.wf, Bool.and_eq_true, decide_eq_true_eq] at this
  have e1 : IntKind.min .u8 = 0 := by decide
  have e2 : IntKind.max .u8 = 255 := by decide
  omega

/- Images that are drawn from bytes. -/

theorem one_in (b : List Int) (p : Int) (l : List Int) (hl : 0 < l.length) (hl' : l.length ≤ 1000) (hb : Bytes b) (hp0 : 0 ≤ p) (hp : p ≤ 1000000000000) : ∃ v, Ev (fun k => spec_reader_one.f k b p l) (v, p + 1) ∧ v ∈ l := by
  obtain ⟨v, h, hv⟩ := one_at b p l hl hl' hb hp0 hp
  exact ⟨v, ev_of 0 h, hv⟩
theorem pick_in (b : List Int) (p n : Int) (hn : 1 ≤ n) (hb : Bytes b) (hp0 : 0 ≤ p) (hp : p ≤ 1000000000000) : ∃ v, Ev (fun k => spec_reader_pick.f k b p n) (v, p + 1) ∧ 0 ≤ v ∧ v < n := by
  obtain ⟨v, h, h0, h1, _⟩ := pick_at b p n hb hp0 hp
  exact ⟨v, ev_of 0 h, h0, h1 hn⟩
theorem newImage_eq (w h p : Int) (hs : 1 ≤ w ∧ w ≤ 16 ∧ 1 ≤ h ∧ h ≤ 16 ∧ 1 ≤ p ∧ p ≤ 4) : spec_newImage.f w h p = some (w, h, p, List.replicate (w * h * p).toNat 0) := by
  have := shape_prod hs
  unfold spec_newImage.f
  rw [shape_wrap hs, if_pos (by omega), if_pos (by omega)]
theorem randomLoop (b : List Int) (hb : Bytes b) (m : Int) (w h p : Int) : ∀ (n i : Nat) (x pos : Int) (d : List Int), i + n = d.length → 0 ≤ pos → pos + n ≤ 1000000000000 → d.length ≤ 1000000 →
    ∃ (d' : List Int) (q : Int), d'.length = d.length ∧ pos ≤ q ∧ q ≤ pos + n ∧ Ev (fun k => spec_randomImage.l0 k m x (i : Int) b pos w h p d) (w, h, p, d', q) := by
  intro n
  induction n with
  | zero =>
    intro i x pos d hi h0 h1 h2
    refine ⟨d, pos, rfl, by omega, by omega, ?_⟩
    refine Ev.step (f := fun _ => some (w, h, p, d, pos)) (fun k => ?_) (Ev.now _)
    simp only [spec_randomImage.l0]
    rw [if_neg (by omega)]
  | succ n ih =>
    intro i x pos d hi h0 h1 h2
    have go : ∀ (v x' pos' : Int), pos ≤ pos' → pos' ≤ pos + 1 → ∃ (d' : List Int) (q : Int), d'.length = d.length ∧ pos ≤ q ∧ q ≤ pos + ((n + 1 : Nat) : Int) ∧ Ev (fun k => spec_randomImage.l0 k m x' ((i + 1 : Nat) : Int) b pos' w h p (d.set i v)) (w, h, p, d', q) := by
      intro v x' pos' a1 a2
      obtain ⟨d', q, e1, e2, e3, e4⟩ := ih (i + 1) x' pos' (d.set i v) (by rw [List.length_set]; omega) (by omega) (by omega) (by rw [List.length_set]; omega)
      exact ⟨d', q, by rw [e1, List.length_set], by omega, by omega, e4⟩
    by_cases c0 : m = 0
    · obtain ⟨v, hv, _, _⟩ := pick_in b pos 256 (by omega) hb h0 (by omega)
      obtain ⟨d', q, e1, e2, e3, e4⟩ := go v v (pos + 1) (by omega) (by omega)
      refine ⟨d', q, e1, e2, e3, ?_⟩
      refine Ev.step (f := fun k => (spec_reader_pick.f k b pos 256).bind fun bt => if 0 ≤ (i : Int) then spec_randomImage.l0 k m bt.1 (wrap64 ((i : Int) + 1)) b bt.2 w h p (d.set (i : Int).toNat bt.1) else none) (fun k => ?_) ?_
      · simp only [spec_randomImage.l0]
        rw [if_pos (by omega), if_pos c0]
      · refine ev_bind hv (ev_pos (by omega) ?_)
        simp only [Int.toNat_natCast, w64n i (by omega)]
        exact e4
    · by_cases c1 : m = 1
      · obtain ⟨v, hv, _, _⟩ := pick_in b pos 5 (by omega) hb h0 (by omega)
        obtain ⟨d', q, e1, e2, e3, e4⟩ := go (Int.tmod (wrap64 ((wrap64 (x + v)) + 254)) 256) (Int.tmod (wrap64 ((wrap64 (x + v)) + 254)) 256) (pos + 1) (by omega) (by omega)
        refine ⟨d', q, e1, e2, e3, ?_⟩
        refine Ev.step (f := fun k => (spec_reader_pick.f k b pos 5).bind fun bt => if 0 ≤ (i : Int) then spec_randomImage.l0 k m (Int.tmod (wrap64 ((wrap64 (x + bt.1)) + 254)) 256) (wrap64 ((i : Int) + 1)) b bt.2 w h p (d.set (i : Int).toNat (Int.tmod (wrap64 ((wrap64 (x + bt.1)) + 254)) 256)) else none) (fun k => ?_) ?_
        · simp only [spec_randomImage.l0]
          rw [if_pos (by omega), if_neg c0, if_pos c1]
        · refine ev_bind hv (ev_pos (by omega) ?_)
          simp only [Int.toNat_natCast, w64n i (by omega)]
          exact e4
      · by_cases c2 : m = 2
        · obtain ⟨v, hv, _, _⟩ := pick_in b pos 4 (by omega) hb h0 (by omega)
          obtain ⟨d', q, e1, e2, e3, e4⟩ := go (wrap64 (60 * v)) (wrap64 (60 * v)) (pos + 1) (by omega) (by omega)
          refine ⟨d', q, e1, e2, e3, ?_⟩
          refine Ev.step (f := fun k => (spec_reader_pick.f k b pos 4).bind fun bt => if 0 ≤ (i : Int) then spec_randomImage.l0 k m (wrap64 (60 * bt.1)) (wrap64 ((i : Int) + 1)) b bt.2 w h p (d.set (i : Int).toNat (wrap64 (60 * bt.1))) else none) (fun k => ?_) ?_
          · simp only [spec_randomImage.l0]
            rw [if_pos (by omega), if_neg c0, if_neg c1, if_pos c2]
          · refine ev_bind hv (ev_pos (by omega) ?_)
            simp only [Int.toNat_natCast, w64n i (by omega)]
            exact e4
        · obtain ⟨d', q, e1, e2, e3, e4⟩ := go x x pos (by omega) (by omega)
          refine ⟨d', q, e1, e2, e3, Ev.step (fun k => ?_) e4⟩
          simp only [spec_randomImage.l0]
          rw [if_pos (by omega), if_neg c0, if_neg c1, if_neg c2, if_pos (by omega), Int.toNat_natCast, w64n i (by omega)]
theorem randomImage_ev (b : List Int) (pos p : Int) (hb : Bytes b) (h0 : 0 ≤ pos) (h1 : pos ≤ 100000000) (hp : 1 ≤ p ∧ p ≤ 4) :
    ∃ (w h : Int) (d : List Int) (q : Int), 1 ≤ w ∧ w ≤ 8 ∧ 1 ≤ h ∧ h ≤ 8 ∧ (d.length : Int) = w * h * p ∧ 1 ≤ d.length ∧ d.length ≤ 1024 ∧ pos ≤ q ∧ q ≤ pos + 2000 ∧ Ev (fun k => spec_randomImage.f k b pos p) (w, h, p, d, q) := by
  obtain ⟨w, hw, mw⟩ := one_in b pos [3, 4, 2, 5, 1, 8, 6] (by simp) (by simp) hb h0 (by omega)
  obtain ⟨h, hh, mh⟩ := one_in b (pos + 1) [3, 2, 4, 1, 5, 8] (by simp) (by simp) hb (by omega) (by omega)
  obtain ⟨m, hm, _, _⟩ := pick_in b (pos + 1 + 1) 4 (by omega) hb (by omega) (by omega)
  obtain ⟨x, hx, _, _⟩ := pick_in b (pos + 1 + 1 + 1) 256 (by omega) hb (by omega) (by omega)
  have bw : 1 ≤ w ∧ w ≤ 8 := by simp only [List.mem_cons, List.not_mem_nil, or_false] at mw; omega
  have bh : 1 ≤ h ∧ h ≤ 8 := by simp only [List.mem_cons, List.not_mem_nil, or_false] at mh; omega
  have hs : 1 ≤ w ∧ w ≤ 16 ∧ 1 ≤ h ∧ h ≤ 16 ∧ 1 ≤ p ∧ p ≤ 4 := by omega
  have hpr := shape_prod hs
  have hpos : 1 ≤ w * h * p := by
    have e1 : 1 * 1 ≤ w * h := Int.mul_le_mul (by omega) (by omega) (by omega) (by omega)
    have e2 : 1 * 1 ≤ w * h * p := Int.mul_le_mul (by omega) (by omega) (by omega) (by omega)
    omega
  have hlen : (List.replicate (w * h * p).toNat (0 : Int)).length = (w * h * p).toNat := List.length_replicate
  obtain ⟨d', q, e1, e2, e3, e4⟩ := randomLoop b hb m w h p (w * h * p).toNat 0 x (pos + 1 + 1 + 1 + 1) (List.replicate (w * h * p).toNat 0) (by omega) (by omega) (by omega) (by omega)
  refine ⟨w, h, d', q, bw.1, bw.2, bh.1, bh.2, by omega, by omega, by omega, by omega, by omega, ?_⟩
  unfold spec_randomImage.f
  exact ev_bind hw (ev_bind hh (ev_now (newImage_eq w h p hs) (ev_bind hm (ev_bind hx e4))))
theorem anyPlanes_ev (b : List Int) (pos : Int) (hb : Bytes b) (h0 : 0 ≤ pos) (h1 : pos ≤ 100000000) : ∃ p, 1 ≤ p ∧ p ≤ 4 ∧ Ev (fun k => spec_anyPlanes.f k b pos) (p, pos + 1) := by
  obtain ⟨p, hp, mp⟩ := one_in b pos [1, 3, 1, 4, 2] (by simp) (by simp) hb h0 (by omega)
  simp only [List.mem_cons, List.not_mem_nil, or_false] at mp
  refine ⟨p, by omega, by omega, ?_⟩
  unfold spec_anyPlanes.f
  exact ev_bind hp (Ev.now _)
theorem spoilImage_ev (b : List Int) (pos : Int) (w h p : Int) (d : List Int) (hb : Bytes b) (h0 : 0 ≤ pos) (h1 : pos ≤ 100000000) (hd : 1 ≤ d.length) :
    ∃ (w' h' p' : Int) (d' : List Int) (q : Int), d'.length ≤ d.length ∧ pos ≤ q ∧ q ≤ pos + 2 ∧ Ev (fun k => spec_spoilImage.f k b pos w h p d) (w', h', p', d', q) := by
  obtain ⟨v, hv, _, _⟩ := pick_in b pos 40 (by omega) hb h0 (by omega)
  unfold spec_spoilImage.f
  by_cases c0 : v = 0
  · obtain ⟨x, hx, _⟩ := one_in b (pos + 1) [0, 17, wrap64 (w + 1)] (by simp) (by simp) hb (by omega) (by omega)
    exact ⟨x, h, p, d, pos + 1 + 1, by omega, by omega, by omega, ev_bind hv (ev_pos c0 (ev_bind hx (Ev.now _)))⟩
  · by_cases c1 : v = 1
    · exact ⟨w, h, p, d.drop (1 : Int).toNat, pos + 1, by rw [List.length_drop]; omega, by omega, by omega, ev_bind hv (ev_neg c0 (ev_pos c1 (ev_pos (by omega) (Ev.now _))))⟩
    · by_cases c2 : v = 2
      · obtain ⟨x, hx, _⟩ := one_in b (pos + 1) [(-1), 256] (by simp) (by simp) hb (by omega) (by omega)
        exact ⟨w, h, p, d.set (0 : Int).toNat x, pos + 1 + 1, by rw [List.length_set]; omega, by omega, by omega, ev_bind hv (ev_neg c0 (ev_neg c1 (ev_pos c2 (ev_bind hx (ev_pos (by omega) (Ev.now _))))))⟩
      · by_cases c3 : v = 3
        · obtain ⟨x, hx, _⟩ := one_in b (pos + 1) [0, 5] (by simp) (by simp) hb (by omega) (by omega)
          exact ⟨w, h, x, d, pos + 1 + 1, by omega, by omega, by omega, ev_bind hv (ev_neg c0 (ev_neg c1 (ev_neg c2 (ev_pos c3 (ev_bind hx (Ev.now _))))))⟩
        · exact ⟨w, h, p, d, pos + 1, by omega, by omega, by omega, ev_bind hv (ev_neg c0 (ev_neg c1 (ev_neg c2 (ev_neg c3 (Ev.now _)))))⟩
theorem anyImage_ev (b : List Int) (pos : Int) (hb : Bytes b) (h0 : 0 ≤ pos) (h1 : pos ≤ 90000000) :
    ∃ (w h p : Int) (d : List Int) (q : Int), d.length ≤ 1024 ∧ pos ≤ q ∧ q ≤ pos + 3000 ∧ Ev (fun k => spec_anyImage.f k b pos) (w, h, p, d, q) := by
  obtain ⟨p, p1, p2, hp⟩ := anyPlanes_ev b pos hb h0 (by omega)
  obtain ⟨w, h, d, q, _, _, _, _, _, d1, d2, q1, q2, hr⟩ := randomImage_ev b (pos + 1) p hb (by omega) (by omega) ⟨p1, p2⟩
  obtain ⟨w', h', p', d', q', d3, q3, q4, hs⟩ := spoilImage_ev b q w h p d hb (by omega) (by omega) d1
  refine ⟨w', h', p', d', q', by omega, by omega, by omega, ?_⟩
  unfold spec_anyImage.f
  exact ev_bind hp (ev_bind hr (ev_bind hs (Ev.now _)))

/- Two images that are drawn from bytes. -/

theorem copyI_eq (l : List Int) (hl : l.length ≤ 1000000) : spec_copyInts.f l = some l := by
  unfold spec_copyInts.f
  simp only [Option.bind_some]
  rw [if_pos (by simp; omega)]
  simp
theorem twoLoop (b : List Int) (hb : Bytes b) (w h p : Int) (d : List Int) (w' h' p' : Int) : ∀ (m : Nat) (pos : Int) (d' : List Int), 0 ≤ pos → pos + 2 * m ≤ 80000000 → m ≤ 1000 → d'.length ≤ 1024 →
    ∃ (u v s : Int) (e : List Int) (q : Int), e.length ≤ 1024 ∧ pos ≤ q ∧ q ≤ pos + 2 * m + 4000 ∧ Ev (fun k => spec_twoImages.l0 k (m : Int) b pos w h p d w' h' p' d') (w, h, p, d, u, v, s, e, q) := by
  have stop : ∀ (m : Nat) (pos : Int) (d' : List Int), 0 ≤ pos → pos ≤ 80000000 → d'.length ≤ 1024 →
      ∃ (u v s : Int) (e : List Int) (q : Int), e.length ≤ 1024 ∧ pos ≤ q ∧ q ≤ pos + 4000 ∧ Ev (fun k => spec_twoImages.j1 k (m : Int) false b pos w h p d w' h' p' d') (w, h, p, d, u, v, s, e, q) := by
    intro m pos d' h0 h1 hd
    obtain ⟨x, hx, _, _⟩ := pick_in b pos 16 (by omega) hb h0 (by omega)
    by_cases c : x = 0
    · obtain ⟨u, v, s, e, q, he, q1, q2, hq⟩ := anyImage_ev b (pos + 1) hb (by omega) (by omega)
      refine ⟨u, v, s, e, q, he, by omega, by omega, ?_⟩
      refine Ev.step (f := fun k => (spec_reader_pick.f k b pos 16).bind fun bt => if bt.1 = 0 then ((spec_anyImage.f k b bt.2).bind fun z => some (w, h, p, d, z.1, z.2.1, z.2.2.1, z.2.2.2.1, z.2.2.2.2)) else some (w, h, p, d, w', h', p', d', bt.2)) (fun k => ?_) (ev_bind hx (ev_pos c (ev_bind hq (Ev.now _))))
      simp only [spec_twoImages.j1]
      rw [if_neg (by simp)]
    · refine ⟨w', h', p', d', pos + 1, hd, by omega, by omega, ?_⟩
      refine Ev.step (f := fun k => (spec_reader_pick.f k b pos 16).bind fun bt => if bt.1 = 0 then ((spec_anyImage.f k b bt.2).bind fun z => some (w, h, p, d, z.1, z.2.1, z.2.2.1, z.2.2.2.1, z.2.2.2.2)) else some (w, h, p, d, w', h', p', d', bt.2)) (fun k => ?_) (ev_bind hx (ev_neg c (Ev.now _)))
      simp only [spec_twoImages.j1]
      rw [if_neg (by simp)]
  intro m
  induction m with
  | zero =>
    intro pos d' h0 h1 h2 hd
    obtain ⟨u, v, s, e, q, he, q1, q2, hq⟩ := stop 0 pos d' h0 (by omega) hd
    refine ⟨u, v, s, e, q, he, q1, by omega, Ev.step (fun k => ?_) hq⟩
    simp only [spec_twoImages.l0]
    rw [if_neg (by simp)]
  | succ m ih =>
    intro pos d' h0 h1 h2 hd
    by_cases c : (d'.length : Int) > 0
    · obtain ⟨x, hx, x0, x1⟩ := pick_in b pos (d'.length : Int) (by omega) hb h0 (by omega)
      obtain ⟨y, hy, _, _⟩ := pick_in b (pos + 1) 256 (by omega) hb (by omega) (by omega)
      obtain ⟨u, v, s, e, q, he, q1, q2, hq⟩ := ih (pos + 1 + 1) (d'.set x.toNat y) (by omega) (by omega) (by omega) (by rw [List.length_set]; exact hd)
      refine ⟨u, v, s, e, q, he, by omega, by omega, ?_⟩
      have hj : Ev (fun k => spec_twoImages.j1 k ((m + 1 : Nat) : Int) true b pos w h p d w' h' p' d') (w, h, p, d, u, v, s, e, q) := by
        refine Ev.step (f := fun k => (spec_reader_pick.f k b pos (d'.length : Int)).bind fun bt => (spec_reader_pick.f k b bt.2 256).bind fun ct => if 0 ≤ bt.1 then (if bt.1 < (d'.length : Int) then spec_twoImages.l0 k (wrap64 (((m + 1 : Nat) : Int) - 1)) b ct.2 w h p d w' h' p' (d'.set (bt.1 : Int).toNat ct.1) else none) else none) (fun k => ?_) (ev_bind hx (ev_bind hy (ev_pos x0 (ev_pos x1 ?_))))
        · simp only [spec_twoImages.j1]
          rw [if_pos trivial]
        · rw [w64 (x := ((m + 1 : Nat) : Int) - 1) (by omega) (by omega), show ((m + 1 : Nat) : Int) - 1 = (m : Int) by omega]
          exact hq
      refine Ev.step (fun k => ?_) hj
      simp only [spec_twoImages.l0]
      rw [if_pos (by omega), decide_eq_true c]
    · obtain ⟨u, v, s, e, q, he, q1, q2, hq⟩ := stop (m + 1) pos d' h0 (by omega) hd
      refine ⟨u, v, s, e, q, he, q1, by omega, Ev.step (fun k => ?_) hq⟩
      simp only [spec_twoImages.l0]
      rw [if_pos (by omega), decide_eq_false c]
theorem twoImages_ev (b : List Int) (pos : Int) (hb : Bytes b) (h0 : 0 ≤ pos) (h1 : pos ≤ 1000000) :
    ∃ (w h p : Int) (d : List Int) (w' h' p' : Int) (d' : List Int) (q : Int), d.length ≤ 1024 ∧ d'.length ≤ 1024 ∧ pos ≤ q ∧ q ≤ pos + 9000 ∧ Ev (fun k => spec_twoImages.f k b pos) (w, h, p, d, w', h', p', d', q) := by
  obtain ⟨w, h, p, d, q, hd, q1, q2, hi⟩ := anyImage_ev b pos hb h0 (by omega)
  obtain ⟨m, hm, m0, m1⟩ := pick_in b q 6 (by omega) hb (by omega) (by omega)
  obtain ⟨M, rfl⟩ := Int.eq_ofNat_of_zero_le m0
  obtain ⟨u, v, s, e, q', he, q3, q4, hl⟩ := twoLoop b hb w h p d w h p M (q + 1) d (by omega) (by omega) (by omega) hd
  refine ⟨w, h, p, d, u, v, s, e, q', hd, he, by omega, by omega, ?_⟩
  unfold spec_twoImages.f
  exact ev_bind hi (ev_now (copyI_eq d (by omega)) (ev_bind hm hl))

/- Bounds of a region's parts: boxes that hold them. -/

theorem part_cover : ∀ (n a : Nat) (g : Nat → Bool), a + n = 256 → (∀ q, q < a → g q = false) → ∀ q, q < 256 → g q = true → ∃ r ∈ partsS n a g, gridF r q = true := by
  intro n
  induction n with
  | zero => intro a g ha h q hq hg; rw [h q (by omega)] at hg; cases hg
  | succ n ih =>
    intro a g ha h q hq hg
    by_cases c : g a = true
    · have e : partsS (n + 1) a g = runsL (comp g a) :: partsS n (a + 1) (fun q => g q && !(comp g a q)) := by
        conv => lhs; unfold partsS
        rw [if_pos c]
      rw [e]
      cases hc : comp g a q with
      | true => exact ⟨_, List.mem_cons_self, by rw [grid_runs _ _ hq]; exact hc⟩
      | false =>
        obtain ⟨r, hr, hq2⟩ := ih (a + 1) (fun q => g q && !(comp g a q)) (by omega) (fun z hz => by
          by_cases e2 : z = a
          · subst e2
            show (g z && !(comp g z z)) = false
            rw [(comp_iff g z z).2 .here, Bool.not_true, Bool.and_false]
          · show (g z && !(comp g a z)) = false
            rw [h z (by omega), Bool.false_and]) q hq (by show (g q && !(comp g a q)) = true; rw [hg, hc]; rfl)
        exact ⟨r, List.mem_cons_of_mem _ hr, hq2⟩
    · have e : partsS (n + 1) a g = partsS n (a + 1) g := by
        conv => lhs; unfold partsS
        rw [if_neg c]
      rw [e]
      exact ih (a + 1) g (by omega) (fun z hz => by
        by_cases e2 : z = a
        · subst e2; simpa using c
        · exact h z (by omega)) q hq hg
theorem part_some : ∀ (n a : Nat) (g : Nat → Bool), a + n = 256 → ∀ r ∈ partsS n a g, ∃ q, q < 256 ∧ gridF r q = true ∧ g q = true := by
  intro n
  induction n with
  | zero => intro a g _ r hr; cases hr
  | succ n ih =>
    intro a g ha r hr
    unfold partsS at hr
    split at hr
    · rename_i c
      rcases List.mem_cons.1 hr with e | e
      · exact ⟨a, by omega, by rw [e, grid_runs _ _ (by omega)]; exact (comp_iff g a a).2 .here, c⟩
      · obtain ⟨q, h1, h2, h3⟩ := ih _ _ (by omega) r e
        exact ⟨q, h1, h2, by
          have h3' : (g q && !(comp g a q)) = true := h3
          rw [Bool.and_eq_true] at h3'
          exact h3'.1⟩
    · exact ih _ _ (by omega) r hr
theorem left_le : ∀ (l : List Run) (s : Int), leftR l s ≤ s ∧ ∀ r ∈ l, leftR l s ≤ r.f1 := by
  intro l
  induction l with
  | nil => intro s; exact ⟨Int.le_refl _, fun r hr => by cases hr⟩
  | cons x l ih =>
    intro s
    have h := ih (min s x.f1)
    have e : leftR (x :: l) s = leftR l (min s x.f1) := rfl
    rw [e]
    refine ⟨by omega, fun r hr => ?_⟩
    rcases List.mem_cons.1 hr with c | c
    · subst c; omega
    · exact h.2 r c
theorem right_ge : ∀ (l : List Run) (s : Int), s ≤ rightR l s ∧ ∀ r ∈ l, r.f2 ≤ rightR l s := by
  intro l
  induction l with
  | nil => intro s; exact ⟨Int.le_refl _, fun r hr => by cases hr⟩
  | cons x l ih =>
    intro s
    have h := ih (max s x.f2)
    have e : rightR (x :: l) s = rightR l (max s x.f2) := rfl
    rw [e]
    refine ⟨by omega, fun r hr => ?_⟩
    rcases List.mem_cons.1 hr with c | c
    · subst c; omega
    · exact h.2 r c
theorem rows_after : ∀ (l : List Run) (x : Run), validFrom (some x) l = true → ∀ r ∈ l, x.f0 ≤ r.f0 := by
  intro l
  induction l with
  | nil => intro x _ r hr; cases hr
  | cons y l ih =>
    intro x hv r hr
    simp [validFrom] at hv
    have h1 := (runAfter_iff x y).1 hv.1.2
    rcases List.mem_cons.1 hr with c | c
    · subst c; omega
    · have := ih y hv.2 r c; omega
theorem rows_last : ∀ (l : List Run) (p : Option Run), validFrom p l = true → ∀ r ∈ l, r.f0 ≤ (l.getLastD z47).f0 := by
  intro l
  induction l with
  | nil => intro p _ r hr; cases hr
  | cons y l ih =>
    intro p hv r hr
    have hv' : validFrom (some y) l = true := by cases p <;> simp [validFrom] at hv <;> exact hv.2
    cases l with
    | nil =>
      rcases List.mem_cons.1 hr with c | c
      · subst c; exact Int.le_refl _
      · cases c
    | cons x t =>
      have e : ((y :: x :: t).getLastD z47) = ((x :: t).getLastD z47) := by simp [List.getLastD_eq_getLast?]
      rw [e]
      rcases List.mem_cons.1 hr with c | c
      · subst c
        have h1 := rows_after (x :: t) r hv' x (by simp)
        have h2 := ih (some r) hv' x (by simp)
        omega
      · exact ih (some y) hv' r c
theorem bound_box (l : List Run) (hv : validR l = true) (hn : l ≠ []) : boxOk (boundsR l).1 (boundsR l).2.1 (boundsR l).2.2.1 (boundsR l).2.2.2 = true ∧
    ∀ q, gridF l q = true → inBox (boundsR l).1 (boundsR l).2.1 (boundsR l).2.2.1 (boundsR l).2.2.2 (q % 16) (q / 16) = true := by
  have hok := valid_ok hv
  have hl := left_range l hok 16 (by omega) (by omega)
  have hr := right_range l hok 0 (by omega) (by omega)
  have hle := (left_le l 16).2
  have hge := (right_ge l 0).2
  have hlast := rows_last l none hv
  cases l with
  | nil => exact absurd rfl hn
  | cons x t =>
    have hx := (runOK_iff x).1 (hok x (by simp))
    have hhead : ∀ r ∈ x :: t, x.f0 ≤ r.f0 := by
      intro r hr
      rcases List.mem_cons.1 hr with c | c
      · subst c; exact Int.le_refl _
      · exact rows_after t x (by have h := hv; unfold validR at h; simp [validFrom] at h; exact h.2) r c
    have hlm : ((x :: t).getLastD z47) ∈ x :: t := by
      rw [List.getLastD_eq_getLast?, List.getLast?_eq_some_getLast (by simp)]
      exact List.getLast_mem _
    have hlo := (runOK_iff _).1 (hok _ hlm)
    have h1 := hle x (by simp)
    have h2 := hge x (by simp)
    have h3 := hlast x (by simp)
    have hb : boundsR (x :: t) = (leftR (x :: t) 16, x.f0, rightR (x :: t) 0 - leftR (x :: t) 16, ((x :: t).getLastD z47).f0 - x.f0 + 1) := rfl
    rw [hb]
    refine ⟨(boxOk_iff _ _ _ _).2 (by simp only; omega), fun q hq => ?_⟩
    unfold gridF at hq
    rw [List.any_eq_true] at hq
    obtain ⟨r, hr, hi⟩ := hq
    have hi' : r.f0 = ((q / 16 : Nat) : Int) ∧ r.f1 ≤ ((q % 16 : Nat) : Int) ∧ ((q % 16 : Nat) : Int) < r.f2 := by simpa [runIn, and_assoc] using hi
    have k1 := hle r hr
    have k2 := hge r hr
    have k3 := hlast r hr
    have k4 := hhead r hr
    unfold inBox
    simp only [Bool.and_eq_true, decide_eq_true_eq]
    omega
theorem runsL_nil (f : Nat → Bool) (h : ∀ q, q < 256 → f q = false) : runsL f = [] := by
  by_cases c : runsL f = []
  · exact c
  · obtain ⟨r, t, e⟩ := List.exists_cons_of_ne_nil c
    have hr := (runOK_iff r).1 (valid_ok (runs_valid f) r (by rw [e]; simp))
    have hq : r.f0.toNat * 16 + r.f1.toNat < 256 := by omega
    have hg := grid_runs f _ hq
    rw [h _ hq] at hg
    have : gridF (runsL f) (r.f0.toNat * 16 + r.f1.toNat) = true := by
      unfold gridF
      rw [e, List.any_cons]
      have hi : runIn r (r.f0.toNat * 16 + r.f1.toNat) = true := by
        simp [runIn]
        omega
      rw [hi, Bool.true_or]
    rw [this] at hg
    cases hg

/- Two regions combined, as the program and the reference have it. -/

def combV (l m : List Run) (k : Int) : List Run × Bool :=
  if (validR l && validR m && decide (0 ≤ k ∧ k ≤ 3)) = true then (runsL (gso (combG k (gridF l) (gridF m)) 256), true) else ([], false)
theorem impl_CombineRegions_eq (l m : List Run) (k : Int) : impl_CombineRegions.f l m k = some (combV l m k) := rfl
theorem comb_at (k : Int) (g h : Nat → Bool) (p : Nat) (hp : p < 256) : gso (combG k g h) 256 p = combB k (g p) (h p) := by
  rw [gso_at _ _ hp]; unfold combG; rw [show p / 16 * 16 + p % 16 = p by omega]
end Go.Proofs.Ytbgohbinonkhfaa.Pure
