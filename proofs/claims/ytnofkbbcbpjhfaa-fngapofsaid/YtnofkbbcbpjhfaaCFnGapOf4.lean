/- A part of the proof that the statement FnGapOfSaid holds, under no condition of its own: Equal images have no gap: the law FnGapOf over lists of numbers alone. -/
import Derived.Test.YtnofkbbcbpjhfaaCFnGapOf1
import Derived.Test.YtnofkbbcbpjhfaaCFnGapOf3
import Derived.Test.YtnofkbbcbpjhfaaCFnGapOf2
namespace Go.Proofs.Ytnofkbbcbpjhfaa.Q
open Go.RowKit Go.Proofs.YtnofkbbcbpjhfaaW.PrintWords Go.Proofs.YtnofkbbcbpjhfaaW.PrintLast Go.Proofs.YtnofkbbcbpjhfaaW.PrintMore
attribute [local go_sem] max2_int min2_int max_two min_two max_three min_three max_four min_four
set_option linter.unusedVariables false
set_option linter.unusedSimpArgs false
mutual
def spec_twoImages.l0 : Nat → Int → List Int → Int → Int → Int → Int → List Int → Int → Int → Int → List Int → Option (Int × Int × Int × List Int × Int × Int × Int × List Int × Int)
  | 0, _, _, _, _, _, _, _, _, _, _, _ => none
  | k + 1, x6, x1000, x1001, x86011000, x86011001, x86011002, x86011003, x86015000, x86015001, x86015002, x86015003 => if x6 > 0 then (spec_twoImages.j1 k x6 (decide ((x86015003.length : Int) > 0)) x1000 x1001 x86011000 x86011001 x86011002 x86011003 x86015000 x86015001 x86015002 x86015003) else (spec_twoImages.j1 k x6 false x1000 x1001 x86011000 x86011001 x86011002 x86011003 x86015000 x86015001 x86015002 x86015003)
def spec_twoImages.j1 : Nat → Int → Bool → List Int → Int → Int → Int → Int → List Int → Int → Int → Int → List Int → Option (Int × Int × Int × List Int × Int × Int × Int × List Int × Int)
  | 0, _, _, _, _, _, _, _, _, _, _, _, _ => none
  | k + 1, x6, x28, x1000, x1001, x86011000, x86011001, x86011002, x86011003, x86015000, x86015001, x86015002, x86015003 => if x28 = true then ((spec_reader_pick.f k x1000 x1001 (x86015003.length : Int)).bind fun bt86017 => ((spec_reader_pick.f k x1000 bt86017.2 256).bind fun bt86019 => (if 0 ≤ bt86017.1 then (if bt86017.1 < (x86015003.length : Int) then (spec_twoImages.l0 k (wrap64 (x6 - 1)) x1000 bt86019.2 x86011000 x86011001 x86011002 x86011003 x86015000 x86015001 x86015002 (x86015003.set (bt86017.1 : Int).toNat bt86019.1)) else (none)) else (none)))) else ((spec_reader_pick.f k x1000 x1001 16).bind fun bt86022 => (if bt86022.1 = 0 then ((spec_anyImage.f k x1000 bt86022.2).bind fun bt86024 => (some (x86011000, x86011001, x86011002, x86011003, bt86024.1, bt86024.2.1, bt86024.2.2.1, bt86024.2.2.2.1, bt86024.2.2.2.2))) else (some (x86011000, x86011001, x86011002, x86011003, x86015000, x86015001, x86015002, x86015003, bt86022.2))))
end
def spec_twoImages.f (k : Nat) (s0_0 : List Int) (s0_1 : Int) : Option (Int × Int × Int × List Int × Int × Int × Int × List Int × Int) := (spec_anyImage.f k s0_0 s0_1).bind fun bt86003 => ((spec_copyInts.f bt86003.2.2.2.1).bind fun t86011 => ((spec_reader_pick.f k s0_0 bt86003.2.2.2.2 6).bind fun bt86015 => (spec_twoImages.l0 k bt86015.1 s0_0 bt86015.2 bt86003.1 bt86003.2.1 bt86003.2.2.1 bt86003.2.2.2.1 bt86003.1 bt86003.2.1 bt86003.2.2.1 t86011)))
theorem spec_twoImages.mono_l : ∀ k, (∀ y0 y1 y2 y3 y4 y5 y6 y7 y8 y9 y10, LeO (spec_twoImages.l0 k y0 y1 y2 y3 y4 y5 y6 y7 y8 y9 y10) (spec_twoImages.l0 (k + 1) y0 y1 y2 y3 y4 y5 y6 y7 y8 y9 y10)) ∧ (∀ y0 y1 y2 y3 y4 y5 y6 y7 y8 y9 y10 y11, LeO (spec_twoImages.j1 k y0 y1 y2 y3 y4 y5 y6 y7 y8 y9 y10 y11) (spec_twoImages.j1 (k + 1) y0 y1 y2 y3 y4 y5 y6 y7 y8 y9 y10 y11))
  | 0 => ⟨fun _ _ _ _ _ _ _ _ _ _ _ r h => by simp [spec_twoImages.l0] at h, fun _ _ _ _ _ _ _ _ _ _ _ _ r h => by simp [spec_twoImages.j1] at h⟩
  | k + 1 => by
    obtain ⟨ih0, ih1⟩ := spec_twoImages.mono_l k
    refine ⟨?_, ?_⟩
    · intro y0 y1 y2 y3 y4 y5 y6 y7 y8 y9 y10
      unfold spec_twoImages.l0
      repeat' first
      | (with_reducible exact ih0 _ _ _ _ _ _ _ _ _ _ _)
      | (with_reducible exact ih1 _ _ _ _ _ _ _ _ _ _ _ _)
      | (with_reducible exact spec_anyImage.mono _ _ _)
      | (with_reducible exact spec_reader_pick.mono _ _ _ _)
      | (with_reducible exact LeO.refl _)
      | (with_reducible exact LeO.none _)
      | (with_reducible refine LeO.ite ?_ ?_)
      | (with_reducible refine LeO.bind ?_ (fun _ => ?_))
      | exact ih0 _ _ _ _ _ _ _ _ _ _ _
      | exact ih1 _ _ _ _ _ _ _ _ _ _ _ _
      | exact spec_anyImage.mono _ _ _
      | exact spec_reader_pick.mono _ _ _ _
      | exact LeO.none _
      | refine LeO.ite ?_ ?_
      | refine LeO.bind ?_ (fun _ => ?_)
    · intro y0 y1 y2 y3 y4 y5 y6 y7 y8 y9 y10 y11
      unfold spec_twoImages.j1
      repeat' first
      | (with_reducible exact ih0 _ _ _ _ _ _ _ _ _ _ _)
      | (with_reducible exact ih1 _ _ _ _ _ _ _ _ _ _ _ _)
      | (with_reducible exact spec_anyImage.mono _ _ _)
      | (with_reducible exact spec_reader_pick.mono _ _ _ _)
      | (with_reducible exact LeO.refl _)
      | (with_reducible exact LeO.none _)
      | (with_reducible refine LeO.ite ?_ ?_)
      | (with_reducible refine LeO.bind ?_ (fun _ => ?_))
      | exact ih0 _ _ _ _ _ _ _ _ _ _ _
      | exact ih1 _ _ _ _ _ _ _ _ _ _ _ _
      | exact spec_anyImage.mono _ _ _
      | exact spec_reader_pick.mono _ _ _ _
      | exact LeO.none _
      | refine LeO.ite ?_ ?_
      | refine LeO.bind ?_ (fun _ => ?_)
theorem spec_twoImages.mono : ∀ a0 a1 k, LeO (spec_twoImages.f k a0 a1) (spec_twoImages.f (k + 1) a0 a1) := by
  intro a0 a1 k
  obtain ⟨ih0, ih1⟩ := spec_twoImages.mono_l k
  unfold spec_twoImages.f
  repeat' first
      | (with_reducible exact ih0 _ _ _ _ _ _ _ _ _ _ _)
      | (with_reducible exact ih1 _ _ _ _ _ _ _ _ _ _ _ _)
      | (with_reducible exact spec_anyImage.mono _ _ _)
      | (with_reducible exact spec_reader_pick.mono _ _ _ _)
      | (with_reducible exact LeO.refl _)
      | (with_reducible exact LeO.none _)
      | (with_reducible refine LeO.ite ?_ ?_)
      | (with_reducible refine LeO.bind ?_ (fun _ => ?_))
      | exact ih0 _ _ _ _ _ _ _ _ _ _ _
      | exact ih1 _ _ _ _ _ _ _ _ _ _ _ _
      | exact spec_anyImage.mono _ _ _
      | exact spec_reader_pick.mono _ _ _ _
      | exact LeO.none _
      | refine LeO.ite ?_ ?_
      | refine LeO.bind ?_ (fun _ => ?_)
def spec_twoImages.T2 : Bool × List (List Nat × List Nat) := (true, [([], []), ([0], [0]), ([], []), ([2], [2]), ([], []), ([4], [4]), ([], []), ([6], [6]), ([7], [7]), ([1, 3, 5, 8], [1, 3, 5, 8]), ([], []), ([10, 9, 8, 0, 1, 2, 3, 4, 5, 6, 7, 8, 9, 10], [9, 10])])
def spec_twoImages.B2 : List Nat := [0, 1, 0, 4, 0, 16, 0, 64, 192, 511, 0, 2047]
theorem spec_twoImages.tab2 : rtab .any (opsOf Try.f85 2) = spec_twoImages.T2 := by kernel_rfl
theorem spec_twoImages.bits2 : waitsOk spec_twoImages.T2.2 spec_twoImages.B2 = true := by kernel_rfl
def spec_twoImages.T6 : Bool × List (List Nat × List Nat) := (true, [([], []), ([0], [0]), ([], []), ([], []), ([3], [3]), ([4], [4]), ([2, 5], [2, 5]), ([], []), ([7, 6], [7]), ([1, 6, 0, 1, 2, 3, 4, 5, 6, 7, 8], [1, 6]), ([9, 8, 8, 0, 1, 2, 3, 4, 5, 6, 7, 8], [8, 9])])
def spec_twoImages.B6 : List Nat := [0, 1, 0, 0, 8, 24, 60, 0, 252, 511, 1023]
theorem spec_twoImages.tab6 : rtab .any (opsOf Try.f85 6) = spec_twoImages.T6 := by kernel_rfl
theorem spec_twoImages.bits6 : waitsOk spec_twoImages.T6.2 spec_twoImages.B6 = true := by kernel_rfl
set_option maxHeartbeats 8000000 in
set_option maxRecDepth 100000 in
theorem spec_twoImages.calls (k : Nat) (g : Nat) (s0_0 : List Int) (s0_1 : Int) (r1 : Int) (r2 : Int) (r3 : Int) (r4 : List Int) (r5 : Int) (r6 : Int) (r7 : Int) (r8 : List Int) (r9 : Int) (w0 w : World) (hI : IsS144 w0 w g s0_0 s0_1) (hB : Below w0.heap.size w0 w) (h : spec_twoImages.f k s0_0 s0_1 = some (r1, r2, r3, r4, r5, r6, r7, r8, r9)) :
    Calls Try.prog 85 #[.pointer (some ⟨g, 0, none⟩)] w fun e w' => ∃ v3_ v7_ : Value, e = .returned (.tuple #[.agg #[.int .i64 r1, .int .i64 r2, .int .i64 r3, v3_], .agg #[.int .i64 r5, .int .i64 r6, .int .i64 r7, v7_]]) ∧ Kd.Q (Kd.int .i64) 3 w' w.heap.size (fun k_ => some k_ ≠ (v7_ : Value).ownBlock) v3_ r4 ∧ Kd.Q (Kd.int .i64) 3 w' w.heap.size (fun k_ => some k_ ≠ (v3_ : Value).ownBlock) v7_ r8 ∧ IsS144 w0 w' g s0_0 r9 ∧ Below w0.heap.size w0 w' ∧ KeepBut w w' g none := by
  have hu27 := Try.underlying27
  have HI0 := Aside0.mk hI
  have HK := Aside0.mk (KeepBut.refl w g none)
  have HL := Aside0.mk hB.size
  clear hI
  have HW0 := Aside0.mk hB.size
  have HB := Aside0.mk hB
  clear hB
  have H : ((spec_anyImage.f k s0_0 s0_1).bind fun bt86003 => ((spec_copyInts.f bt86003.2.2.2.1).bind fun t86011 => ((spec_reader_pick.f k s0_0 bt86003.2.2.2.2 6).bind fun bt86015 => (spec_twoImages.l0 k bt86015.1 s0_0 bt86015.2 bt86003.1 bt86003.2.1 bt86003.2.2.1 bt86003.2.2.2.1 bt86003.1 bt86003.2.1 bt86003.2.2.1 t86011)))) = some (r1, r2, r3, r4, r5, r6, r7, r8, r9) := h
  clear h
  replace H := Option.bind_eq_some_iff.mp H
  obtain ⟨⟨t86003, t86004, t86005, t86006, t86009⟩, A20, H⟩ := H
  replace H : ((spec_copyInts.f t86006).bind fun t86011 => ((spec_reader_pick.f k s0_0 t86009 6).bind fun bt86015 => (spec_twoImages.l0 k bt86015.1 s0_0 bt86015.2 t86003 t86004 t86005 t86006 t86003 t86004 t86005 t86011))) = some (r1, r2, r3, r4, r5, r6, r7, r8, r9) := H
  have A2 := Aside0.mk A20
  clear A20
  replace H := Option.bind_eq_some_iff.mp H
  obtain ⟨t86011, A30, H⟩ := H
  replace H : ((spec_reader_pick.f k s0_0 t86009 6).bind fun bt86015 => (spec_twoImages.l0 k bt86015.1 s0_0 bt86015.2 t86003 t86004 t86005 t86006 t86003 t86004 t86005 t86011)) = some (r1, r2, r3, r4, r5, r6, r7, r8, r9) := H
  have A3 := Aside0.mk A30
  clear A30
  replace H := Option.bind_eq_some_iff.mp H
  obtain ⟨⟨t86015, t86016⟩, A40, H⟩ := H
  replace H : (spec_twoImages.l0 k t86015 s0_0 t86016 t86003 t86004 t86005 t86006 t86003 t86004 t86005 t86011) = some (r1, r2, r3, r4, r5, r6, r7, r8, r9) := H
  have A4 := Aside0.mk A40
  clear A40
  have H' := Aside0.mk H
  clear H
  go_enter Try.func85, Try.ntmps85
  try go_wp2_with (first | ((with_reducible refine gate_dst (N := 2) rfl ?_); (try (refine gate_guard (by rfl) ?_; dsimp only)); refine box_event ?hg (N := 2) ?hd (cs := #[.int .i64 0, .int .i64 0, .int .i64 0, .slice none 0 0]) (t := 27) ?hr ?_; (case hd => rfl); (case hg => rfl); (case hr => first | (go_simp; done) | (go_simp; rfl)); intro gb86001 hg w5 hbox hb; have n0_ := Aside0.mk (IsS144.below (by repeat (first | (with_reducible first | exact HI0.out | apply IsS144.alloc | apply IsS144.drewN | apply IsS144.drew | apply IsS144.set_1) | exact HI0.out)) hb); have n1_ := Aside0.mk (KeepBut.trans (by repeat (first | (with_reducible first | exact HK.out | apply KeepBut.set_ | apply keep_drewN | apply keep_drew | apply keep_alloc) | exact HK.out)) (KeepBut.of_below hb g none) (.inl rfl)); have n2_ := Aside0.mk (below_step (by repeat (first | (with_reducible first | exact HB.out | apply below_alloc | apply pw_below_drewN | apply below_drew1 | refine below_set ?_ (IsS144.ge HI0.out)) | exact HB.out)) hb); have n3_ := Aside0.mk (hbox); have n4_ := Aside0.mk ((by rw [hg]; exact (keep_size (w := w) (g := g) (row := none) (by repeat (first | (with_reducible first | exact HK.out | apply KeepBut.set_ | apply keep_drewN | apply keep_drew | apply keep_alloc) | exact HK.out))) : w.heap.size ≤ gb86001)); have n5_ := Aside0.mk ((Nat.le_trans HW0.out (by rw [hg]; exact (keep_size (w := w) (g := g) (row := none) (by repeat (first | (with_reducible first | exact HK.out | apply KeepBut.set_ | apply keep_drewN | apply keep_drew | apply keep_alloc) | exact HK.out))) : w.heap.size ≤ gb86001) : w0.heap.size ≤ gb86001)); have n6_ := Aside0.mk ((by rw [hg]; exact Nat.ne_of_lt (IsS144.lt (show IsS144 w0 _ g s0_0 s0_1 from by repeat (first | (with_reducible first | exact HI0.out | apply IsS144.alloc | apply IsS144.drewN | apply IsS144.drew | apply IsS144.set_1) | exact HI0.out))) : g ≠ gb86001)); have n7_ := Aside0.mk ((by rw [hg]; exact Nat.ne_of_gt (IsS144.lt (show IsS144 w0 _ g s0_0 s0_1 from by repeat (first | (with_reducible first | exact HI0.out | apply IsS144.alloc | apply IsS144.drewN | apply IsS144.drew | apply IsS144.set_1) | exact HI0.out))) : gb86001 ≠ g)); clear HI0; clear HK; clear HB; have HI0 := n0_; have HK := n1_; have HB := n2_; have BK86001 := n3_; have GW86001 := n4_; have GE86001 := n5_; have NB0_86001 := n6_; have NB86001_0 := n7_; clear n0_ n1_ n2_ n3_ n4_ n5_ n6_ n7_; clear hb hbox hg) | ((with_reducible refine gate_dst (N := 3) rfl ?_); (try (refine gate_guard (by rfl) ?_; dsimp only)); refine box_event ?hg (N := 3) ?hd (cs := #[.int .i64 0, .int .i64 0, .int .i64 0, .slice none 0 0]) (t := 27) ?hr ?_; (case hd => rfl); (case hg => rfl); (case hr => first | (go_simp; done) | (go_simp; rfl)); intro gb86002 hg w6 hbox hb; have n0_ := Aside0.mk (IsS144.below (by repeat (first | (with_reducible first | exact HI0.out | apply IsS144.alloc | apply IsS144.drewN | apply IsS144.drew | apply IsS144.set_1 | refine IsS144.far ?_ NB0_86001.out _) | exact HI0.out)) hb); have n1_ := Aside0.mk (blk_below (g := gb86001) (o := .cells #[.int .i64 0, .int .i64 0, .int .i64 0, .slice none 0 0] 27 (0, 0)) (by (with_reducible repeat (first | refine blk_drewN ?_ _ | refine blk_drew ?_ | refine blk_alloc ?_ _)); exact BK86001.out) hb); have n2_ := Aside0.mk (KeepBut.trans (by repeat (first | (with_reducible first | exact HK.out | apply KeepBut.set_ | apply keep_drewN | apply keep_drew | apply keep_alloc | refine keep_far ?_ GW86001.out _) | exact HK.out)) (KeepBut.of_below hb g none) (.inl rfl)); have n3_ := Aside0.mk (below_step (by repeat (first | (with_reducible first | exact HB.out | apply below_alloc | apply pw_below_drewN | apply below_drew1 | refine below_set ?_ (IsS144.ge HI0.out) | refine below_set ?_ GE86001.out) | exact HB.out)) hb); have n4_ := Aside0.mk (hbox); have n5_ := Aside0.mk ((by rw [hg]; exact (keep_size (w := w) (g := g) (row := none) (by repeat (first | (with_reducible first | exact HK.out | apply KeepBut.set_ | apply keep_drewN | apply keep_drew | apply keep_alloc | refine keep_far ?_ GW86001.out _) | exact HK.out))) : w.heap.size ≤ gb86002)); have n6_ := Aside0.mk ((Nat.le_trans HW0.out (by rw [hg]; exact (keep_size (w := w) (g := g) (row := none) (by repeat (first | (with_reducible first | exact HK.out | apply KeepBut.set_ | apply keep_drewN | apply keep_drew | apply keep_alloc | refine keep_far ?_ GW86001.out _) | exact HK.out))) : w.heap.size ≤ gb86002) : w0.heap.size ≤ gb86002)); have n7_ := Aside0.mk ((by rw [hg]; exact Nat.ne_of_lt (blk_lt (g := gb86001) (o := .cells #[.int .i64 0, .int .i64 0, .int .i64 0, .slice none 0 0] 27 (0, 0)) (by (with_reducible repeat (first | refine blk_drewN ?_ _ | refine blk_drew ?_ | refine blk_alloc ?_ _)); exact BK86001.out)) : gb86001 ≠ gb86002)); have n8_ := Aside0.mk ((by rw [hg]; exact Nat.ne_of_gt (blk_lt (g := gb86001) (o := .cells #[.int .i64 0, .int .i64 0, .int .i64 0, .slice none 0 0] 27 (0, 0)) (by (with_reducible repeat (first | refine blk_drewN ?_ _ | refine blk_drew ?_ | refine blk_alloc ?_ _)); exact BK86001.out)) : gb86002 ≠ gb86001)); have n9_ := Aside0.mk ((by rw [hg]; exact Nat.ne_of_lt (IsS144.lt (show IsS144 w0 _ g s0_0 s0_1 from by repeat (first | (with_reducible first | exact HI0.out | apply IsS144.alloc | apply IsS144.drewN | apply IsS144.drew | apply IsS144.set_1 | refine IsS144.far ?_ NB0_86001.out _) | exact HI0.out))) : g ≠ gb86002)); have n10_ := Aside0.mk ((by rw [hg]; exact Nat.ne_of_gt (IsS144.lt (show IsS144 w0 _ g s0_0 s0_1 from by repeat (first | (with_reducible first | exact HI0.out | apply IsS144.alloc | apply IsS144.drewN | apply IsS144.drew | apply IsS144.set_1 | refine IsS144.far ?_ NB0_86001.out _) | exact HI0.out))) : gb86002 ≠ g)); clear HI0; clear BK86001; clear HK; clear HB; have HI0 := n0_; have BK86001 := n1_; have HK := n2_; have HB := n3_; have BK86002 := n4_; have GW86002 := n5_; have GE86002 := n6_; have NB86001_86002 := n7_; have NB86002_86001 := n8_; have NB0_86002 := n9_; have NB86002_0 := n10_; clear n0_ n1_ n2_ n3_ n4_ n5_ n6_ n7_ n8_ n9_ n10_; clear hb hbox hg) | ((with_reducible refine gate_callee (f := 94) rfl ?_); refine goesL_ (some 8) rfl rfl Try.func94 (by kernel_rfl) rfl #[.pointer (some ⟨g, 0, none⟩)] rfl (by (try simp only [List.map_toArray, List.map_cons, List.map_nil]); first | done | rfl | (simp only [List.length_drop, List.length_take]; rfl)) ?_; (with_reducible refine (spec_anyImage.calls k g s0_0 s0_1 t86003 t86004 t86005 t86006 t86009 w0 _ ?side1 ?side2 A2.out).mono ?_); (case side1 => repeat (first | (with_reducible first | exact HI0.out | apply IsS144.alloc | apply IsS144.drewN | apply IsS144.drew | apply IsS144.set_1 | refine IsS144.far ?_ NB0_86001.out _ | refine IsS144.far ?_ NB0_86002.out _) | exact HI0.out)); (case side2 => repeat (first | (with_reducible first | exact HB.out | apply below_alloc | apply pw_below_drewN | apply below_drew1 | refine below_set ?_ (IsS144.ge HI0.out) | refine below_set ?_ GE86001.out | refine below_set ?_ GE86002.out) | exact HB.out)); rintro e w7 ⟨v86007, rfl, ho0, hi, hb, hk⟩; refine ⟨_, rfl, ?_⟩; have n0_ := Aside0.mk (KeepBut.blk hk (g' := gb86001) (o := .cells #[.int .i64 0, .int .i64 0, .int .i64 0, .slice none 0 0] 27 (0, 0)) (by (with_reducible repeat (first | refine blk_drewN ?_ _ | refine blk_drew ?_ | refine blk_alloc ?_ _)); exact BK86001.out) NB86001_0.out (by simp)); have n1_ := Aside0.mk (KeepBut.blk hk (g' := gb86002) (o := .cells #[.int .i64 0, .int .i64 0, .int .i64 0, .slice none 0 0] 27 (0, 0)) (by (with_reducible repeat (first | refine blk_drewN ?_ _ | refine blk_drew ?_ | refine blk_alloc ?_ _)); exact BK86002.out) NB86002_0.out (by simp)); have n2_ := Aside0.mk (Kd.Q_lower ho0 (keep_size (w := w) (g := g) (row := none) (by repeat (first | (with_reducible first | exact HK.out | apply KeepBut.set_ | apply keep_drewN | apply keep_drew | apply keep_alloc | refine keep_far ?_ GW86001.out _ | refine keep_far ?_ GW86002.out _) | exact HK.out)))); have n3_ := Aside0.mk (KeepBut.trans (by repeat (first | (with_reducible first | exact HK.out | apply KeepBut.set_ | apply keep_drewN | apply keep_drew | apply keep_alloc | refine keep_far ?_ GW86001.out _ | refine keep_far ?_ GW86002.out _) | exact HK.out)) hk (.inl rfl)); have n4_ := Aside0.mk (hb); have n5_ := Aside0.mk (hi); clear BK86001; clear BK86002; clear HK; clear HB; clear HI0; have BK86001 := n0_; have BK86002 := n1_; have HO86008 := n2_; have HK := n3_; have HB := n4_; have HI0 := n5_; clear n0_ n1_ n2_ n3_ n4_ n5_; (try clear hb); (try clear hb2); (try clear hk); (try clear hi); (try clear ho0)) | ((with_reducible refine gate_dst (N := 4) rfl ?_); (try (refine gate_guard (by rfl) ?_; dsimp only)); refine box_event ?hg (N := 4) ?hd (cs := #[.int .i64 0, .int .i64 0, .int .i64 0, .slice none 0 0]) (t := 27) ?hr ?_; (case hd => rfl); (case hg => rfl); (case hr => first | (go_simp; done) | (go_simp; rfl)); intro gb86010 hg w8 hbox hb; have n0_ := Aside0.mk (Kd.Q_below (by (with_reducible repeat (first | apply Kd.Q_alloc | apply Kd.Q_drewN | apply Kd.Q_drew)); exact HO86008.out) hb); have n1_ := Aside0.mk (IsS144.below (by repeat (first | (with_reducible first | exact HI0.out | apply IsS144.alloc | apply IsS144.drewN | apply IsS144.drew | apply IsS144.set_1 | refine IsS144.far ?_ NB0_86001.out _ | refine IsS144.far ?_ NB0_86002.out _) | exact HI0.out)) hb); have n2_ := Aside0.mk (blk_below (g := gb86001) (o := .cells #[.int .i64 0, .int .i64 0, .int .i64 0, .slice none 0 0] 27 (0, 0)) (by (with_reducible repeat (first | refine blk_drewN ?_ _ | refine blk_drew ?_ | refine blk_alloc ?_ _)); exact BK86001.out) hb); have n3_ := Aside0.mk (blk_below (g := gb86002) (o := .cells #[.int .i64 0, .int .i64 0, .int .i64 0, .slice none 0 0] 27 (0, 0)) (by (with_reducible repeat (first | refine blk_drewN ?_ _ | refine blk_drew ?_ | refine blk_alloc ?_ _)); exact BK86002.out) hb); have n4_ := Aside0.mk (KeepBut.trans (by repeat (first | (with_reducible first | exact HK.out | apply KeepBut.set_ | apply keep_drewN | apply keep_drew | apply keep_alloc | refine keep_far ?_ GW86001.out _ | refine keep_far ?_ GW86002.out _) | exact HK.out)) (KeepBut.of_below hb g none) (.inl rfl)); have n5_ := Aside0.mk (below_step (by repeat (first | (with_reducible first | exact HB.out | apply below_alloc | apply pw_below_drewN | apply below_drew1 | refine below_set ?_ (IsS144.ge HI0.out) | refine below_set ?_ GE86001.out | refine below_set ?_ GE86002.out) | exact HB.out)) hb); have n6_ := Aside0.mk (hbox); have n7_ := Aside0.mk ((by rw [hg]; exact (keep_size (w := w) (g := g) (row := none) (by repeat (first | (with_reducible first | exact HK.out | apply KeepBut.set_ | apply keep_drewN | apply keep_drew | apply keep_alloc | refine keep_far ?_ GW86001.out _ | refine keep_far ?_ GW86002.out _) | exact HK.out))) : w.heap.size ≤ gb86010)); have n8_ := Aside0.mk ((Nat.le_trans HW0.out (by rw [hg]; exact (keep_size (w := w) (g := g) (row := none) (by repeat (first | (with_reducible first | exact HK.out | apply KeepBut.set_ | apply keep_drewN | apply keep_drew | apply keep_alloc | refine keep_far ?_ GW86001.out _ | refine keep_far ?_ GW86002.out _) | exact HK.out))) : w.heap.size ≤ gb86010) : w0.heap.size ≤ gb86010)); have n9_ := Aside0.mk ((by rw [hg]; exact Nat.ne_of_lt (blk_lt (g := gb86001) (o := .cells #[.int .i64 0, .int .i64 0, .int .i64 0, .slice none 0 0] 27 (0, 0)) (by (with_reducible repeat (first | refine blk_drewN ?_ _ | refine blk_drew ?_ | refine blk_alloc ?_ _)); exact BK86001.out)) : gb86001 ≠ gb86010)); have n10_ := Aside0.mk ((by rw [hg]; exact Nat.ne_of_gt (blk_lt (g := gb86001) (o := .cells #[.int .i64 0, .int .i64 0, .int .i64 0, .slice none 0 0] 27 (0, 0)) (by (with_reducible repeat (first | refine blk_drewN ?_ _ | refine blk_drew ?_ | refine blk_alloc ?_ _)); exact BK86001.out)) : gb86010 ≠ gb86001)); have n11_ := Aside0.mk ((by rw [hg]; exact Nat.ne_of_lt (blk_lt (g := gb86002) (o := .cells #[.int .i64 0, .int .i64 0, .int .i64 0, .slice none 0 0] 27 (0, 0)) (by (with_reducible repeat (first | refine blk_drewN ?_ _ | refine blk_drew ?_ | refine blk_alloc ?_ _)); exact BK86002.out)) : gb86002 ≠ gb86010)); have n12_ := Aside0.mk ((by rw [hg]; exact Nat.ne_of_gt (blk_lt (g := gb86002) (o := .cells #[.int .i64 0, .int .i64 0, .int .i64 0, .slice none 0 0] 27 (0, 0)) (by (with_reducible repeat (first | refine blk_drewN ?_ _ | refine blk_drew ?_ | refine blk_alloc ?_ _)); exact BK86002.out)) : gb86010 ≠ gb86002)); have n13_ := Aside0.mk ((by rw [hg]; exact Nat.ne_of_lt (IsS144.lt (show IsS144 w0 _ g s0_0 t86009 from by repeat (first | (with_reducible first | exact HI0.out | apply IsS144.alloc | apply IsS144.drewN | apply IsS144.drew | apply IsS144.set_1 | refine IsS144.far ?_ NB0_86001.out _ | refine IsS144.far ?_ NB0_86002.out _) | exact HI0.out))) : g ≠ gb86010)); have n14_ := Aside0.mk ((by rw [hg]; exact Nat.ne_of_gt (IsS144.lt (show IsS144 w0 _ g s0_0 t86009 from by repeat (first | (with_reducible first | exact HI0.out | apply IsS144.alloc | apply IsS144.drewN | apply IsS144.drew | apply IsS144.set_1 | refine IsS144.far ?_ NB0_86001.out _ | refine IsS144.far ?_ NB0_86002.out _) | exact HI0.out))) : gb86010 ≠ g)); clear HO86008; clear HI0; clear BK86001; clear BK86002; clear HK; clear HB; have HO86008 := n0_; have HI0 := n1_; have BK86001 := n2_; have BK86002 := n3_; have HK := n4_; have HB := n5_; have BK86010 := n6_; have GW86010 := n7_; have GE86010 := n8_; have NB86001_86010 := n9_; have NB86010_86001 := n10_; have NB86002_86010 := n11_; have NB86010_86002 := n12_; have NB0_86010 := n13_; have NB86010_0 := n14_; clear n0_ n1_ n2_ n3_ n4_ n5_ n6_ n7_ n8_ n9_ n10_ n11_ n12_ n13_ n14_; clear hb hbox hg; have hnb9 := NB86010_86001.out; have hnc9 := NB86001_86010.out; have hnb10 := NB86010_86002.out; have hnc10 := NB86002_86010.out; have hnb11 := NB86010_0.out; have hnc11 := NB0_86010.out; have hcz12_0 : w8.cell? ⟨gb86010, 0, none⟩ = some (.int .i64 0) := (blk_cell BK86010.out 0).trans rfl; have hcz12_1 : w8.cell? ⟨gb86010, 1, none⟩ = some (.int .i64 0) := (blk_cell BK86010.out 1).trans rfl; have hcz12_2 : w8.cell? ⟨gb86010, 2, none⟩ = some (.int .i64 0) := (blk_cell BK86010.out 2).trans rfl; have hcz12_3 : w8.cell? ⟨gb86010, 3, none⟩ = some (.slice none 0 0) := (blk_cell BK86010.out 3).trans rfl; have hfz12_0 := blk_frozen BK86010.out 0; have hfz12_1 := blk_frozen BK86010.out 1; have hfz12_2 := blk_frozen BK86010.out 2; have hfz12_3 := blk_frozen BK86010.out 3; obtain ⟨Ao13, co13, eo13, _⟩ := Kd.Q_slice HO86008.out; subst eo13))
  have n0_ : Aside0 (Kd.Q (Kd.int .i64) 3 ((((w8.setCell ⟨gb86010, 0, none⟩ (.int .i64 t86003)).setCell ⟨gb86010, 1, none⟩ (.int .i64 t86004)).setCell ⟨gb86010, 2, none⟩ (.int .i64 t86005)).setCell ⟨gb86010, 3, none⟩ (.slice Ao13 t86006.length co13)) w.heap.size (fun _ => True) (.slice Ao13 t86006.length co13) t86006) := ⟨by (with_reducible repeat (first | apply Kd.Q_alloc | apply Kd.Q_drewN | apply Kd.Q_drew)); exact Kd.Q_mono (Kd.Q_far (p := ⟨gb86010, 3, none⟩) (Kd.Q_far (p := ⟨gb86010, 2, none⟩) (Kd.Q_far (p := ⟨gb86010, 1, none⟩) (Kd.Q_far (p := ⟨gb86010, 0, none⟩) (Kd.Q_types HO86008.out BK86010.out (by decide)) (fun _ hk => hk.2) (.int .i64 t86003)) (fun _ hk => hk.2) (.int .i64 t86004)) (fun _ hk => hk.2) (.int .i64 t86005)) (fun _ hk => hk.2) (.slice Ao13 t86006.length co13)) (fun _ hk => trivial)⟩
  have n1_ : Aside0 (((((w8.setCell ⟨gb86010, 0, none⟩ (.int .i64 t86003)).setCell ⟨gb86010, 1, none⟩ (.int .i64 t86004)).setCell ⟨gb86010, 2, none⟩ (.int .i64 t86005)).setCell ⟨gb86010, 3, none⟩ (.slice Ao13 t86006.length co13)).heap[gb86001]? = some (.cells #[.int .i64 0, .int .i64 0, .int .i64 0, .slice none 0 0] 27 (0, 0))) := ⟨by (with_reducible repeat (first | refine blk_drewN ?_ _ | refine blk_drew ?_ | refine blk_alloc ?_ _)); refine blk_far ?_ NB86001_86010.out _; (with_reducible repeat (first | refine blk_drewN ?_ _ | refine blk_drew ?_ | refine blk_alloc ?_ _)); refine blk_far ?_ NB86001_86010.out _; (with_reducible repeat (first | refine blk_drewN ?_ _ | refine blk_drew ?_ | refine blk_alloc ?_ _)); refine blk_far ?_ NB86001_86010.out _; (with_reducible repeat (first | refine blk_drewN ?_ _ | refine blk_drew ?_ | refine blk_alloc ?_ _)); refine blk_far ?_ NB86001_86010.out _; (with_reducible repeat (first | refine blk_drewN ?_ _ | refine blk_drew ?_ | refine blk_alloc ?_ _)); exact BK86001.out⟩
  have n2_ : Aside0 (((((w8.setCell ⟨gb86010, 0, none⟩ (.int .i64 t86003)).setCell ⟨gb86010, 1, none⟩ (.int .i64 t86004)).setCell ⟨gb86010, 2, none⟩ (.int .i64 t86005)).setCell ⟨gb86010, 3, none⟩ (.slice Ao13 t86006.length co13)).heap[gb86002]? = some (.cells #[.int .i64 0, .int .i64 0, .int .i64 0, .slice none 0 0] 27 (0, 0))) := ⟨by (with_reducible repeat (first | refine blk_drewN ?_ _ | refine blk_drew ?_ | refine blk_alloc ?_ _)); refine blk_far ?_ NB86002_86010.out _; (with_reducible repeat (first | refine blk_drewN ?_ _ | refine blk_drew ?_ | refine blk_alloc ?_ _)); refine blk_far ?_ NB86002_86010.out _; (with_reducible repeat (first | refine blk_drewN ?_ _ | refine blk_drew ?_ | refine blk_alloc ?_ _)); refine blk_far ?_ NB86002_86010.out _; (with_reducible repeat (first | refine blk_drewN ?_ _ | refine blk_drew ?_ | refine blk_alloc ?_ _)); refine blk_far ?_ NB86002_86010.out _; (with_reducible repeat (first | refine blk_drewN ?_ _ | refine blk_drew ?_ | refine blk_alloc ?_ _)); exact BK86002.out⟩
  have n3_ : Aside0 (((((w8.setCell ⟨gb86010, 0, none⟩ (.int .i64 t86003)).setCell ⟨gb86010, 1, none⟩ (.int .i64 t86004)).setCell ⟨gb86010, 2, none⟩ (.int .i64 t86005)).setCell ⟨gb86010, 3, none⟩ (.slice Ao13 t86006.length co13)).heap[gb86010]? = some (.cells #[.int .i64 t86003, .int .i64 t86004, .int .i64 t86005, .slice Ao13 t86006.length co13] 27 (0, 0))) := ⟨by (with_reducible repeat (first | refine blk_drewN ?_ _ | refine blk_drew ?_ | refine blk_alloc ?_ _)); refine blk_put (cs := #[.int .i64 t86003, .int .i64 t86004, .int .i64 t86005, .slice none 0 0]) ?_ 3 _ rfl; (with_reducible repeat (first | refine blk_drewN ?_ _ | refine blk_drew ?_ | refine blk_alloc ?_ _)); refine blk_put (cs := #[.int .i64 t86003, .int .i64 t86004, .int .i64 0, .slice none 0 0]) ?_ 2 _ rfl; (with_reducible repeat (first | refine blk_drewN ?_ _ | refine blk_drew ?_ | refine blk_alloc ?_ _)); refine blk_put (cs := #[.int .i64 t86003, .int .i64 0, .int .i64 0, .slice none 0 0]) ?_ 1 _ rfl; (with_reducible repeat (first | refine blk_drewN ?_ _ | refine blk_drew ?_ | refine blk_alloc ?_ _)); refine blk_put (cs := #[.int .i64 0, .int .i64 0, .int .i64 0, .slice none 0 0]) ?_ 0 _ rfl; (with_reducible repeat (first | refine blk_drewN ?_ _ | refine blk_drew ?_ | refine blk_alloc ?_ _)); exact BK86010.out⟩
  have n4_ : Aside0 (IsS144 w0 ((((w8.setCell ⟨gb86010, 0, none⟩ (.int .i64 t86003)).setCell ⟨gb86010, 1, none⟩ (.int .i64 t86004)).setCell ⟨gb86010, 2, none⟩ (.int .i64 t86005)).setCell ⟨gb86010, 3, none⟩ (.slice Ao13 t86006.length co13)) g s0_0 t86009) := ⟨by repeat (first | (with_reducible first | exact HI0.out | apply IsS144.alloc | apply IsS144.drewN | apply IsS144.drew | apply IsS144.set_1 | refine IsS144.far ?_ NB0_86001.out _ | refine IsS144.far ?_ NB0_86002.out _ | refine IsS144.far ?_ NB0_86010.out _) | exact HI0.out)⟩
  have n5_ : Aside0 (KeepBut w ((((w8.setCell ⟨gb86010, 0, none⟩ (.int .i64 t86003)).setCell ⟨gb86010, 1, none⟩ (.int .i64 t86004)).setCell ⟨gb86010, 2, none⟩ (.int .i64 t86005)).setCell ⟨gb86010, 3, none⟩ (.slice Ao13 t86006.length co13)) g none) := ⟨by repeat (first | (with_reducible first | exact HK.out | apply KeepBut.set_ | apply keep_drewN | apply keep_drew | apply keep_alloc | refine keep_far ?_ GW86001.out _ | refine keep_far ?_ GW86002.out _ | refine keep_far ?_ GW86010.out _) | exact HK.out)⟩
  have n6_ : Aside0 (Below w0.heap.size w0 ((((w8.setCell ⟨gb86010, 0, none⟩ (.int .i64 t86003)).setCell ⟨gb86010, 1, none⟩ (.int .i64 t86004)).setCell ⟨gb86010, 2, none⟩ (.int .i64 t86005)).setCell ⟨gb86010, 3, none⟩ (.slice Ao13 t86006.length co13))) := ⟨by repeat (first | (with_reducible first | exact HB.out | apply below_alloc | apply pw_below_drewN | apply below_drew1 | refine below_set ?_ (IsS144.ge HI0.out) | refine below_set ?_ GE86001.out | refine below_set ?_ GE86002.out | refine below_set ?_ GE86010.out) | exact HB.out)⟩
  (try clear HO86008)
  (try clear BK86001)
  (try clear BK86002)
  (try clear BK86010)
  (try clear HI0)
  (try clear HK)
  (try clear HB)
  generalize ((((w8.setCell ⟨gb86010, 0, none⟩ (.int .i64 t86003)).setCell ⟨gb86010, 1, none⟩ (.int .i64 t86004)).setCell ⟨gb86010, 2, none⟩ (.int .i64 t86005)).setCell ⟨gb86010, 3, none⟩ (.slice Ao13 t86006.length co13)) = w14 at n0_ n1_ n2_ n3_ n4_ n5_ n6_ ⊢
  have HO86008 := n0_
  have BK86001 := n1_
  have BK86002 := n2_
  have BK86010 := n3_
  have HI0 := n4_
  have HK := n5_
  have HB := n6_
  clear n0_ n1_ n2_ n3_ n4_ n5_ n6_
  have n0_ := Aside0.mk (Kd.Q_drew HO86008.out)
  have n1_ := Aside0.mk (blk_drew BK86001.out)
  have n2_ := Aside0.mk (blk_drew BK86002.out)
  have n3_ := Aside0.mk (blk_drew BK86010.out)
  have n4_ := Aside0.mk (IsS144.drew HI0.out)
  have n5_ := Aside0.mk (keep_drew HK.out)
  have n6_ := Aside0.mk (below_drew1 HB.out)
  clear HO86008
  clear BK86001
  clear BK86002
  clear BK86010
  clear HI0
  clear HK
  clear HB
  have HO86008 := n0_
  have BK86001 := n1_
  have BK86002 := n2_
  have BK86010 := n3_
  have HI0 := n4_
  have HK := n5_
  have HB := n6_
  clear n0_ n1_ n2_ n3_ n4_ n5_ n6_
  refine start_ (n := 12) (S := fun w' => w'.cell? ⟨gb86010, 0, none⟩ = some (.int .i64 t86003) ∧ w'.cell? ⟨gb86010, 1, none⟩ = some (.int .i64 t86004) ∧ w'.cell? ⟨gb86010, 2, none⟩ = some (.int .i64 t86005) ∧ w'.cell? ⟨gb86010, 3, none⟩ = some (.slice Ao13 t86006.length co13)) (ds := []) #[false, false, false, false, false, false, false, false, false, false, false, false] (by kernel_rfl) rfl rfl ⟨(blk_cell BK86010.out 0).trans rfl, (blk_cell BK86010.out 1).trans rfl, (blk_cell BK86010.out 2).trans rfl, (blk_cell BK86010.out 3).trans rfl⟩ (fun hHeld => ?_); refine with_tabW spec_twoImages.tab2 spec_twoImages.bits2 (fun HT_ HW_ => ?_)
  generalize w14.drew = w15 at HO86008 BK86001 BK86002 BK86010 HI0 HK HB hHeld ⊢
  refine pure_ (i := 0) (N := some 9) (v := ?_) (a' := ?_) #[true, false, false, false, false, false, false, false, false, false, false, false] rfl rfl (any_of HT_.out (by kernel_rfl)) (fun _ _ _ h => h) (Or.inl ⟨by rfl, ?_⟩) ?_ ?_
  rotate_left
  · intro w'
    go_simp
    with_reducible rfl
  rotate_left
  · simp only [Act.put, List.setIfInBounds_toArray, List.set_cons_zero, List.set_cons_succ, i64_w, i32_w]
    rfl
  refine pure_ (i := 2) (N := some 11) (v := ?_) (a' := ?_) #[true, false, true, false, false, false, false, false, false, false, false, false] rfl rfl (any_of HT_.out (by kernel_rfl)) (fun _ _ _ h => h) (Or.inl ⟨by rfl, ?_⟩) ?_ ?_
  rotate_left
  · intro w'
    go_simp
    with_reducible rfl
  rotate_left
  · simp only [Act.put, List.setIfInBounds_toArray, List.set_cons_zero, List.set_cons_succ, i64_w, i32_w]
    rfl
  refine pure_ (i := 4) (N := some 13) (v := ?_) (a' := ?_) #[true, false, true, false, true, false, false, false, false, false, false, false] rfl rfl (any_of HT_.out (by kernel_rfl)) (fun _ _ _ h => h) (Or.inl ⟨by rfl, ?_⟩) ?_ ?_
  rotate_left
  · intro w'
    go_simp
    with_reducible rfl
  rotate_left
  · simp only [Act.put, List.setIfInBounds_toArray, List.set_cons_zero, List.set_cons_succ, i64_w, i32_w]
    rfl
  refine pure_ (i := 6) (N := some 15) (v := ?_) (a' := ?_) #[true, false, true, false, true, false, true, false, false, false, false, false] rfl rfl (any_of HT_.out (by kernel_rfl)) (fun _ _ _ h => h) (Or.inl ⟨by rfl, ?_⟩) ?_ ?_
  rotate_left
  · intro w'
    go_simp
    with_reducible rfl
  rotate_left
  · simp only [Act.put, List.setIfInBounds_toArray, List.set_cons_zero, List.set_cons_succ, i64_w, i32_w]
    rfl
  refine take_ (i := 1) (N := some 10) (v := ?_) (a' := ?_) #[true, true, true, false, true, false, true, false, false, false, false, false] rfl rfl (take_ofW HT_.out HW_.out (by kernel_rfl)) (fun _ _ _ h => h) (Or.inl ⟨by rfl, ?_⟩) hHeld ?_ ?_
  rotate_left
  · rintro w' ⟨s0, s1, s2, s3⟩
    go_simp
    with_reducible rfl
  rotate_left
  · simp only [Act.put, List.setIfInBounds_toArray, List.set_cons_zero, List.set_cons_succ, i64_w, i32_w]
    rfl
  refine take_ (i := 3) (N := some 12) (v := ?_) (a' := ?_) #[true, true, true, true, true, false, true, false, false, false, false, false] rfl rfl (take_ofW HT_.out HW_.out (by kernel_rfl)) (fun _ _ _ h => h) (Or.inl ⟨by rfl, ?_⟩) hHeld ?_ ?_
  rotate_left
  · rintro w' ⟨s0, s1, s2, s3⟩
    go_simp
    with_reducible rfl
  rotate_left
  · simp only [Act.put, List.setIfInBounds_toArray, List.set_cons_zero, List.set_cons_succ, i64_w, i32_w]
    rfl
  refine take_ (i := 5) (N := some 14) (v := ?_) (a' := ?_) #[true, true, true, true, true, true, true, false, false, false, false, false] rfl rfl (take_ofW HT_.out HW_.out (by kernel_rfl)) (fun _ _ _ h => h) (Or.inl ⟨by rfl, ?_⟩) hHeld ?_ ?_
  rotate_left
  · rintro w' ⟨s0, s1, s2, s3⟩
    go_simp
    with_reducible rfl
  rotate_left
  · simp only [Act.put, List.setIfInBounds_toArray, List.set_cons_zero, List.set_cons_succ, i64_w, i32_w]
    rfl
  refine take_ (i := 7) (N := some 16) (v := ?_) (a' := ?_) #[true, true, true, true, true, true, true, true, false, false, false, false] rfl rfl (take_ofW HT_.out HW_.out (by kernel_rfl)) (fun _ _ _ h => h) (Or.inl ⟨by rfl, ?_⟩) hHeld ?_ ?_
  rotate_left
  · rintro w' ⟨s0, s1, s2, s3⟩
    go_simp
    with_reducible rfl
  rotate_left
  · simp only [Act.put, List.setIfInBounds_toArray, List.set_cons_zero, List.set_cons_succ, i64_w, i32_w]
    rfl
  refine join_ (σ := Value × Nat) 1 #[true, true, true, true, true, true, true, true, true, true, true, false] (fun s_ => [(17, s_.1), (5, .pointer (some ⟨s_.2, 0, none⟩)), (18, .agg #[.int .i64 t86003, .int .i64 t86004, .int .i64 t86005, s_.1])]) (fun s_ w' => (w'.cell? ⟨gb86010, 0, none⟩ = some (.int .i64 t86003) ∧ w'.cell? ⟨gb86010, 1, none⟩ = some (.int .i64 t86004) ∧ w'.cell? ⟨gb86010, 2, none⟩ = some (.int .i64 t86005) ∧ w'.cell? ⟨gb86010, 3, none⟩ = some (.slice Ao13 t86006.length co13)) ∧ (Kd.Q (Kd.int .i64) 3 w' w.heap.size (fun k_ => some k_ ≠ (s_.1 : Value).ownBlock) (.slice Ao13 t86006.length co13) t86006) ∧ (Kd.R (Kd.int .i64) 3 w' w.heap.size (fun k_ => some k_ ≠ (.slice Ao13 t86006.length co13 : Value).ownBlock) s_.1 t86011) ∧ (w'.heap[gb86001]? = some (.cells #[.int .i64 0, .int .i64 0, .int .i64 0, .slice none 0 0] 27 (0, 0))) ∧ (w'.heap[gb86002]? = some (.cells #[.int .i64 0, .int .i64 0, .int .i64 0, .slice none 0 0] 27 (0, 0))) ∧ (w'.heap[gb86010]? = some (.cells #[.int .i64 t86003, .int .i64 t86004, .int .i64 t86005, .slice Ao13 t86006.length co13] 27 (0, 0))) ∧ (w'.heap[s_.2]? = some (.cells #[.int .i64 0, .int .i64 0, .int .i64 0, .slice none 0 0] 27 (0, 0))) ∧ (w.heap.size ≤ s_.2) ∧ (w0.heap.size ≤ s_.2) ∧ (g ≠ s_.2) ∧ (s_.2 ≠ g) ∧ (gb86001 ≠ s_.2) ∧ (s_.2 ≠ gb86001) ∧ (gb86002 ≠ s_.2) ∧ (s_.2 ≠ gb86002) ∧ (gb86010 ≠ s_.2) ∧ (s_.2 ≠ gb86010) ∧ (IsS144 w0 w' g s0_0 t86009) ∧ (KeepBut w w' g none) ∧ (Below w0.heap.size w0 w')) ?_ ?_
  rotate_left
  · intro hCont
    refine two_ (i := 8) (j := 10) (Ni := some 17) (Nj := some 5) #[true, true, true, true, true, true, true, true, true, false, false, false] #[true, true, true, true, true, true, true, true, false, false, true, false] rfl rfl rfl rfl (two_of HT_.out (by kernel_rfl)) (by decide) (by decide) (fun K hK => ?_) (fun K hK => ?_)
    · skip
      refine goes_ Try.func129 (by kernel_rfl) rfl #[.slice Ao13 t86006.length co13] (by rfl) rfl rfl (by (try simp only [List.map_toArray, List.map_cons, List.map_nil]); first | done | rfl | (simp only [List.length_drop, List.length_take]; rfl)) ?_
      with_reducible refine (spec_copyInts.calls _ _ t86006 t86011 _ ?side1 ?side2 A3.out).mono ?_
      (case side1 => repeat (first | exact (Kd.Q_reads' HO86008.out).2.2 | (with_reducible refine Kd.C_alloc ?_ _) | (with_reducible refine Kd.C_drewN ?_ _) | (with_reducible refine Kd.C_drew ?_)))
      (case side2 => exact (Kd.Q_reads' HO86008.out).2.1)
      rintro e w16 ⟨v86012, rfl, ho0, hb⟩
      refine ⟨_, rfl, ?_⟩
      have n0_ := Aside0.mk (Kd.Q_elder' (by (with_reducible repeat (first | apply Kd.Q_alloc | apply Kd.Q_drewN | apply Kd.Q_drew)); exact HO86008.out) (Kd.R_base ho0) hb)
      have n1_ := Aside0.mk (Kd.R_lower (Kd.R_new' ho0 (Kd.Q_lt (by (with_reducible repeat (first | apply Kd.Q_alloc | apply Kd.Q_drewN | apply Kd.Q_drew)); exact HO86008.out))) (keep_size (w := w) (g := g) (row := none) (by repeat (first | (with_reducible first | exact HK.out | apply KeepBut.set_ | apply keep_drewN | apply keep_drew | apply keep_alloc | refine keep_far ?_ GW86001.out _ | refine keep_far ?_ GW86002.out _ | refine keep_far ?_ GW86010.out _) | exact HK.out))))
      have n2_ := Aside0.mk (IsS144.below (by repeat (first | (with_reducible first | exact HI0.out | apply IsS144.alloc | apply IsS144.drewN | apply IsS144.drew | apply IsS144.set_1 | refine IsS144.far ?_ NB0_86001.out _ | refine IsS144.far ?_ NB0_86002.out _ | refine IsS144.far ?_ NB0_86010.out _) | exact HI0.out)) hb)
      have n3_ := Aside0.mk (blk_below (g := gb86001) (o := .cells #[.int .i64 0, .int .i64 0, .int .i64 0, .slice none 0 0] 27 (0, 0)) (by (with_reducible repeat (first | refine blk_drewN ?_ _ | refine blk_drew ?_ | refine blk_alloc ?_ _)); exact BK86001.out) hb)
      have n4_ := Aside0.mk (blk_below (g := gb86002) (o := .cells #[.int .i64 0, .int .i64 0, .int .i64 0, .slice none 0 0] 27 (0, 0)) (by (with_reducible repeat (first | refine blk_drewN ?_ _ | refine blk_drew ?_ | refine blk_alloc ?_ _)); exact BK86002.out) hb)
      have n5_ := Aside0.mk (blk_below (g := gb86010) (o := .cells #[.int .i64 t86003, .int .i64 t86004, .int .i64 t86005, .slice Ao13 t86006.length co13] 27 (0, 0)) (by (with_reducible repeat (first | refine blk_drewN ?_ _ | refine blk_drew ?_ | refine blk_alloc ?_ _)); exact BK86010.out) hb)
      have n6_ := Aside0.mk (KeepBut.trans (by repeat (first | (with_reducible first | exact HK.out | apply KeepBut.set_ | apply keep_drewN | apply keep_drew | apply keep_alloc | refine keep_far ?_ GW86001.out _ | refine keep_far ?_ GW86002.out _ | refine keep_far ?_ GW86010.out _) | exact HK.out)) (KeepBut.of_below hb g none) (.inl rfl))
      have n7_ := Aside0.mk (below_step (by repeat (first | (with_reducible first | exact HB.out | apply below_alloc | apply pw_below_drewN | apply below_drew1 | refine below_set ?_ (IsS144.ge HI0.out) | refine below_set ?_ GE86001.out | refine below_set ?_ GE86002.out | refine below_set ?_ GE86010.out) | exact HB.out)) hb)
      clear HO86008
      clear HI0
      clear BK86001
      clear BK86002
      clear BK86010
      clear HK
      clear HB
      have HO86008 := n0_
      have HO86013 := n1_
      have HI0 := n2_
      have BK86001 := n3_
      have BK86002 := n4_
      have BK86010 := n5_
      have HK := n6_
      have HB := n7_
      clear n0_ n1_ n2_ n3_ n4_ n5_ n6_ n7_
      (try clear hb)
      (try clear hb2)
      (try clear hk)
      (try clear hi)
      (try clear ho0)
      obtain ⟨Ao17, co17, eo17⟩ := Kd.R_slice HO86013.out
      (first | subst eo17 | (injection eo17 with f1_ f2_ f3_; have f4_ := f1_.symm; have f5_ := f3_.symm; clear f1_ f2_ f3_; subst f4_; subst f5_))
      refine hK.out _ _ ⟨(blk_cell BK86010.out 0).trans rfl, (blk_cell BK86010.out 1).trans rfl, (blk_cell BK86010.out 2).trans rfl, (blk_cell BK86010.out 3).trans rfl⟩ (fun hHeld => ?_)
      clear hK K
      refine norm_ (a' := ?_) ?_ ?_
      rotate_left
      · show Act.put _ (some 17) _ = _
        simp only [Act.put, List.setIfInBounds_toArray, List.set_cons_zero, List.set_cons_succ, i64_w, i32_w]
        rfl
      refine pure_ (i := 9) (N := some 18) (v := ?_) (a' := ?_) #[true, true, true, true, true, true, true, true, true, true, false, false] rfl rfl (any_of HT_.out (by kernel_rfl)) (fun _ _ _ h => h) (Or.inl ⟨by rfl, ?_⟩) ?_ ?_
      rotate_left
      · intro w'
        go_simp
        with_reducible rfl
      rotate_left
      · simp only [Act.put, List.setIfInBounds_toArray, List.set_cons_zero, List.set_cons_succ, i64_w, i32_w]
        rfl
      refine one_ (i := 10) (N := some 5) #[true, true, true, true, true, true, true, true, true, true, true, false] rfl rfl (one_of HT_.out (by kernel_rfl)) (by decide) (fun K hK => ?_)
      refine box_step ?hg (N := 5) ?hd (cs := #[.int .i64 0, .int .i64 0, .int .i64 0, .slice none 0 0]) (t := 27) ?hr ?_; (case hd => rfl); (case hg => rfl); (case hr => first | (go_simp; done) | (go_simp; rfl))
      intro gb86014 hg w18 hbox hb
      have n0_ := Aside0.mk (Kd.Q_below (by (with_reducible repeat (first | apply Kd.Q_alloc | apply Kd.Q_drewN | apply Kd.Q_drew)); exact HO86008.out) hb)
      have n1_ := Aside0.mk (Kd.R_below (by (with_reducible repeat (first | apply Kd.R_alloc | apply Kd.R_drewN | apply Kd.R_drew)); exact HO86013.out) hb)
      have n2_ := Aside0.mk (IsS144.below (by repeat (first | (with_reducible first | exact HI0.out | apply IsS144.alloc | apply IsS144.drewN | apply IsS144.drew | apply IsS144.set_1 | refine IsS144.far ?_ NB0_86001.out _ | refine IsS144.far ?_ NB0_86002.out _ | refine IsS144.far ?_ NB0_86010.out _) | exact HI0.out)) hb)
      have n3_ := Aside0.mk (blk_below (g := gb86001) (o := .cells #[.int .i64 0, .int .i64 0, .int .i64 0, .slice none 0 0] 27 (0, 0)) (by (with_reducible repeat (first | refine blk_drewN ?_ _ | refine blk_drew ?_ | refine blk_alloc ?_ _)); exact BK86001.out) hb)
      have n4_ := Aside0.mk (blk_below (g := gb86002) (o := .cells #[.int .i64 0, .int .i64 0, .int .i64 0, .slice none 0 0] 27 (0, 0)) (by (with_reducible repeat (first | refine blk_drewN ?_ _ | refine blk_drew ?_ | refine blk_alloc ?_ _)); exact BK86002.out) hb)
      have n5_ := Aside0.mk (blk_below (g := gb86010) (o := .cells #[.int .i64 t86003, .int .i64 t86004, .int .i64 t86005, .slice Ao13 t86006.length co13] 27 (0, 0)) (by (with_reducible repeat (first | refine blk_drewN ?_ _ | refine blk_drew ?_ | refine blk_alloc ?_ _)); exact BK86010.out) hb)
      have n6_ := Aside0.mk (KeepBut.trans (by repeat (first | (with_reducible first | exact HK.out | apply KeepBut.set_ | apply keep_drewN | apply keep_drew | apply keep_alloc | refine keep_far ?_ GW86001.out _ | refine keep_far ?_ GW86002.out _ | refine keep_far ?_ GW86010.out _) | exact HK.out)) (KeepBut.of_below hb g none) (.inl rfl))
      have n7_ := Aside0.mk (below_step (by repeat (first | (with_reducible first | exact HB.out | apply below_alloc | apply pw_below_drewN | apply below_drew1 | refine below_set ?_ (IsS144.ge HI0.out) | refine below_set ?_ GE86001.out | refine below_set ?_ GE86002.out | refine below_set ?_ GE86010.out) | exact HB.out)) hb)
      have n8_ := Aside0.mk (hbox)
      have n9_ := Aside0.mk ((by rw [hg]; exact (keep_size (w := w) (g := g) (row := none) (by repeat (first | (with_reducible first | exact HK.out | apply KeepBut.set_ | apply keep_drewN | apply keep_drew | apply keep_alloc | refine keep_far ?_ GW86001.out _ | refine keep_far ?_ GW86002.out _ | refine keep_far ?_ GW86010.out _) | exact HK.out))) : w.heap.size ≤ gb86014))
      have n10_ := Aside0.mk ((Nat.le_trans HW0.out (by rw [hg]; exact (keep_size (w := w) (g := g) (row := none) (by repeat (first | (with_reducible first | exact HK.out | apply KeepBut.set_ | apply keep_drewN | apply keep_drew | apply keep_alloc | refine keep_far ?_ GW86001.out _ | refine keep_far ?_ GW86002.out _ | refine keep_far ?_ GW86010.out _) | exact HK.out))) : w.heap.size ≤ gb86014) : w0.heap.size ≤ gb86014))
      have n11_ := Aside0.mk ((by rw [hg]; exact Nat.ne_of_lt (blk_lt (g := gb86001) (o := .cells #[.int .i64 0, .int .i64 0, .int .i64 0, .slice none 0 0] 27 (0, 0)) (by (with_reducible repeat (first | refine blk_drewN ?_ _ | refine blk_drew ?_ | refine blk_alloc ?_ _)); exact BK86001.out)) : gb86001 ≠ gb86014))
      have n12_ := Aside0.mk ((by rw [hg]; exact Nat.ne_of_gt (blk_lt (g := gb86001) (o := .cells #[.int .i64 0, .int .i64 0, .int .i64 0, .slice none 0 0] 27 (0, 0)) (by (with_reducible repeat (first | refine blk_drewN ?_ _ | refine blk_drew ?_ | refine blk_alloc ?_ _)); exact BK86001.out)) : gb86014 ≠ gb86001))
      have n13_ := Aside0.mk ((by rw [hg]; exact Nat.ne_of_lt (blk_lt (g := gb86002) (o := .cells #[.int .i64 0, .int .i64 0, .int .i64 0, .slice none 0 0] 27 (0, 0)) (by (with_reducible repeat (first | refine blk_drewN ?_ _ | refine blk_drew ?_ | refine blk_alloc ?_ _)); exact BK86002.out)) : gb86002 ≠ gb86014))
      have n14_ := Aside0.mk ((by rw [hg]; exact Nat.ne_of_gt (blk_lt (g := gb86002) (o := .cells #[.int .i64 0, .int .i64 0, .int .i64 0, .slice none 0 0] 27 (0, 0)) (by (with_reducible repeat (first | refine blk_drewN ?_ _ | refine blk_drew ?_ | refine blk_alloc ?_ _)); exact BK86002.out)) : gb86014 ≠ gb86002))
      have n15_ := Aside0.mk ((by rw [hg]; exact Nat.ne_of_lt (blk_lt (g := gb86010) (o := .cells #[.int .i64 t86003, .int .i64 t86004, .int .i64 t86005, .slice Ao13 t86006.length co13] 27 (0, 0)) (by (with_reducible repeat (first | refine blk_drewN ?_ _ | refine blk_drew ?_ | refine blk_alloc ?_ _)); exact BK86010.out)) : gb86010 ≠ gb86014))
      have n16_ := Aside0.mk ((by rw [hg]; exact Nat.ne_of_gt (blk_lt (g := gb86010) (o := .cells #[.int .i64 t86003, .int .i64 t86004, .int .i64 t86005, .slice Ao13 t86006.length co13] 27 (0, 0)) (by (with_reducible repeat (first | refine blk_drewN ?_ _ | refine blk_drew ?_ | refine blk_alloc ?_ _)); exact BK86010.out)) : gb86014 ≠ gb86010))
      have n17_ := Aside0.mk ((by rw [hg]; exact Nat.ne_of_lt (IsS144.lt (show IsS144 w0 _ g s0_0 t86009 from by repeat (first | (with_reducible first | exact HI0.out | apply IsS144.alloc | apply IsS144.drewN | apply IsS144.drew | apply IsS144.set_1 | refine IsS144.far ?_ NB0_86001.out _ | refine IsS144.far ?_ NB0_86002.out _ | refine IsS144.far ?_ NB0_86010.out _) | exact HI0.out))) : g ≠ gb86014))
      have n18_ := Aside0.mk ((by rw [hg]; exact Nat.ne_of_gt (IsS144.lt (show IsS144 w0 _ g s0_0 t86009 from by repeat (first | (with_reducible first | exact HI0.out | apply IsS144.alloc | apply IsS144.drewN | apply IsS144.drew | apply IsS144.set_1 | refine IsS144.far ?_ NB0_86001.out _ | refine IsS144.far ?_ NB0_86002.out _ | refine IsS144.far ?_ NB0_86010.out _) | exact HI0.out))) : gb86014 ≠ g))
      clear HO86008
      clear HO86013
      clear HI0
      clear BK86001
      clear BK86002
      clear BK86010
      clear HK
      clear HB
      have HO86008 := n0_
      have HO86013 := n1_
      have HI0 := n2_
      have BK86001 := n3_
      have BK86002 := n4_
      have BK86010 := n5_
      have HK := n6_
      have HB := n7_
      have BK86014 := n8_
      have GW86014 := n9_
      have GE86014 := n10_
      have NB86001_86014 := n11_
      have NB86014_86001 := n12_
      have NB86002_86014 := n13_
      have NB86014_86002 := n14_
      have NB86010_86014 := n15_
      have NB86014_86010 := n16_
      have NB0_86014 := n17_
      have NB86014_0 := n18_
      clear n0_ n1_ n2_ n3_ n4_ n5_ n6_ n7_ n8_ n9_ n10_ n11_ n12_ n13_ n14_ n15_ n16_ n17_ n18_
      clear hb hbox hg
      refine hK.out _ _ ⟨(blk_cell BK86010.out 0).trans rfl, (blk_cell BK86010.out 1).trans rfl, (blk_cell BK86010.out 2).trans rfl, (blk_cell BK86010.out 3).trans rfl⟩ (fun hHeld => ?_)
      clear hK K
      refine norm_ (a' := ?_) ?_ ?_
      rotate_left
      · show Act.put _ (some 5) _ = _
        simp only [Act.put, List.setIfInBounds_toArray, List.set_cons_zero, List.set_cons_succ, i64_w, i32_w]
        rfl
      exact norm_ (by simp only [putAll, Act.put, List.setIfInBounds_toArray, List.set_cons_zero, List.set_cons_succ]) (hCont (.slice Ao17 t86011.length co17, gb86014) _ ⟨hHeld, (by (with_reducible repeat (first | apply Kd.Q_alloc | apply Kd.Q_drewN | apply Kd.Q_drew)); exact Kd.Q_mono HO86008.out (fun _ hk => hk.2)), (by (with_reducible repeat (first | apply Kd.R_alloc | apply Kd.R_drewN | apply Kd.R_drew)); exact Kd.R_mono HO86013.out (fun _ hk => hk.2)), (by (with_reducible repeat (first | refine blk_drewN ?_ _ | refine blk_drew ?_ | refine blk_alloc ?_ _)); exact BK86001.out), (by (with_reducible repeat (first | refine blk_drewN ?_ _ | refine blk_drew ?_ | refine blk_alloc ?_ _)); exact BK86002.out), (by (with_reducible repeat (first | refine blk_drewN ?_ _ | refine blk_drew ?_ | refine blk_alloc ?_ _)); exact BK86010.out), (by (with_reducible repeat (first | refine blk_drewN ?_ _ | refine blk_drew ?_ | refine blk_alloc ?_ _)); exact BK86014.out), GW86014.out, GE86014.out, NB0_86014.out, NB86014_0.out, NB86001_86014.out, NB86014_86001.out, NB86002_86014.out, NB86014_86002.out, NB86010_86014.out, NB86014_86010.out, (by repeat (first | (with_reducible first | exact HI0.out | apply IsS144.alloc | apply IsS144.drewN | apply IsS144.drew | apply IsS144.set_1 | refine IsS144.far ?_ NB0_86001.out _ | refine IsS144.far ?_ NB0_86002.out _ | refine IsS144.far ?_ NB0_86010.out _ | refine IsS144.far ?_ NB0_86014.out _) | exact HI0.out)), (by repeat (first | (with_reducible first | exact HK.out | apply KeepBut.set_ | apply keep_drewN | apply keep_drew | apply keep_alloc | refine keep_far ?_ GW86001.out _ | refine keep_far ?_ GW86002.out _ | refine keep_far ?_ GW86010.out _ | refine keep_far ?_ GW86014.out _) | exact HK.out)), (by repeat (first | (with_reducible first | exact HB.out | apply below_alloc | apply pw_below_drewN | apply below_drew1 | refine below_set ?_ (IsS144.ge HI0.out) | refine below_set ?_ GE86001.out | refine below_set ?_ GE86002.out | refine below_set ?_ GE86010.out | refine below_set ?_ GE86014.out) | exact HB.out))⟩)
    · skip
      refine box_step ?hg (N := 5) ?hd (cs := #[.int .i64 0, .int .i64 0, .int .i64 0, .slice none 0 0]) (t := 27) ?hr ?_; (case hd => rfl); (case hg => rfl); (case hr => first | (go_simp; done) | (go_simp; rfl))
      intro gb86014 hg w16 hbox hb
      have n0_ := Aside0.mk (Kd.Q_below (by (with_reducible repeat (first | apply Kd.Q_alloc | apply Kd.Q_drewN | apply Kd.Q_drew)); exact HO86008.out) hb)
      have n1_ := Aside0.mk (IsS144.below (by repeat (first | (with_reducible first | exact HI0.out | apply IsS144.alloc | apply IsS144.drewN | apply IsS144.drew | apply IsS144.set_1 | refine IsS144.far ?_ NB0_86001.out _ | refine IsS144.far ?_ NB0_86002.out _ | refine IsS144.far ?_ NB0_86010.out _) | exact HI0.out)) hb)
      have n2_ := Aside0.mk (blk_below (g := gb86001) (o := .cells #[.int .i64 0, .int .i64 0, .int .i64 0, .slice none 0 0] 27 (0, 0)) (by (with_reducible repeat (first | refine blk_drewN ?_ _ | refine blk_drew ?_ | refine blk_alloc ?_ _)); exact BK86001.out) hb)
      have n3_ := Aside0.mk (blk_below (g := gb86002) (o := .cells #[.int .i64 0, .int .i64 0, .int .i64 0, .slice none 0 0] 27 (0, 0)) (by (with_reducible repeat (first | refine blk_drewN ?_ _ | refine blk_drew ?_ | refine blk_alloc ?_ _)); exact BK86002.out) hb)
      have n4_ := Aside0.mk (blk_below (g := gb86010) (o := .cells #[.int .i64 t86003, .int .i64 t86004, .int .i64 t86005, .slice Ao13 t86006.length co13] 27 (0, 0)) (by (with_reducible repeat (first | refine blk_drewN ?_ _ | refine blk_drew ?_ | refine blk_alloc ?_ _)); exact BK86010.out) hb)
      have n5_ := Aside0.mk (KeepBut.trans (by repeat (first | (with_reducible first | exact HK.out | apply KeepBut.set_ | apply keep_drewN | apply keep_drew | apply keep_alloc | refine keep_far ?_ GW86001.out _ | refine keep_far ?_ GW86002.out _ | refine keep_far ?_ GW86010.out _) | exact HK.out)) (KeepBut.of_below hb g none) (.inl rfl))
      have n6_ := Aside0.mk (below_step (by repeat (first | (with_reducible first | exact HB.out | apply below_alloc | apply pw_below_drewN | apply below_drew1 | refine below_set ?_ (IsS144.ge HI0.out) | refine below_set ?_ GE86001.out | refine below_set ?_ GE86002.out | refine below_set ?_ GE86010.out) | exact HB.out)) hb)
      have n7_ := Aside0.mk (hbox)
      have n8_ := Aside0.mk ((by rw [hg]; exact (keep_size (w := w) (g := g) (row := none) (by repeat (first | (with_reducible first | exact HK.out | apply KeepBut.set_ | apply keep_drewN | apply keep_drew | apply keep_alloc | refine keep_far ?_ GW86001.out _ | refine keep_far ?_ GW86002.out _ | refine keep_far ?_ GW86010.out _) | exact HK.out))) : w.heap.size ≤ gb86014))
      have n9_ := Aside0.mk ((Nat.le_trans HW0.out (by rw [hg]; exact (keep_size (w := w) (g := g) (row := none) (by repeat (first | (with_reducible first | exact HK.out | apply KeepBut.set_ | apply keep_drewN | apply keep_drew | apply keep_alloc | refine keep_far ?_ GW86001.out _ | refine keep_far ?_ GW86002.out _ | refine keep_far ?_ GW86010.out _) | exact HK.out))) : w.heap.size ≤ gb86014) : w0.heap.size ≤ gb86014))
      have n10_ := Aside0.mk ((by rw [hg]; exact Nat.ne_of_lt (blk_lt (g := gb86001) (o := .cells #[.int .i64 0, .int .i64 0, .int .i64 0, .slice none 0 0] 27 (0, 0)) (by (with_reducible repeat (first | refine blk_drewN ?_ _ | refine blk_drew ?_ | refine blk_alloc ?_ _)); exact BK86001.out)) : gb86001 ≠ gb86014))
      have n11_ := Aside0.mk ((by rw [hg]; exact Nat.ne_of_gt (blk_lt (g := gb86001) (o := .cells #[.int .i64 0, .int .i64 0, .int .i64 0, .slice none 0 0] 27 (0, 0)) (by (with_reducible repeat (first | refine blk_drewN ?_ _ | refine blk_drew ?_ | refine blk_alloc ?_ _)); exact BK86001.out)) : gb86014 ≠ gb86001))
      have n12_ := Aside0.mk ((by rw [hg]; exact Nat.ne_of_lt (blk_lt (g := gb86002) (o := .cells #[.int .i64 0, .int .i64 0, .int .i64 0, .slice none 0 0] 27 (0, 0)) (by (with_reducible repeat (first | refine blk_drewN ?_ _ | refine blk_drew ?_ | refine blk_alloc ?_ _)); exact BK86002.out)) : gb86002 ≠ gb86014))
      have n13_ := Aside0.mk ((by rw [hg]; exact Nat.ne_of_gt (blk_lt (g := gb86002) (o := .cells #[.int .i64 0, .int .i64 0, .int .i64 0, .slice none 0 0] 27 (0, 0)) (by (with_reducible repeat (first | refine blk_drewN ?_ _ | refine blk_drew ?_ | refine blk_alloc ?_ _)); exact BK86002.out)) : gb86014 ≠ gb86002))
      have n14_ := Aside0.mk ((by rw [hg]; exact Nat.ne_of_lt (blk_lt (g := gb86010) (o := .cells #[.int .i64 t86003, .int .i64 t86004, .int .i64 t86005, .slice Ao13 t86006.length co13] 27 (0, 0)) (by (with_reducible repeat (first | refine blk_drewN ?_ _ | refine blk_drew ?_ | refine blk_alloc ?_ _)); exact BK86010.out)) : gb86010 ≠ gb86014))
      have n15_ := Aside0.mk ((by rw [hg]; exact Nat.ne_of_gt (blk_lt (g := gb86010) (o := .cells #[.int .i64 t86003, .int .i64 t86004, .int .i64 t86005, .slice Ao13 t86006.length co13] 27 (0, 0)) (by (with_reducible repeat (first | refine blk_drewN ?_ _ | refine blk_drew ?_ | refine blk_alloc ?_ _)); exact BK86010.out)) : gb86014 ≠ gb86010))
      have n16_ := Aside0.mk ((by rw [hg]; exact Nat.ne_of_lt (IsS144.lt (show IsS144 w0 _ g s0_0 t86009 from by repeat (first | (with_reducible first | exact HI0.out | apply IsS144.alloc | apply IsS144.drewN | apply IsS144.drew | apply IsS144.set_1 | refine IsS144.far ?_ NB0_86001.out _ | refine IsS144.far ?_ NB0_86002.out _ | refine IsS144.far ?_ NB0_86010.out _) | exact HI0.out))) : g ≠ gb86014))
      have n17_ := Aside0.mk ((by rw [hg]; exact Nat.ne_of_gt (IsS144.lt (show IsS144 w0 _ g s0_0 t86009 from by repeat (first | (with_reducible first | exact HI0.out | apply IsS144.alloc | apply IsS144.drewN | apply IsS144.drew | apply IsS144.set_1 | refine IsS144.far ?_ NB0_86001.out _ | refine IsS144.far ?_ NB0_86002.out _ | refine IsS144.far ?_ NB0_86010.out _) | exact HI0.out))) : gb86014 ≠ g))
      clear HO86008
      clear HI0
      clear BK86001
      clear BK86002
      clear BK86010
      clear HK
      clear HB
      have HO86008 := n0_
      have HI0 := n1_
      have BK86001 := n2_
      have BK86002 := n3_
      have BK86010 := n4_
      have HK := n5_
      have HB := n6_
      have BK86014 := n7_
      have GW86014 := n8_
      have GE86014 := n9_
      have NB86001_86014 := n10_
      have NB86014_86001 := n11_
      have NB86002_86014 := n12_
      have NB86014_86002 := n13_
      have NB86010_86014 := n14_
      have NB86014_86010 := n15_
      have NB0_86014 := n16_
      have NB86014_0 := n17_
      clear n0_ n1_ n2_ n3_ n4_ n5_ n6_ n7_ n8_ n9_ n10_ n11_ n12_ n13_ n14_ n15_ n16_ n17_
      clear hb hbox hg
      refine hK.out _ _ ⟨(blk_cell BK86010.out 0).trans rfl, (blk_cell BK86010.out 1).trans rfl, (blk_cell BK86010.out 2).trans rfl, (blk_cell BK86010.out 3).trans rfl⟩ (fun hHeld => ?_)
      clear hK K
      refine norm_ (a' := ?_) ?_ ?_
      rotate_left
      · show Act.put _ (some 5) _ = _
        simp only [Act.put, List.setIfInBounds_toArray, List.set_cons_zero, List.set_cons_succ, i64_w, i32_w]
        rfl
      refine one_ (i := 8) (N := some 17) #[true, true, true, true, true, true, true, true, true, false, true, false] rfl rfl (one_of HT_.out (by kernel_rfl)) (by decide) (fun K hK => ?_)
      refine goes_ Try.func129 (by kernel_rfl) rfl #[.slice Ao13 t86006.length co13] (by rfl) rfl rfl (by (try simp only [List.map_toArray, List.map_cons, List.map_nil]); first | done | rfl | (simp only [List.length_drop, List.length_take]; rfl)) ?_
      with_reducible refine (spec_copyInts.calls _ _ t86006 t86011 _ ?side1 ?side2 A3.out).mono ?_
      (case side1 => repeat (first | exact (Kd.Q_reads' HO86008.out).2.2 | (with_reducible refine Kd.C_alloc ?_ _) | (with_reducible refine Kd.C_drewN ?_ _) | (with_reducible refine Kd.C_drew ?_)))
      (case side2 => exact (Kd.Q_reads' HO86008.out).2.1)
      rintro e w17 ⟨v86012, rfl, ho0, hb⟩
      refine ⟨_, rfl, ?_⟩
      have n0_ := Aside0.mk (Kd.Q_elder' (by (with_reducible repeat (first | apply Kd.Q_alloc | apply Kd.Q_drewN | apply Kd.Q_drew)); exact HO86008.out) (Kd.R_base ho0) hb)
      have n1_ := Aside0.mk (Kd.R_lower (Kd.R_new' ho0 (Kd.Q_lt (by (with_reducible repeat (first | apply Kd.Q_alloc | apply Kd.Q_drewN | apply Kd.Q_drew)); exact HO86008.out))) (keep_size (w := w) (g := g) (row := none) (by repeat (first | (with_reducible first | exact HK.out | apply KeepBut.set_ | apply keep_drewN | apply keep_drew | apply keep_alloc | refine keep_far ?_ GW86001.out _ | refine keep_far ?_ GW86002.out _ | refine keep_far ?_ GW86010.out _ | refine keep_far ?_ GW86014.out _) | exact HK.out))))
      have n2_ := Aside0.mk (IsS144.below (by repeat (first | (with_reducible first | exact HI0.out | apply IsS144.alloc | apply IsS144.drewN | apply IsS144.drew | apply IsS144.set_1 | refine IsS144.far ?_ NB0_86001.out _ | refine IsS144.far ?_ NB0_86002.out _ | refine IsS144.far ?_ NB0_86010.out _ | refine IsS144.far ?_ NB0_86014.out _) | exact HI0.out)) hb)
      have n3_ := Aside0.mk (blk_below (g := gb86001) (o := .cells #[.int .i64 0, .int .i64 0, .int .i64 0, .slice none 0 0] 27 (0, 0)) (by (with_reducible repeat (first | refine blk_drewN ?_ _ | refine blk_drew ?_ | refine blk_alloc ?_ _)); exact BK86001.out) hb)
      have n4_ := Aside0.mk (blk_below (g := gb86002) (o := .cells #[.int .i64 0, .int .i64 0, .int .i64 0, .slice none 0 0] 27 (0, 0)) (by (with_reducible repeat (first | refine blk_drewN ?_ _ | refine blk_drew ?_ | refine blk_alloc ?_ _)); exact BK86002.out) hb)
      have n5_ := Aside0.mk (blk_below (g := gb86010) (o := .cells #[.int .i64 t86003, .int .i64 t86004, .int .i64 t86005, .slice Ao13 t86006.length co13] 27 (0, 0)) (by (with_reducible repeat (first | refine blk_drewN ?_ _ | refine blk_drew ?_ | refine blk_alloc ?_ _)); exact BK86010.out) hb)
      have n6_ := Aside0.mk (blk_below (g := gb86014) (o := .cells #[.int .i64 0, .int .i64 0, .int .i64 0, .slice none 0 0] 27 (0, 0)) (by (with_reducible repeat (first | refine blk_drewN ?_ _ | refine blk_drew ?_ | refine blk_alloc ?_ _)); exact BK86014.out) hb)
      have n7_ := Aside0.mk (KeepBut.trans (by repeat (first | (with_reducible first | exact HK.out | apply KeepBut.set_ | apply keep_drewN | apply keep_drew | apply keep_alloc | refine keep_far ?_ GW86001.out _ | refine keep_far ?_ GW86002.out _ | refine keep_far ?_ GW86010.out _ | refine keep_far ?_ GW86014.out _) | exact HK.out)) (KeepBut.of_below hb g none) (.inl rfl))
      have n8_ := Aside0.mk (below_step (by repeat (first | (with_reducible first | exact HB.out | apply below_alloc | apply pw_below_drewN | apply below_drew1 | refine below_set ?_ (IsS144.ge HI0.out) | refine below_set ?_ GE86001.out | refine below_set ?_ GE86002.out | refine below_set ?_ GE86010.out | refine below_set ?_ GE86014.out) | exact HB.out)) hb)
      clear HO86008
      clear HI0
      clear BK86001
      clear BK86002
      clear BK86010
      clear BK86014
      clear HK
      clear HB
      have HO86008 := n0_
      have HO86013 := n1_
      have HI0 := n2_
      have BK86001 := n3_
      have BK86002 := n4_
      have BK86010 := n5_
      have BK86014 := n6_
      have HK := n7_
      have HB := n8_
      clear n0_ n1_ n2_ n3_ n4_ n5_ n6_ n7_ n8_
      (try clear hb)
      (try clear hb2)
      (try clear hk)
      (try clear hi)
      (try clear ho0)
      obtain ⟨Ao18, co18, eo18⟩ := Kd.R_slice HO86013.out
      (first | subst eo18 | (injection eo18 with f1_ f2_ f3_; have f4_ := f1_.symm; have f5_ := f3_.symm; clear f1_ f2_ f3_; subst f4_; subst f5_))
      refine hK.out _ _ ⟨(blk_cell BK86010.out 0).trans rfl, (blk_cell BK86010.out 1).trans rfl, (blk_cell BK86010.out 2).trans rfl, (blk_cell BK86010.out 3).trans rfl⟩ (fun hHeld => ?_)
      clear hK K
      refine norm_ (a' := ?_) ?_ ?_
      rotate_left
      · show Act.put _ (some 17) _ = _
        simp only [Act.put, List.setIfInBounds_toArray, List.set_cons_zero, List.set_cons_succ, i64_w, i32_w]
        rfl
      refine pure_ (i := 9) (N := some 18) (v := ?_) (a' := ?_) #[true, true, true, true, true, true, true, true, true, true, true, false] rfl rfl (any_of HT_.out (by kernel_rfl)) (fun _ _ _ h => h) (Or.inl ⟨by rfl, ?_⟩) ?_ ?_
      rotate_left
      · intro w'
        go_simp
        with_reducible rfl
      rotate_left
      · simp only [Act.put, List.setIfInBounds_toArray, List.set_cons_zero, List.set_cons_succ, i64_w, i32_w]
        rfl
      exact norm_ (by simp only [putAll, Act.put, List.setIfInBounds_toArray, List.set_cons_zero, List.set_cons_succ]) (hCont (.slice Ao18 t86011.length co18, gb86014) _ ⟨hHeld, (by (with_reducible repeat (first | apply Kd.Q_alloc | apply Kd.Q_drewN | apply Kd.Q_drew)); exact Kd.Q_mono HO86008.out (fun _ hk => hk.2)), (by (with_reducible repeat (first | apply Kd.R_alloc | apply Kd.R_drewN | apply Kd.R_drew)); exact Kd.R_mono HO86013.out (fun _ hk => hk.2)), (by (with_reducible repeat (first | refine blk_drewN ?_ _ | refine blk_drew ?_ | refine blk_alloc ?_ _)); exact BK86001.out), (by (with_reducible repeat (first | refine blk_drewN ?_ _ | refine blk_drew ?_ | refine blk_alloc ?_ _)); exact BK86002.out), (by (with_reducible repeat (first | refine blk_drewN ?_ _ | refine blk_drew ?_ | refine blk_alloc ?_ _)); exact BK86010.out), (by (with_reducible repeat (first | refine blk_drewN ?_ _ | refine blk_drew ?_ | refine blk_alloc ?_ _)); exact BK86014.out), GW86014.out, GE86014.out, NB0_86014.out, NB86014_0.out, NB86001_86014.out, NB86014_86001.out, NB86002_86014.out, NB86014_86002.out, NB86010_86014.out, NB86014_86010.out, (by repeat (first | (with_reducible first | exact HI0.out | apply IsS144.alloc | apply IsS144.drewN | apply IsS144.drew | apply IsS144.set_1 | refine IsS144.far ?_ NB0_86001.out _ | refine IsS144.far ?_ NB0_86002.out _ | refine IsS144.far ?_ NB0_86010.out _ | refine IsS144.far ?_ NB0_86014.out _) | exact HI0.out)), (by repeat (first | (with_reducible first | exact HK.out | apply KeepBut.set_ | apply keep_drewN | apply keep_drew | apply keep_alloc | refine keep_far ?_ GW86001.out _ | refine keep_far ?_ GW86002.out _ | refine keep_far ?_ GW86010.out _ | refine keep_far ?_ GW86014.out _) | exact HK.out)), (by repeat (first | (with_reducible first | exact HB.out | apply below_alloc | apply pw_below_drewN | apply below_drew1 | refine below_set ?_ (IsS144.ge HI0.out) | refine below_set ?_ GE86001.out | refine below_set ?_ GE86002.out | refine below_set ?_ GE86010.out | refine below_set ?_ GE86014.out) | exact HB.out))⟩)
  rintro ⟨v86012, gb86014⟩ w19 ⟨hS_, h0_, h1_, h2_, h3_, h4_, h5_, h6_, h7_, h8_, h9_, h10_, h11_, h12_, h13_, h14_, h15_, h16_, h17_, h18_⟩
  have n0_ : Aside0 (Kd.Q (Kd.int .i64) 3 w19 w.heap.size (fun k_ => some k_ ≠ (v86012 : Value).ownBlock) (.slice Ao13 t86006.length co13) t86006) := ⟨h0_⟩
  have n1_ : Aside0 (Kd.R (Kd.int .i64) 3 w19 w.heap.size (fun k_ => some k_ ≠ (.slice Ao13 t86006.length co13 : Value).ownBlock) v86012 t86011) := ⟨h1_⟩
  have n2_ : Aside0 (w19.heap[gb86001]? = some (.cells #[.int .i64 0, .int .i64 0, .int .i64 0, .slice none 0 0] 27 (0, 0))) := ⟨h2_⟩
  have n3_ : Aside0 (w19.heap[gb86002]? = some (.cells #[.int .i64 0, .int .i64 0, .int .i64 0, .slice none 0 0] 27 (0, 0))) := ⟨h3_⟩
  have n4_ : Aside0 (w19.heap[gb86010]? = some (.cells #[.int .i64 t86003, .int .i64 t86004, .int .i64 t86005, .slice Ao13 t86006.length co13] 27 (0, 0))) := ⟨h4_⟩
  have n5_ : Aside0 (w19.heap[gb86014]? = some (.cells #[.int .i64 0, .int .i64 0, .int .i64 0, .slice none 0 0] 27 (0, 0))) := ⟨h5_⟩
  have n6_ : Aside0 (w.heap.size ≤ gb86014) := ⟨h6_⟩
  have n7_ : Aside0 (w0.heap.size ≤ gb86014) := ⟨h7_⟩
  have n8_ : Aside0 (g ≠ gb86014) := ⟨h8_⟩
  have n9_ : Aside0 (gb86014 ≠ g) := ⟨h9_⟩
  have n10_ : Aside0 (gb86001 ≠ gb86014) := ⟨h10_⟩
  have n11_ : Aside0 (gb86014 ≠ gb86001) := ⟨h11_⟩
  have n12_ : Aside0 (gb86002 ≠ gb86014) := ⟨h12_⟩
  have n13_ : Aside0 (gb86014 ≠ gb86002) := ⟨h13_⟩
  have n14_ : Aside0 (gb86010 ≠ gb86014) := ⟨h14_⟩
  have n15_ : Aside0 (gb86014 ≠ gb86010) := ⟨h15_⟩
  have n16_ : Aside0 (IsS144 w0 w19 g s0_0 t86009) := ⟨h16_⟩
  have n17_ : Aside0 (KeepBut w w19 g none) := ⟨h17_⟩
  have n18_ : Aside0 (Below w0.heap.size w0 w19) := ⟨h18_⟩
  clear HO86008
  clear BK86001
  clear BK86002
  clear BK86010
  clear HI0
  clear HK
  clear HB
  clear h0_ h1_ h2_ h3_ h4_ h5_ h6_ h7_ h8_ h9_ h10_ h11_ h12_ h13_ h14_ h15_ h16_ h17_ h18_
  have HO86008 := n0_
  have HO86013 := n1_
  have BK86001 := n2_
  have BK86002 := n3_
  have BK86010 := n4_
  have BK86014 := n5_
  have GW86014 := n6_
  have GE86014 := n7_
  have NB0_86014 := n8_
  have NB86014_0 := n9_
  have NB86001_86014 := n10_
  have NB86014_86001 := n11_
  have NB86002_86014 := n12_
  have NB86014_86002 := n13_
  have NB86010_86014 := n14_
  have NB86014_86010 := n15_
  have HI0 := n16_
  have HK := n17_
  have HB := n18_
  clear n0_ n1_ n2_ n3_ n4_ n5_ n6_ n7_ n8_ n9_ n10_ n11_ n12_ n13_ n14_ n15_ n16_ n17_ n18_
  have hHeld : w19.cell? ⟨gb86010, 0, none⟩ = some (.int .i64 t86003) ∧ w19.cell? ⟨gb86010, 1, none⟩ = some (.int .i64 t86004) ∧ w19.cell? ⟨gb86010, 2, none⟩ = some (.int .i64 t86005) ∧ w19.cell? ⟨gb86010, 3, none⟩ = some (.slice Ao13 t86006.length co13) := hS_
  obtain ⟨Ao20, co20, eo20⟩ := Kd.R_slice HO86013.out
  (first | subst eo20 | (injection eo20 with f1_ f2_ f3_; have f4_ := f1_.symm; have f5_ := f3_.symm; clear f1_ f2_ f3_; subst f4_; subst f5_))
  refine norm_ (a' := ?_) ?_ ?_
  rotate_left
  · simp only [putAll, Act.put, List.setIfInBounds_toArray, List.set_cons_zero, List.set_cons_succ]
    rfl
  refine one_ (i := 11) (N := none) #[true, true, true, true, true, true, true, true, true, true, true, true] rfl rfl (one_of HT_.out (by kernel_rfl)) (by decide) (fun K hK => ?_)
  have hs21 : w19.cell? ⟨gb86014, 0, none⟩ = some (.int .i64 0) := (blk_cell BK86014.out 0).trans rfl
  have hfs21 := blk_frozen BK86014.out 0
  have hns21_0 := NB86001_86014.out
  have hns21_1 := NB86002_86014.out
  have hns21_2 := NB86010_86014.out
  have hms21_0 := NB86014_86001.out
  have hms21_1 := NB86014_86002.out
  have hms21_2 := NB86014_86010.out
  have hs22 : w19.cell? ⟨gb86014, 1, none⟩ = some (.int .i64 0) := (blk_cell BK86014.out 1).trans rfl
  have hfs22 := blk_frozen BK86014.out 1
  have hns22_0 := NB86001_86014.out
  have hns22_1 := NB86002_86014.out
  have hns22_2 := NB86010_86014.out
  have hms22_0 := NB86014_86001.out
  have hms22_1 := NB86014_86002.out
  have hms22_2 := NB86014_86010.out
  have hs23 : w19.cell? ⟨gb86014, 2, none⟩ = some (.int .i64 0) := (blk_cell BK86014.out 2).trans rfl
  have hfs23 := blk_frozen BK86014.out 2
  have hns23_0 := NB86001_86014.out
  have hns23_1 := NB86002_86014.out
  have hns23_2 := NB86010_86014.out
  have hms23_0 := NB86014_86001.out
  have hms23_1 := NB86014_86002.out
  have hms23_2 := NB86014_86010.out
  have hs24 : w19.cell? ⟨gb86014, 3, none⟩ = some (.slice none 0 0) := (blk_cell BK86014.out 3).trans rfl
  have hfs24 := blk_frozen BK86014.out 3
  have hns24_0 := NB86001_86014.out
  have hns24_1 := NB86002_86014.out
  have hns24_2 := NB86010_86014.out
  have hms24_0 := NB86014_86001.out
  have hms24_1 := NB86014_86002.out
  have hms24_2 := NB86014_86010.out
  refine skip_ (w1 := ?_) (by rfl) rfl ?_ ?_
  rotate_left
  · go_simp
    rfl
  refine hK.out _ _ ⟨((cell_far (p := ⟨gb86014, _, none⟩) NB86010_86014.out _).trans (((cell_far (p := ⟨gb86014, _, none⟩) NB86010_86014.out _).trans (((cell_far (p := ⟨gb86014, _, none⟩) NB86010_86014.out _).trans (((cell_far (p := ⟨gb86014, _, none⟩) NB86010_86014.out _).trans (hHeld.1)))))))), ((cell_far (p := ⟨gb86014, _, none⟩) NB86010_86014.out _).trans (((cell_far (p := ⟨gb86014, _, none⟩) NB86010_86014.out _).trans (((cell_far (p := ⟨gb86014, _, none⟩) NB86010_86014.out _).trans (((cell_far (p := ⟨gb86014, _, none⟩) NB86010_86014.out _).trans (hHeld.2.1)))))))), ((cell_far (p := ⟨gb86014, _, none⟩) NB86010_86014.out _).trans (((cell_far (p := ⟨gb86014, _, none⟩) NB86010_86014.out _).trans (((cell_far (p := ⟨gb86014, _, none⟩) NB86010_86014.out _).trans (((cell_far (p := ⟨gb86014, _, none⟩) NB86010_86014.out _).trans (hHeld.2.2.1)))))))), ((cell_far (p := ⟨gb86014, _, none⟩) NB86010_86014.out _).trans (((cell_far (p := ⟨gb86014, _, none⟩) NB86010_86014.out _).trans (((cell_far (p := ⟨gb86014, _, none⟩) NB86010_86014.out _).trans (((cell_far (p := ⟨gb86014, _, none⟩) NB86010_86014.out _).trans (hHeld.2.2.2))))))))⟩ (fun hHeld => ?_)
  clear hK K
  refine done_ (done_of HT_.out (by kernel_rfl)) ?_
  try go_wp2_with (first | ((with_reducible refine gate_callee (f := 127) rfl ?_); refine goesL_ (some 20) rfl rfl Try.func127 (by kernel_rfl) rfl #[.pointer (some ⟨g, 0, none⟩), .int .i64 6] rfl (by (try simp only [List.map_toArray, List.map_cons, List.map_nil]); first | done | rfl | (simp only [List.length_drop, List.length_take]; rfl)) ?_; (with_reducible refine (spec_reader_pick.calls k g s0_0 t86009 6 t86015 t86016 w0 _ ?side1 ?side2 A4.out).mono ?_); (case side1 => repeat (first | (with_reducible first | exact HI0.out | apply IsS144.alloc | apply IsS144.drewN | apply IsS144.drew | apply IsS144.set_1 | refine IsS144.far ?_ NB0_86001.out _ | refine IsS144.far ?_ NB0_86002.out _ | refine IsS144.far ?_ NB0_86010.out _ | refine IsS144.far ?_ NB0_86014.out _) | exact HI0.out)); (case side2 => repeat (first | (with_reducible first | exact HB.out | apply below_alloc | apply pw_below_drewN | apply below_drew1 | refine below_set ?_ (IsS144.ge HI0.out) | refine below_set ?_ GE86001.out | refine below_set ?_ GE86002.out | refine below_set ?_ GE86010.out | refine below_set ?_ GE86014.out) | exact HB.out)); rintro e w25 ⟨rfl, hi, hb, hk⟩; refine ⟨_, rfl, ?_⟩; have n0_ := Aside0.mk (KeepBut.blk hk (g' := gb86001) (o := .cells #[.int .i64 0, .int .i64 0, .int .i64 0, .slice none 0 0] 27 (0, 0)) (by (with_reducible repeat (first | refine blk_drewN ?_ _ | refine blk_drew ?_ | refine blk_alloc ?_ _)); refine blk_far ?_ NB86001_86014.out _; (with_reducible repeat (first | refine blk_drewN ?_ _ | refine blk_drew ?_ | refine blk_alloc ?_ _)); refine blk_far ?_ NB86001_86014.out _; (with_reducible repeat (first | refine blk_drewN ?_ _ | refine blk_drew ?_ | refine blk_alloc ?_ _)); refine blk_far ?_ NB86001_86014.out _; (with_reducible repeat (first | refine blk_drewN ?_ _ | refine blk_drew ?_ | refine blk_alloc ?_ _)); refine blk_far ?_ NB86001_86014.out _; (with_reducible repeat (first | refine blk_drewN ?_ _ | refine blk_drew ?_ | refine blk_alloc ?_ _)); exact BK86001.out) NB86001_0.out (by simp)); have n1_ := Aside0.mk (KeepBut.blk hk (g' := gb86002) (o := .cells #[.int .i64 0, .int .i64 0, .int .i64 0, .slice none 0 0] 27 (0, 0)) (by (with_reducible repeat (first | refine blk_drewN ?_ _ | refine blk_drew ?_ | refine blk_alloc ?_ _)); refine blk_far ?_ NB86002_86014.out _; (with_reducible repeat (first | refine blk_drewN ?_ _ | refine blk_drew ?_ | refine blk_alloc ?_ _)); refine blk_far ?_ NB86002_86014.out _; (with_reducible repeat (first | refine blk_drewN ?_ _ | refine blk_drew ?_ | refine blk_alloc ?_ _)); refine blk_far ?_ NB86002_86014.out _; (with_reducible repeat (first | refine blk_drewN ?_ _ | refine blk_drew ?_ | refine blk_alloc ?_ _)); refine blk_far ?_ NB86002_86014.out _; (with_reducible repeat (first | refine blk_drewN ?_ _ | refine blk_drew ?_ | refine blk_alloc ?_ _)); exact BK86002.out) NB86002_0.out (by simp)); have n2_ := Aside0.mk (Kd.Q_mono (Kd.Q_keep (IsS144.apartQ (show IsS144 w0 _ g s0_0 t86009 from by repeat (first | (with_reducible first | exact HI0.out | apply IsS144.alloc | apply IsS144.drewN | apply IsS144.drew | apply IsS144.set_1 | refine IsS144.far ?_ NB0_86001.out _ | refine IsS144.far ?_ NB0_86002.out _ | refine IsS144.far ?_ NB0_86010.out _ | refine IsS144.far ?_ NB0_86014.out _) | exact HI0.out)) (by (with_reducible repeat (first | apply Kd.Q_alloc | apply Kd.Q_drewN | apply Kd.Q_drew)); exact (Kd.Q_mono (Kd.Q_far (p := ⟨gb86014, 3, none⟩) (Kd.Q_far (p := ⟨gb86014, 2, none⟩) (Kd.Q_far (p := ⟨gb86014, 1, none⟩) (Kd.Q_far (p := ⟨gb86014, 0, none⟩) (Kd.Q_types HO86008.out BK86014.out (by decide)) (fun _ hk => hk.2) (.int .i64 t86003)) (fun _ hk => hk.2) (.int .i64 t86004)) (fun _ hk => hk.2) (.int .i64 t86005)) (fun _ hk => hk.2) (.slice Ao20 t86011.length co20)) (fun _ h_ => h_.1))) (by decide)) hk (fun _ h => h.2)) (fun _ h => h.1)); have n3_ := Aside0.mk (KeepBut.blk hk (g' := gb86010) (o := .cells #[.int .i64 t86003, .int .i64 t86004, .int .i64 t86005, .slice Ao13 t86006.length co13] 27 (0, 0)) (by (with_reducible repeat (first | refine blk_drewN ?_ _ | refine blk_drew ?_ | refine blk_alloc ?_ _)); refine blk_far ?_ NB86010_86014.out _; (with_reducible repeat (first | refine blk_drewN ?_ _ | refine blk_drew ?_ | refine blk_alloc ?_ _)); refine blk_far ?_ NB86010_86014.out _; (with_reducible repeat (first | refine blk_drewN ?_ _ | refine blk_drew ?_ | refine blk_alloc ?_ _)); refine blk_far ?_ NB86010_86014.out _; (with_reducible repeat (first | refine blk_drewN ?_ _ | refine blk_drew ?_ | refine blk_alloc ?_ _)); refine blk_far ?_ NB86010_86014.out _; (with_reducible repeat (first | refine blk_drewN ?_ _ | refine blk_drew ?_ | refine blk_alloc ?_ _)); exact BK86010.out) NB86010_0.out (by simp)); have n4_ := Aside0.mk (Kd.R_mono (Kd.R_keep (IsS144.apart (show IsS144 w0 _ g s0_0 t86009 from by repeat (first | (with_reducible first | exact HI0.out | apply IsS144.alloc | apply IsS144.drewN | apply IsS144.drew | apply IsS144.set_1 | refine IsS144.far ?_ NB0_86001.out _ | refine IsS144.far ?_ NB0_86002.out _ | refine IsS144.far ?_ NB0_86010.out _ | refine IsS144.far ?_ NB0_86014.out _) | exact HI0.out)) (by (with_reducible repeat (first | apply Kd.R_alloc | apply Kd.R_drewN | apply Kd.R_drew)); exact (Kd.R_mono (Kd.R_far (p := ⟨gb86014, 3, none⟩) (Kd.R_far (p := ⟨gb86014, 2, none⟩) (Kd.R_far (p := ⟨gb86014, 1, none⟩) (Kd.R_far (p := ⟨gb86014, 0, none⟩) (Kd.R_types HO86013.out BK86014.out (by decide)) (fun _ hk => hk.2) (.int .i64 t86003)) (fun _ hk => hk.2) (.int .i64 t86004)) (fun _ hk => hk.2) (.int .i64 t86005)) (fun _ hk => hk.2) (.slice Ao20 t86011.length co20)) (fun _ h_ => h_.1))) (by decide)) hk (fun _ h => h.2)) (fun _ h => h.1)); have n5_ := Aside0.mk (KeepBut.blk hk (g' := gb86014) (o := .cells #[.int .i64 t86003, .int .i64 t86004, .int .i64 t86005, .slice Ao20 t86011.length co20] 27 (0, 0)) (by (with_reducible repeat (first | refine blk_drewN ?_ _ | refine blk_drew ?_ | refine blk_alloc ?_ _)); refine blk_put (cs := #[.int .i64 t86003, .int .i64 t86004, .int .i64 t86005, .slice none 0 0]) ?_ 3 _ rfl; (with_reducible repeat (first | refine blk_drewN ?_ _ | refine blk_drew ?_ | refine blk_alloc ?_ _)); refine blk_put (cs := #[.int .i64 t86003, .int .i64 t86004, .int .i64 0, .slice none 0 0]) ?_ 2 _ rfl; (with_reducible repeat (first | refine blk_drewN ?_ _ | refine blk_drew ?_ | refine blk_alloc ?_ _)); refine blk_put (cs := #[.int .i64 t86003, .int .i64 0, .int .i64 0, .slice none 0 0]) ?_ 1 _ rfl; (with_reducible repeat (first | refine blk_drewN ?_ _ | refine blk_drew ?_ | refine blk_alloc ?_ _)); refine blk_put (cs := #[.int .i64 0, .int .i64 0, .int .i64 0, .slice none 0 0]) ?_ 0 _ rfl; (with_reducible repeat (first | refine blk_drewN ?_ _ | refine blk_drew ?_ | refine blk_alloc ?_ _)); exact BK86014.out) NB86014_0.out (by simp)); have n6_ := Aside0.mk (KeepBut.trans (by repeat (first | (with_reducible first | exact HK.out | apply KeepBut.set_ | apply keep_drewN | apply keep_drew | apply keep_alloc | refine keep_far ?_ GW86001.out _ | refine keep_far ?_ GW86002.out _ | refine keep_far ?_ GW86010.out _ | refine keep_far ?_ GW86014.out _) | exact HK.out)) hk (.inl rfl)); have n7_ := Aside0.mk (hb); have n8_ := Aside0.mk (hi); clear BK86001; clear BK86002; clear HO86008; clear BK86010; clear HO86013; clear BK86014; clear HK; clear HB; clear HI0; have BK86001 := n0_; have BK86002 := n1_; have HO86008 := n2_; have BK86010 := n3_; have HO86013 := n4_; have BK86014 := n5_; have HK := n6_; have HB := n7_; have HI0 := n8_; clear n0_ n1_ n2_ n3_ n4_ n5_ n6_ n7_ n8_; (try clear hb); (try clear hb2); (try clear hk); (try clear hi)))
  go_loopg [6] k (fun kq v6 w' => ∃ (x6_1 : Int) (x1001_1 : Int) (x86011003_1 : List Int) (x86015003_1 : List Int) (u86011003 : Value) (u86015003 : Value), v6 = .int .i64 x6_1 ∧ Aside0 (spec_twoImages.l0 kq x6_1 s0_0 x1001_1 t86003 t86004 t86005 x86011003_1 t86003 t86004 t86005 x86015003_1 = some (r1, r2, r3, r4, r5, r6, r7, r8, r9)) ∧ Aside0 (kq ≤ k) ∧ Aside0 (Kd.Q (Kd.int .i64) 3 w' w.heap.size (fun k_ => some k_ ≠ (u86015003 : Value).ownBlock) u86011003 x86011003_1) ∧ Aside0 (Kd.Q (Kd.int .i64) 3 w' w.heap.size (fun k_ => some k_ ≠ (u86011003 : Value).ownBlock) u86015003 x86015003_1) ∧ Aside0 (w'.heap[gb86001]? = some (.cells #[.int .i64 0, .int .i64 0, .int .i64 0, (.slice none 0 0)] 27 (0, 0))) ∧ Aside0 (w'.heap[gb86002]? = some (.cells #[.int .i64 0, .int .i64 0, .int .i64 0, (.slice none 0 0)] 27 (0, 0))) ∧ Aside0 (w'.heap[gb86010]? = some (.cells #[.int .i64 t86003, .int .i64 t86004, .int .i64 t86005, u86011003] 27 (0, 0))) ∧ Aside0 (w'.heap[gb86014]? = some (.cells #[.int .i64 t86003, .int .i64 t86004, .int .i64 t86005, u86015003] 27 (0, 0))) ∧ Aside0 (IsS144 w0 w' g s0_0 x1001_1) ∧ Aside0 (KeepBut w w' g none) ∧ Aside0 (Below w0.heap.size w0 w'))
  case atStart => exact ⟨(t86015), (t86016), (t86006), (t86011), (.slice Ao13 t86006.length co13), (.slice Ao20 t86011.length co20), (by first | rfl | (simp; done) | (simp [*]; done)), H', ⟨Nat.le_refl _⟩, ⟨by (with_reducible repeat (first | apply Kd.Q_alloc | apply Kd.Q_drewN | apply Kd.Q_drew)); exact HO86008.out⟩, ⟨Kd.Q_of_R (by (with_reducible repeat (first | apply Kd.R_alloc | apply Kd.R_drewN | apply Kd.R_drew)); exact HO86013.out)⟩, ⟨by (with_reducible repeat (first | refine blk_drewN ?_ _ | refine blk_drew ?_ | refine blk_alloc ?_ _)); exact BK86001.out⟩, ⟨by (with_reducible repeat (first | refine blk_drewN ?_ _ | refine blk_drew ?_ | refine blk_alloc ?_ _)); exact BK86002.out⟩, ⟨by (with_reducible repeat (first | refine blk_drewN ?_ _ | refine blk_drew ?_ | refine blk_alloc ?_ _)); exact BK86010.out⟩, ⟨by (with_reducible repeat (first | refine blk_drewN ?_ _ | refine blk_drew ?_ | refine blk_alloc ?_ _)); exact BK86014.out⟩, ⟨by repeat (first | (with_reducible first | exact HI0.out | apply IsS144.alloc | apply IsS144.drewN | apply IsS144.drew | apply IsS144.set_1 | refine IsS144.far ?_ NB0_86001.out _ | refine IsS144.far ?_ NB0_86002.out _ | refine IsS144.far ?_ NB0_86010.out _ | refine IsS144.far ?_ NB0_86014.out _) | exact HI0.out)⟩, ⟨by repeat (first | (with_reducible first | exact HK.out | apply KeepBut.set_ | apply keep_drewN | apply keep_drew | apply keep_alloc | refine keep_far ?_ GW86001.out _ | refine keep_far ?_ GW86002.out _ | refine keep_far ?_ GW86010.out _ | refine keep_far ?_ GW86014.out _) | exact HK.out)⟩, ⟨by repeat (first | (with_reducible first | exact HB.out | apply below_alloc | apply pw_below_drewN | apply below_drew1 | refine below_set ?_ (IsS144.ge HI0.out) | refine below_set ?_ GE86001.out | refine below_set ?_ GE86002.out | refine below_set ?_ GE86010.out | refine below_set ?_ GE86014.out) | exact HB.out)⟩⟩
  case round =>
    clear H'
    try clear c1
    try clear p2
    try clear c8
    try clear c9
    try clear c10
    try clear c11
    try clear c12
    try clear hcz12_0
    try clear hcz12_1
    try clear hcz12_2
    try clear hcz12_3
    try clear hfz12_0
    try clear hfz12_1
    try clear hfz12_2
    try clear hfz12_3
    obtain ⟨x6_1, x1001_1, x86011003_1, x86015003_1, u86011003, u86015003, rfl, HA, HK1, HO_86011003, HO_86015003, BK86001, BK86002, BK86010, BK86014, HI0, HK, HB⟩ := hrel
    cases gk with
    | zero => exact absurd HA.out (by simp [spec_twoImages.l0])
    | succ k1 =>
      have H := HA.out
      clear HA
      simp only [spec_twoImages.l0] at H
      have HC26 := Aside0.mk H
      clear H
      go_upto_region 4 with (fail)
      go_cut [28] (fun v28 wc => ∃ (kq : Nat) (x28_25 : Bool), v28 = .bool x28_25 ∧ Aside0 (spec_twoImages.j1 kq x6_1 x28_25 s0_0 x1001_1 t86003 t86004 t86005 x86011003_1 t86003 t86004 t86005 x86015003_1 = some (r1, r2, r3, r4, r5, r6, r7, r8, r9)) ∧ Aside0 (kq ≤ k1) ∧ Aside0 (Kd.Q (Kd.int .i64) 3 wc w.heap.size (fun k_ => some k_ ≠ (u86015003 : Value).ownBlock) u86011003 x86011003_1) ∧ Aside0 (Kd.Q (Kd.int .i64) 3 wc w.heap.size (fun k_ => some k_ ≠ (u86011003 : Value).ownBlock) u86015003 x86015003_1) ∧ Aside0 (wc.heap[gb86001]? = some (.cells #[.int .i64 0, .int .i64 0, .int .i64 0, (.slice none 0 0)] 27 (0, 0))) ∧ Aside0 (wc.heap[gb86002]? = some (.cells #[.int .i64 0, .int .i64 0, .int .i64 0, (.slice none 0 0)] 27 (0, 0))) ∧ Aside0 (wc.heap[gb86010]? = some (.cells #[.int .i64 t86003, .int .i64 t86004, .int .i64 t86005, u86011003] 27 (0, 0))) ∧ Aside0 (wc.heap[gb86014]? = some (.cells #[.int .i64 t86003, .int .i64 t86004, .int .i64 t86005, u86015003] 27 (0, 0))) ∧ Aside0 (IsS144 w0 wc g s0_0 x1001_1) ∧ Aside0 (KeepBut w wc g none) ∧ Aside0 (Below w0.heap.size w0 wc))
      case first =>
        have H := HC26.out
        clear HC26
        by_cases c27 : x6_1 > 0
        · rw [if_pos c27] at H
          have c27b0 : decide (0 < x6_1) = true := decide_eq_true c27
          clear c27
          (first | rw [c27b0] | (simp only [i64_w, i32_w]; rw [c27b0]) | skip)
          have H' := Aside0.mk H
          clear H
          have hnb28 := NB86014_86001.out
          have hnc28 := NB86001_86014.out
          have hnb29 := NB86014_86002.out
          have hnc29 := NB86002_86014.out
          have hnb30 := NB86014_86010.out
          have hnc30 := NB86010_86014.out
          have hnb31 := NB86014_0.out
          have hnc31 := NB0_86014.out
          have hcz32_0 : wr.cell? ⟨gb86014, 0, none⟩ = some (.int .i64 t86003) := (blk_cell BK86014.out 0).trans rfl
          have hcz32_1 : wr.cell? ⟨gb86014, 1, none⟩ = some (.int .i64 t86004) := (blk_cell BK86014.out 1).trans rfl
          have hcz32_2 : wr.cell? ⟨gb86014, 2, none⟩ = some (.int .i64 t86005) := (blk_cell BK86014.out 2).trans rfl
          have hcz32_3 : wr.cell? ⟨gb86014, 3, none⟩ = some (u86015003) := (blk_cell BK86014.out 3).trans rfl
          have hfz32_0 := blk_frozen BK86014.out 0
          have hfz32_1 := blk_frozen BK86014.out 1
          have hfz32_2 := blk_frozen BK86014.out 2
          have hfz32_3 := blk_frozen BK86014.out 3
          obtain ⟨Ao33, co33, eo33, _⟩ := Kd.Q_slice HO_86015003.out
          subst eo33
          go_wp2
          go_meet
          case rel => exact ⟨_, (decide ((x86015003_1.length : Int) > 0)), (by first | rfl | (simp; done) | (simp [*]; done)), H', ⟨by have := HK1.out; first | omega | exact Nat.le_refl _⟩, ⟨by (with_reducible repeat (first | apply Kd.Q_alloc | apply Kd.Q_drewN | apply Kd.Q_drew)); exact HO_86011003.out⟩, ⟨by (with_reducible repeat (first | apply Kd.Q_alloc | apply Kd.Q_drewN | apply Kd.Q_drew)); exact HO_86015003.out⟩, ⟨by (with_reducible repeat (first | refine blk_drewN ?_ _ | refine blk_drew ?_ | refine blk_alloc ?_ _)); exact BK86001.out⟩, ⟨by (with_reducible repeat (first | refine blk_drewN ?_ _ | refine blk_drew ?_ | refine blk_alloc ?_ _)); exact BK86002.out⟩, ⟨by (with_reducible repeat (first | refine blk_drewN ?_ _ | refine blk_drew ?_ | refine blk_alloc ?_ _)); exact BK86010.out⟩, ⟨by (with_reducible repeat (first | refine blk_drewN ?_ _ | refine blk_drew ?_ | refine blk_alloc ?_ _)); exact BK86014.out⟩, ⟨by repeat (first | (with_reducible first | exact HI0.out | apply IsS144.alloc | apply IsS144.drewN | apply IsS144.drew | apply IsS144.set_1 | refine IsS144.far ?_ NB0_86001.out _ | refine IsS144.far ?_ NB0_86002.out _ | refine IsS144.far ?_ NB0_86010.out _ | refine IsS144.far ?_ NB0_86014.out _) | exact HI0.out)⟩, ⟨by repeat (first | (with_reducible first | exact HK.out | apply KeepBut.set_ | apply keep_drewN | apply keep_drew | apply keep_alloc | refine keep_far ?_ GW86001.out _ | refine keep_far ?_ GW86002.out _ | refine keep_far ?_ GW86010.out _ | refine keep_far ?_ GW86014.out _) | exact HK.out)⟩, ⟨by repeat (first | (with_reducible first | exact HB.out | apply below_alloc | apply pw_below_drewN | apply below_drew1 | refine below_set ?_ (IsS144.ge HI0.out) | refine below_set ?_ GE86001.out | refine below_set ?_ GE86002.out | refine below_set ?_ GE86010.out | refine below_set ?_ GE86014.out) | exact HB.out)⟩⟩
        · rw [if_neg c27] at H
          have c27b0 : decide (0 < x6_1) = false := decide_eq_false c27
          clear c27
          (first | rw [c27b0] | (simp only [i64_w, i32_w]; rw [c27b0]) | skip)
          have H' := Aside0.mk H
          clear H
          go_wp2
          go_meet
          case rel => exact ⟨_, (false), (by first | rfl | (simp; done) | (simp [*]; done)), H', ⟨by have := HK1.out; first | omega | exact Nat.le_refl _⟩, ⟨by (with_reducible repeat (first | apply Kd.Q_alloc | apply Kd.Q_drewN | apply Kd.Q_drew)); exact HO_86011003.out⟩, ⟨by (with_reducible repeat (first | apply Kd.Q_alloc | apply Kd.Q_drewN | apply Kd.Q_drew)); exact HO_86015003.out⟩, ⟨by (with_reducible repeat (first | refine blk_drewN ?_ _ | refine blk_drew ?_ | refine blk_alloc ?_ _)); exact BK86001.out⟩, ⟨by (with_reducible repeat (first | refine blk_drewN ?_ _ | refine blk_drew ?_ | refine blk_alloc ?_ _)); exact BK86002.out⟩, ⟨by (with_reducible repeat (first | refine blk_drewN ?_ _ | refine blk_drew ?_ | refine blk_alloc ?_ _)); exact BK86010.out⟩, ⟨by (with_reducible repeat (first | refine blk_drewN ?_ _ | refine blk_drew ?_ | refine blk_alloc ?_ _)); exact BK86014.out⟩, ⟨by repeat (first | (with_reducible first | exact HI0.out | apply IsS144.alloc | apply IsS144.drewN | apply IsS144.drew | apply IsS144.set_1 | refine IsS144.far ?_ NB0_86001.out _ | refine IsS144.far ?_ NB0_86002.out _ | refine IsS144.far ?_ NB0_86010.out _ | refine IsS144.far ?_ NB0_86014.out _) | exact HI0.out)⟩, ⟨by repeat (first | (with_reducible first | exact HK.out | apply KeepBut.set_ | apply keep_drewN | apply keep_drew | apply keep_alloc | refine keep_far ?_ GW86001.out _ | refine keep_far ?_ GW86002.out _ | refine keep_far ?_ GW86010.out _ | refine keep_far ?_ GW86014.out _) | exact HK.out)⟩, ⟨by repeat (first | (with_reducible first | exact HB.out | apply below_alloc | apply pw_below_drewN | apply below_drew1 | refine below_set ?_ (IsS144.ge HI0.out) | refine below_set ?_ GE86001.out | refine below_set ?_ GE86002.out | refine below_set ?_ GE86010.out | refine below_set ?_ GE86014.out) | exact HB.out)⟩⟩
      case rest =>
        clear HC26
        try clear c1
        try clear c2
        try clear p2
        try clear c3
        try clear c8
        try clear c9
        try clear c10
        try clear c11
        try clear c12
        try clear c27
        try clear c27b0
        try clear c28
        try clear c29
        try clear c30
        try clear c31
        try clear hcz12_0
        try clear hcz12_1
        try clear hcz12_2
        try clear hcz12_3
        try clear hcz32_0
        try clear hcz32_1
        try clear hcz32_2
        try clear hcz32_3
        try clear hfz12_0
        try clear hfz12_1
        try clear hfz12_2
        try clear hfz12_3
        try clear hfz32_0
        try clear hfz32_1
        try clear hfz32_2
        try clear hfz32_3
        try clear p2
        obtain ⟨kq, x28_25, rfl, HA, HJ25, HO_86011003, HO_86015003, BK86001, BK86002, BK86010, BK86014, HI0, HK, HB⟩ := hcut
        cases kq with
        | zero => exact absurd HA.out (by simp [spec_twoImages.j1])
        | succ kj25 =>
          have H := HA.out
          clear HA
          simp only [spec_twoImages.j1] at H
          by_cases c34 : x28_25 = true
          · subst c34
            have H1 : ((spec_reader_pick.f kj25 s0_0 x1001_1 (x86015003_1.length : Int)).bind fun bt86017 => ((spec_reader_pick.f kj25 s0_0 bt86017.2 256).bind fun bt86019 => (if 0 ≤ bt86017.1 then (if bt86017.1 < (x86015003_1.length : Int) then (spec_twoImages.l0 kj25 (wrap64 (x6_1 - 1)) s0_0 bt86019.2 t86003 t86004 t86005 x86011003_1 t86003 t86004 t86005 (x86015003_1.set (bt86017.1 : Int).toNat bt86019.1)) else (none)) else (none)))) = some (r1, r2, r3, r4, r5, r6, r7, r8, r9) := by rw [if_pos rfl] at H; exact H
            clear H
            have H := H1
            clear H1
            replace H := Option.bind_eq_some_iff.mp H
            obtain ⟨⟨t86017, t86018⟩, A350, H⟩ := H
            replace H : ((spec_reader_pick.f kj25 s0_0 t86018 256).bind fun bt86019 => (if 0 ≤ t86017 then (if t86017 < (x86015003_1.length : Int) then (spec_twoImages.l0 kj25 (wrap64 (x6_1 - 1)) s0_0 bt86019.2 t86003 t86004 t86005 x86011003_1 t86003 t86004 t86005 (x86015003_1.set (t86017 : Int).toNat bt86019.1)) else (none)) else (none))) = some (r1, r2, r3, r4, r5, r6, r7, r8, r9) := H
            have A35 := Aside0.mk A350
            clear A350
            replace H := Option.bind_eq_some_iff.mp H
            obtain ⟨⟨t86019, t86020⟩, A360, H⟩ := H
            replace H : (if 0 ≤ t86017 then (if t86017 < (x86015003_1.length : Int) then (spec_twoImages.l0 kj25 (wrap64 (x6_1 - 1)) s0_0 t86020 t86003 t86004 t86005 x86011003_1 t86003 t86004 t86005 (x86015003_1.set (t86017 : Int).toNat t86019)) else (none)) else (none)) = some (r1, r2, r3, r4, r5, r6, r7, r8, r9) := H
            have A36 := Aside0.mk A360
            clear A360
            by_cases c37 : 0 ≤ t86017
            · rw [if_pos c37] at H
              have c37b0 : decide (0 ≤ t86017) = true := decide_eq_true c37
              clear c37
              by_cases c38 : t86017 < (x86015003_1.length : Int)
              · rw [if_pos c38] at H
                have c38b0 : decide (t86017 < (x86015003_1.length : Int)) = true := decide_eq_true c38
                clear c38
                obtain ⟨y86021, hy86021⟩ : ∃ y_ : List Int, y_ = (x86015003_1.set (t86017 : Int).toNat t86019) := ⟨_, rfl⟩
                replace H : (spec_twoImages.l0 kj25 (wrap64 (x6_1 - 1)) s0_0 t86020 t86003 t86004 t86005 x86011003_1 t86003 t86004 t86005 y86021) = some (r1, r2, r3, r4, r5, r6, r7, r8, r9) := by first | (rw [hy86021]; with_reducible exact H) | (have H2_ := (Option.bind_some _ _).symm.trans H; rw [hy86021]; with_reducible exact H2_) | (have H2_ := (Option.bind_some _ _).symm.trans H; with_reducible exact H2_) | with_reducible exact H | (rw [hy86021]; exact H) | exact H
                have Ny86021 := Aside0.mk hy86021
                clear hy86021
                have H' := Aside0.mk H
                clear H
                try go_wp2
                have n0_ := Aside0.mk (Kd.Q_drew HO_86011003.out)
                have n1_ := Aside0.mk (Kd.Q_drew HO_86015003.out)
                have n2_ := Aside0.mk (blk_drew BK86001.out)
                have n3_ := Aside0.mk (blk_drew BK86002.out)
                have n4_ := Aside0.mk (blk_drew BK86010.out)
                have n5_ := Aside0.mk (blk_drew BK86014.out)
                have n6_ := Aside0.mk (IsS144.drew HI0.out)
                have n7_ := Aside0.mk (keep_drew HK.out)
                have n8_ := Aside0.mk (below_drew1 HB.out)
                clear HO_86011003
                clear HO_86015003
                clear BK86001
                clear BK86002
                clear BK86010
                clear BK86014
                clear HI0
                clear HK
                clear HB
                have HO_86011003 := n0_
                have HO_86015003 := n1_
                have BK86001 := n2_
                have BK86002 := n3_
                have BK86010 := n4_
                have BK86014 := n5_
                have HI0 := n6_
                have HK := n7_
                have HB := n8_
                clear n0_ n1_ n2_ n3_ n4_ n5_ n6_ n7_ n8_
                obtain ⟨Ao41, co41, eo41, _⟩ := Kd.Q_slice HO_86015003.out
                (first | subst eo41 | (injection eo41 with f1_ f2_ f3_; have f4_ := f1_.symm; have f5_ := f3_.symm; clear f1_ f2_ f3_; subst f4_; subst f5_))
                refine start_ (n := 11) (S := fun w' => w'.cell? ⟨gb86014, 0, none⟩ = some (.int .i64 t86003) ∧ w'.cell? ⟨gb86014, 1, none⟩ = some (.int .i64 t86004) ∧ w'.cell? ⟨gb86014, 2, none⟩ = some (.int .i64 t86005) ∧ w'.cell? ⟨gb86014, 3, none⟩ = some (.slice Ao41 x86015003_1.length co41)) (ds := [10]) #[false, false, false, false, false, false, false, false, false, false, false] (by kernel_rfl) rfl rfl ⟨(blk_cell BK86014.out 0).trans rfl, (blk_cell BK86014.out 1).trans rfl, (blk_cell BK86014.out 2).trans rfl, (blk_cell BK86014.out 3).trans rfl⟩ (fun hHeld => ?_); refine with_tabW spec_twoImages.tab6 spec_twoImages.bits6 (fun HT_ HW_ => ?_)
                generalize wc.drew = w40 at HO_86011003 HO_86015003 BK86001 BK86002 BK86010 BK86014 HI0 HK HB hHeld ⊢
                refine pure_ (i := 0) (N := some 31) (v := ?_) (a' := ?_) #[true, false, false, false, false, false, false, false, false, false, false] rfl rfl (any_of HT_.out (by kernel_rfl)) (fun _ _ _ h => h) (Or.inl ⟨by rfl, ?_⟩) ?_ ?_
                rotate_left
                · intro w'
                  go_simp
                  with_reducible rfl
                rotate_left
                · simp only [Act.put, List.setIfInBounds_toArray, List.set_cons_zero, List.set_cons_succ, i64_w, i32_w]
                  rfl
                refine pure_ (i := 2) (N := some 33) (v := ?_) (a' := ?_) #[true, false, true, false, false, false, false, false, false, false, false] rfl rfl (any_of HT_.out (by kernel_rfl)) (fun _ _ _ h => h) (Or.inl ⟨by rfl, ?_⟩) ?_ ?_
                rotate_left
                · intro w'
                  go_simp
                  with_reducible rfl
                rotate_left
                · simp only [Act.put, List.setIfInBounds_toArray, List.set_cons_zero, List.set_cons_succ, i64_w, i32_w]
                  rfl
                refine pure_ (i := 3) (N := some 34) (v := ?_) (a' := ?_) #[true, false, true, true, false, false, false, false, false, false, false] rfl rfl (any_of HT_.out (by kernel_rfl)) (fun _ _ _ h => h) (Or.inl ⟨by rfl, ?_⟩) ?_ ?_
                rotate_left
                · intro w'
                  go_simp
                  with_reducible rfl
                rotate_left
                · simp only [Act.put, List.setIfInBounds_toArray, List.set_cons_zero, List.set_cons_succ, i64_w, i32_w]
                  rfl
                refine pure_ (i := 7) (N := some 38) (v := ?_) (a' := ?_) #[true, false, true, true, false, false, false, true, false, false, false] rfl rfl (any_of HT_.out (by kernel_rfl)) (fun _ _ _ h => h) (Or.inl ⟨by rfl, ?_⟩) ?_ ?_
                rotate_left
                · intro w'
                  go_simp
                  with_reducible rfl
                rotate_left
                · simp only [Act.put, List.setIfInBounds_toArray, List.set_cons_zero, List.set_cons_succ, i64_w, i32_w]
                  rfl
                refine take_ (i := 1) (N := some 32) (v := ?_) (a' := ?_) #[true, true, true, true, false, false, false, true, false, false, false] rfl rfl (take_ofW HT_.out HW_.out (by kernel_rfl)) (fun _ _ _ h => h) (Or.inl ⟨by rfl, ?_⟩) hHeld ?_ ?_
                rotate_left
                · rintro w' ⟨s0, s1, s2, s3⟩
                  go_simp
                  with_reducible rfl
                rotate_left
                · simp only [Act.put, List.setIfInBounds_toArray, List.set_cons_zero, List.set_cons_succ, i64_w, i32_w]
                  rfl
                refine take_ (i := 4) (N := some 35) (v := ?_) (a' := ?_) #[true, true, true, true, true, false, false, true, false, false, false] rfl rfl (take_ofW HT_.out HW_.out (by kernel_rfl)) (fun _ _ _ h => h) (Or.inl ⟨by rfl, ?_⟩) hHeld ?_ ?_
                rotate_left
                · rintro w' ⟨s0, s1, s2, s3⟩
                  go_simp
                  with_reducible rfl
                rotate_left
                · simp only [Act.put, List.setIfInBounds_toArray, List.set_cons_zero, List.set_cons_succ, i64_w, i32_w]
                  rfl
                refine pure_ (i := 5) (N := some 36) (v := ?_) (a' := ?_) #[true, true, true, true, true, true, false, true, false, false, false] rfl rfl (any_of HT_.out (by kernel_rfl)) (fun _ _ _ h => h) (Or.inl ⟨by rfl, ?_⟩) ?_ ?_
                rotate_left
                · intro w'
                  go_simp
                  with_reducible rfl
                rotate_left
                · simp only [Act.put, List.setIfInBounds_toArray, List.set_cons_zero, List.set_cons_succ, i64_w, i32_w]
                  rfl
                refine one_ (i := 6) (N := some 37) #[true, true, true, true, true, true, true, true, false, false, false] rfl rfl (one_of HT_.out (by kernel_rfl)) (by decide) (fun K hK => ?_)
                refine goes_ Try.func127 (by kernel_rfl) rfl #[.pointer (some ⟨g, 0, none⟩), .int .i64 (x86015003_1.length : Int)] (by rfl) rfl rfl (by (try simp only [List.map_toArray, List.map_cons, List.map_nil]); first | done | rfl | (simp only [List.length_drop, List.length_take]; rfl)) ?_
                with_reducible refine (spec_reader_pick.calls kj25 g s0_0 x1001_1 (x86015003_1.length : Int) t86017 t86018 w0 _ ?side1 ?side2 A35.out).mono ?_
                (case side1 => repeat (first | (with_reducible first | exact HI0.out | apply IsS144.alloc | apply IsS144.drewN | apply IsS144.drew | apply IsS144.set_1 | refine IsS144.far ?_ NB0_86001.out _ | refine IsS144.far ?_ NB0_86002.out _ | refine IsS144.far ?_ NB0_86010.out _ | refine IsS144.far ?_ NB0_86014.out _) | exact HI0.out))
                (case side2 => repeat (first | (with_reducible first | exact HB.out | apply below_alloc | apply pw_below_drewN | apply below_drew1 | refine below_set ?_ (IsS144.ge HI0.out) | refine below_set ?_ GE86001.out | refine below_set ?_ GE86002.out | refine below_set ?_ GE86010.out | refine below_set ?_ GE86014.out) | exact HB.out))
                rintro e w42 ⟨rfl, hi, hb, hk⟩
                refine ⟨_, rfl, ?_⟩
                have n0_ := Aside0.mk (Kd.Q_mono (Kd.Q_keep (IsS144.apartQ (show IsS144 w0 _ g s0_0 x1001_1 from by repeat (first | (with_reducible first | exact HI0.out | apply IsS144.alloc | apply IsS144.drewN | apply IsS144.drew | apply IsS144.set_1 | refine IsS144.far ?_ NB0_86001.out _ | refine IsS144.far ?_ NB0_86002.out _ | refine IsS144.far ?_ NB0_86010.out _ | refine IsS144.far ?_ NB0_86014.out _) | exact HI0.out)) (by (with_reducible repeat (first | apply Kd.Q_alloc | apply Kd.Q_drewN | apply Kd.Q_drew)); exact HO_86011003.out) (by decide)) hk (fun _ h => h.2)) (fun _ h => h.1))
                have n1_ := Aside0.mk (Kd.Q_mono (Kd.Q_keep (IsS144.apartQ (show IsS144 w0 _ g s0_0 x1001_1 from by repeat (first | (with_reducible first | exact HI0.out | apply IsS144.alloc | apply IsS144.drewN | apply IsS144.drew | apply IsS144.set_1 | refine IsS144.far ?_ NB0_86001.out _ | refine IsS144.far ?_ NB0_86002.out _ | refine IsS144.far ?_ NB0_86010.out _ | refine IsS144.far ?_ NB0_86014.out _) | exact HI0.out)) (by (with_reducible repeat (first | apply Kd.Q_alloc | apply Kd.Q_drewN | apply Kd.Q_drew)); exact HO_86015003.out) (by decide)) hk (fun _ h => h.2)) (fun _ h => h.1))
                have n2_ := Aside0.mk (KeepBut.blk hk (g' := gb86001) (o := .cells #[.int .i64 0, .int .i64 0, .int .i64 0, .slice none 0 0] 27 (0, 0)) (by (with_reducible repeat (first | refine blk_drewN ?_ _ | refine blk_drew ?_ | refine blk_alloc ?_ _)); exact BK86001.out) NB86001_0.out (by simp))
                have n3_ := Aside0.mk (KeepBut.blk hk (g' := gb86002) (o := .cells #[.int .i64 0, .int .i64 0, .int .i64 0, .slice none 0 0] 27 (0, 0)) (by (with_reducible repeat (first | refine blk_drewN ?_ _ | refine blk_drew ?_ | refine blk_alloc ?_ _)); exact BK86002.out) NB86002_0.out (by simp))
                have n4_ := Aside0.mk (KeepBut.blk hk (g' := gb86010) (o := .cells #[.int .i64 t86003, .int .i64 t86004, .int .i64 t86005, u86011003] 27 (0, 0)) (by (with_reducible repeat (first | refine blk_drewN ?_ _ | refine blk_drew ?_ | refine blk_alloc ?_ _)); exact BK86010.out) NB86010_0.out (by simp))
                have n5_ := Aside0.mk (KeepBut.blk hk (g' := gb86014) (o := .cells #[.int .i64 t86003, .int .i64 t86004, .int .i64 t86005, .slice Ao41 x86015003_1.length co41] 27 (0, 0)) (by (with_reducible repeat (first | refine blk_drewN ?_ _ | refine blk_drew ?_ | refine blk_alloc ?_ _)); exact BK86014.out) NB86014_0.out (by simp))
                have n6_ := Aside0.mk (KeepBut.trans (by repeat (first | (with_reducible first | exact HK.out | apply KeepBut.set_ | apply keep_drewN | apply keep_drew | apply keep_alloc | refine keep_far ?_ GW86001.out _ | refine keep_far ?_ GW86002.out _ | refine keep_far ?_ GW86010.out _ | refine keep_far ?_ GW86014.out _) | exact HK.out)) hk (.inl rfl))
                have n7_ := Aside0.mk (hb)
                have n8_ := Aside0.mk (hi)
                clear HO_86011003
                clear HO_86015003
                clear BK86001
                clear BK86002
                clear BK86010
                clear BK86014
                clear HK
                clear HB
                clear HI0
                have HO_86011003 := n0_
                have HO_86015003 := n1_
                have BK86001 := n2_
                have BK86002 := n3_
                have BK86010 := n4_
                have BK86014 := n5_
                have HK := n6_
                have HB := n7_
                have HI0 := n8_
                clear n0_ n1_ n2_ n3_ n4_ n5_ n6_ n7_ n8_
                (try clear hb)
                (try clear hb2)
                (try clear hk)
                (try clear hi)
                refine hK.out _ _ ⟨(blk_cell BK86014.out 0).trans rfl, (blk_cell BK86014.out 1).trans rfl, (blk_cell BK86014.out 2).trans rfl, (blk_cell BK86014.out 3).trans rfl⟩ (fun hHeld => ?_)
                clear hK K
                refine norm_ (a' := ?_) ?_ ?_
                rotate_left
                · show Act.put _ (some 37) _ = _
                  simp only [Act.put, List.setIfInBounds_toArray, List.set_cons_zero, List.set_cons_succ, i64_w, i32_w]
                  rfl
                refine one_ (i := 8) (N := some 39) #[true, true, true, true, true, true, true, true, true, false, false] rfl rfl (one_of HT_.out (by kernel_rfl)) (by decide) (fun K hK => ?_)
                refine goes_ Try.func127 (by kernel_rfl) rfl #[.pointer (some ⟨g, 0, none⟩), .int .i64 256] (by rfl) rfl rfl (by (try simp only [List.map_toArray, List.map_cons, List.map_nil]); first | done | rfl | (simp only [List.length_drop, List.length_take]; rfl)) ?_
                with_reducible refine (spec_reader_pick.calls kj25 g s0_0 t86018 256 t86019 t86020 w0 _ ?side1 ?side2 A36.out).mono ?_
                (case side1 => repeat (first | (with_reducible first | exact HI0.out | apply IsS144.alloc | apply IsS144.drewN | apply IsS144.drew | apply IsS144.set_1 | refine IsS144.far ?_ NB0_86001.out _ | refine IsS144.far ?_ NB0_86002.out _ | refine IsS144.far ?_ NB0_86010.out _ | refine IsS144.far ?_ NB0_86014.out _) | exact HI0.out))
                (case side2 => repeat (first | (with_reducible first | exact HB.out | apply below_alloc | apply pw_below_drewN | apply below_drew1 | refine below_set ?_ (IsS144.ge HI0.out) | refine below_set ?_ GE86001.out | refine below_set ?_ GE86002.out | refine below_set ?_ GE86010.out | refine below_set ?_ GE86014.out) | exact HB.out))
                rintro e w43 ⟨rfl, hi, hb, hk⟩
                refine ⟨_, rfl, ?_⟩
                have n0_ := Aside0.mk (Kd.Q_mono (Kd.Q_keep (IsS144.apartQ (show IsS144 w0 _ g s0_0 t86018 from by repeat (first | (with_reducible first | exact HI0.out | apply IsS144.alloc | apply IsS144.drewN | apply IsS144.drew | apply IsS144.set_1 | refine IsS144.far ?_ NB0_86001.out _ | refine IsS144.far ?_ NB0_86002.out _ | refine IsS144.far ?_ NB0_86010.out _ | refine IsS144.far ?_ NB0_86014.out _) | exact HI0.out)) (by (with_reducible repeat (first | apply Kd.Q_alloc | apply Kd.Q_drewN | apply Kd.Q_drew)); exact HO_86011003.out) (by decide)) hk (fun _ h => h.2)) (fun _ h => h.1))
                have n1_ := Aside0.mk (Kd.Q_mono (Kd.Q_keep (IsS144.apartQ (show IsS144 w0 _ g s0_0 t86018 from by repeat (first | (with_reducible first | exact HI0.out | apply IsS144.alloc | apply IsS144.drewN | apply IsS144.drew | apply IsS144.set_1 | refine IsS144.far ?_ NB0_86001.out _ | refine IsS144.far ?_ NB0_86002.out _ | refine IsS144.far ?_ NB0_86010.out _ | refine IsS144.far ?_ NB0_86014.out _) | exact HI0.out)) (by (with_reducible repeat (first | apply Kd.Q_alloc | apply Kd.Q_drewN | apply Kd.Q_drew)); exact HO_86015003.out) (by decide)) hk (fun _ h => h.2)) (fun _ h => h.1))
                have n2_ := Aside0.mk (KeepBut.blk hk (g' := gb86001) (o := .cells #[.int .i64 0, .int .i64 0, .int .i64 0, .slice none 0 0] 27 (0, 0)) (by (with_reducible repeat (first | refine blk_drewN ?_ _ | refine blk_drew ?_ | refine blk_alloc ?_ _)); exact BK86001.out) NB86001_0.out (by simp))
                have n3_ := Aside0.mk (KeepBut.blk hk (g' := gb86002) (o := .cells #[.int .i64 0, .int .i64 0, .int .i64 0, .slice none 0 0] 27 (0, 0)) (by (with_reducible repeat (first | refine blk_drewN ?_ _ | refine blk_drew ?_ | refine blk_alloc ?_ _)); exact BK86002.out) NB86002_0.out (by simp))
                have n4_ := Aside0.mk (KeepBut.blk hk (g' := gb86010) (o := .cells #[.int .i64 t86003, .int .i64 t86004, .int .i64 t86005, u86011003] 27 (0, 0)) (by (with_reducible repeat (first | refine blk_drewN ?_ _ | refine blk_drew ?_ | refine blk_alloc ?_ _)); exact BK86010.out) NB86010_0.out (by simp))
                have n5_ := Aside0.mk (KeepBut.blk hk (g' := gb86014) (o := .cells #[.int .i64 t86003, .int .i64 t86004, .int .i64 t86005, .slice Ao41 x86015003_1.length co41] 27 (0, 0)) (by (with_reducible repeat (first | refine blk_drewN ?_ _ | refine blk_drew ?_ | refine blk_alloc ?_ _)); exact BK86014.out) NB86014_0.out (by simp))
                have n6_ := Aside0.mk (KeepBut.trans (by repeat (first | (with_reducible first | exact HK.out | apply KeepBut.set_ | apply keep_drewN | apply keep_drew | apply keep_alloc | refine keep_far ?_ GW86001.out _ | refine keep_far ?_ GW86002.out _ | refine keep_far ?_ GW86010.out _ | refine keep_far ?_ GW86014.out _) | exact HK.out)) hk (.inl rfl))
                have n7_ := Aside0.mk (hb)
                have n8_ := Aside0.mk (hi)
                clear HO_86011003
                clear HO_86015003
                clear BK86001
                clear BK86002
                clear BK86010
                clear BK86014
                clear HK
                clear HB
                clear HI0
                have HO_86011003 := n0_
                have HO_86015003 := n1_
                have BK86001 := n2_
                have BK86002 := n3_
                have BK86010 := n4_
                have BK86014 := n5_
                have HK := n6_
                have HB := n7_
                have HI0 := n8_
                clear n0_ n1_ n2_ n3_ n4_ n5_ n6_ n7_ n8_
                (try clear hb)
                (try clear hb2)
                (try clear hk)
                (try clear hi)
                have p39 : 0 ≤ (t86017 : Int) := of_decide_eq_true (by first | (with_reducible assumption) | assumption)
                have q39 : (t86017 : Int) < ((x86015003_1.length : Int) : Int) := of_decide_eq_true (by first | (with_reducible assumption) | assumption)
                obtain ⟨go39, oo39, co39, eo39, gb39, gl39, cl39, HG39⟩ := Kd.Q_form HO_86015003.out (by omega)
                (first | cases eo39 | (injection eo39 with ea_ en_ ec_; (first | subst ea_ | (injection ea_ with ea_; subst ea_)); subst ec_; clear en_))
                have GB39 := Aside0.mk gb39
                have GG39 := Aside0.mk HG39
                clear gb39 gl39 HG39
                obtain ⟨hx39_0, hf39_0⟩ := Kd.Q_cell 0 HO_86015003.out (t86017 : Int) p39 q39
                replace p39 := eq_true p39
                replace q39 := eq_true q39
                have HN0_go39 := Aside0.mk (show g ≠ go39 from by have h_ := IsS144.own_neQ HI0.out HO_86015003.out (by decide); intro e_; exact h_ (by rw [e_]; rfl))
                have HP44 := (Kd.Q_putg HO_86015003.out (t86017 : Int) (of_decide_eq_true (by first | (with_reducible assumption) | assumption)) (by have h_ : (t86017 : Int) < ((x86015003_1.length : Int) : Int) := of_decide_eq_true (by first | (with_reducible assumption) | assumption); first | exact h_ | (have e_ := (Kd.Q_reads' HO_86015003.out).1; omega) | simpa using h_) t86019).1
                rw [← Ny86021.out] at HP44
                have HQ44 := Aside0.mk HP44
                clear HP44
                refine hK.out _ _ ⟨(blk_cell BK86014.out 0).trans rfl, (blk_cell BK86014.out 1).trans rfl, (blk_cell BK86014.out 2).trans rfl, (blk_cell BK86014.out 3).trans rfl⟩ (fun hHeld => ?_)
                clear hK K
                refine norm_ (a' := ?_) ?_ ?_
                rotate_left
                · show Act.put _ (some 39) _ = _
                  simp only [Act.put, List.setIfInBounds_toArray, List.set_cons_zero, List.set_cons_succ, i64_w, i32_w]
                  rfl
                refine pure_ (i := 9) (N := some 40) (v := ?_) (a' := ?_) #[true, true, true, true, true, true, true, true, true, true, false] rfl rfl (any_of HT_.out (by kernel_rfl)) (fun _ _ _ h => h) (Or.inl ⟨by rfl, ?_⟩) ?_ ?_
                rotate_left
                · intro w'
                  go_simp
                  with_reducible rfl
                rotate_left
                · simp only [Act.put, List.setIfInBounds_toArray, List.set_cons_zero, List.set_cons_succ, i64_w, i32_w]
                  rfl
                refine last_ (i := 10) (N := none) #[true, true, true, true, true, true, true, true, true, true, true] rfl rfl (one_of HT_.out (by kernel_rfl)) (by decide) (fun K hK => ?_)
                refine skip_ (w1 := ?_) (by rfl) rfl ?_ ?_
                rotate_left
                · go_simp
                  rfl
                refine hK.out _ _ ?_
                clear hK K
                refine done_ (done_of HT_.out (by kernel_rfl)) ?_
                try go_wp2
                go_roundg kj25
                case measure => have := HK1.out; have := HJ25.out; omega
                case rel => exact ⟨(wrap64 (x6_1 - 1)), (t86020), (x86011003_1), (y86021), (u86011003), (.slice (some ⟨go39, oo39, none⟩) x86015003_1.length co41), (by first | rfl | (simp; done) | (simp [*]; done)), H', ⟨by have := HK1.out; have := HJ25.out; omega⟩, ⟨by (with_reducible repeat (first | apply Kd.Q_alloc | apply Kd.Q_drewN | apply Kd.Q_drew)); exact Kd.Q_mono (Kd.Q_far (p := ⟨go39, oo39 + (t86017 : Int).toNat, none⟩) (Kd.Q_mono HO_86011003.out (fun k_ hk => (⟨hk, fun e_ => hk (by rw [e_]; rfl)⟩ : _ ∧ k_ ≠ go39))) (fun _ hk => hk.2) (.int .i64 t86019)) (fun _ hk => hk.1)⟩, ⟨by (with_reducible repeat (first | apply Kd.Q_alloc | apply Kd.Q_drewN | apply Kd.Q_drew)); exact HQ44.out⟩, ⟨by (with_reducible repeat (first | refine blk_drewN ?_ _ | refine blk_drew ?_ | refine blk_alloc ?_ _)); refine blk_far ?_ (by have h_ := Kd.Q_ne HO_86015003.out BK86001.out (by decide); intro e_; exact h_ (by rw [e_]; rfl)) _; (with_reducible repeat (first | refine blk_drewN ?_ _ | refine blk_drew ?_ | refine blk_alloc ?_ _)); exact BK86001.out⟩, ⟨by (with_reducible repeat (first | refine blk_drewN ?_ _ | refine blk_drew ?_ | refine blk_alloc ?_ _)); refine blk_far ?_ (by have h_ := Kd.Q_ne HO_86015003.out BK86002.out (by decide); intro e_; exact h_ (by rw [e_]; rfl)) _; (with_reducible repeat (first | refine blk_drewN ?_ _ | refine blk_drew ?_ | refine blk_alloc ?_ _)); exact BK86002.out⟩, ⟨by (with_reducible repeat (first | refine blk_drewN ?_ _ | refine blk_drew ?_ | refine blk_alloc ?_ _)); refine blk_far ?_ (by have h_ := Kd.Q_ne HO_86015003.out BK86010.out (by decide); intro e_; exact h_ (by rw [e_]; rfl)) _; (with_reducible repeat (first | refine blk_drewN ?_ _ | refine blk_drew ?_ | refine blk_alloc ?_ _)); exact BK86010.out⟩, ⟨by (with_reducible repeat (first | refine blk_drewN ?_ _ | refine blk_drew ?_ | refine blk_alloc ?_ _)); refine blk_far ?_ (by have h_ := Kd.Q_ne HO_86015003.out BK86014.out (by decide); intro e_; exact h_ (by rw [e_]; rfl)) _; (with_reducible repeat (first | refine blk_drewN ?_ _ | refine blk_drew ?_ | refine blk_alloc ?_ _)); exact BK86014.out⟩, ⟨by repeat (first | (with_reducible first | exact HI0.out | apply IsS144.alloc | apply IsS144.drewN | apply IsS144.drew | apply IsS144.set_1 | refine IsS144.far ?_ HN0_go39.out _ | refine IsS144.far ?_ NB0_86001.out _ | refine IsS144.far ?_ NB0_86002.out _ | refine IsS144.far ?_ NB0_86010.out _ | refine IsS144.far ?_ NB0_86014.out _) | exact HI0.out)⟩, ⟨by repeat (first | (with_reducible first | exact HK.out | apply KeepBut.set_ | apply keep_drewN | apply keep_drew | apply keep_alloc | refine keep_far ?_ GB39.out _ | refine keep_far ?_ GW86001.out _ | refine keep_far ?_ GW86002.out _ | refine keep_far ?_ GW86010.out _ | refine keep_far ?_ GW86014.out _) | exact HK.out)⟩, ⟨by repeat (first | (with_reducible first | exact HB.out | apply below_alloc | apply pw_below_drewN | apply below_drew1 | refine below_set ?_ (Nat.le_trans HL.out GB39.out) | refine below_set ?_ (IsS144.ge HI0.out) | refine below_set ?_ GE86001.out | refine below_set ?_ GE86002.out | refine below_set ?_ GE86010.out | refine below_set ?_ GE86014.out) | exact HB.out)⟩⟩
              · rw [if_neg c38] at H
                exact absurd H (by simp)
            · rw [if_neg c37] at H
              exact absurd H (by simp)
          · replace c34 := Bool.eq_false_iff.mpr c34
            subst c34
            have H1 : ((spec_reader_pick.f kj25 s0_0 x1001_1 16).bind fun bt86022 => (if bt86022.1 = 0 then ((spec_anyImage.f kj25 s0_0 bt86022.2).bind fun bt86024 => (some (t86003, t86004, t86005, x86011003_1, bt86024.1, bt86024.2.1, bt86024.2.2.1, bt86024.2.2.2.1, bt86024.2.2.2.2))) else (some (t86003, t86004, t86005, x86011003_1, t86003, t86004, t86005, x86015003_1, bt86022.2)))) = some (r1, r2, r3, r4, r5, r6, r7, r8, r9) := by rw [if_neg (show ¬ (false = true) by decide)] at H; exact H
            clear H
            have H := H1
            clear H1
            replace H := Option.bind_eq_some_iff.mp H
            obtain ⟨⟨t86022, t86023⟩, A450, H⟩ := H
            replace H : (if t86022 = 0 then ((spec_anyImage.f kj25 s0_0 t86023).bind fun bt86024 => (some (t86003, t86004, t86005, x86011003_1, bt86024.1, bt86024.2.1, bt86024.2.2.1, bt86024.2.2.2.1, bt86024.2.2.2.2))) else (some (t86003, t86004, t86005, x86011003_1, t86003, t86004, t86005, x86015003_1, t86023))) = some (r1, r2, r3, r4, r5, r6, r7, r8, r9) := H
            have A45 := Aside0.mk A450
            clear A450
            by_cases c46 : t86022 = 0
            · rw [if_pos c46] at H
              have c46b0 : (t86022 == 0) = true := beq_iff_eq.mpr c46
              have c46b1 : (t86022 != 0) = false := bne_eq_false_iff_eq.mpr c46
              clear c46
              replace H := Option.bind_eq_some_iff.mp H
              obtain ⟨⟨t86024, t86025, t86026, t86027, t86030⟩, A470, H⟩ := H
              replace H : (some (t86003, t86004, t86005, x86011003_1, t86024, t86025, t86026, t86027, t86030)) = some (r1, r2, r3, r4, r5, r6, r7, r8, r9) := H
              have A47 := Aside0.mk A470
              clear A470
              simp only [Option.some.injEq, Prod.mk.injEq] at H
              obtain ⟨rfl, rfl, rfl, rfl, rfl, rfl, rfl, rfl, rfl⟩ := H
              try go_wp2_with (first | ((with_reducible refine gate_callee (f := 127) rfl ?_); refine goesL_ (some 42) rfl rfl Try.func127 (by kernel_rfl) rfl #[.pointer (some ⟨g, 0, none⟩), .int .i64 16] rfl (by (try simp only [List.map_toArray, List.map_cons, List.map_nil]); first | done | rfl | (simp only [List.length_drop, List.length_take]; rfl)) ?_; (with_reducible refine (spec_reader_pick.calls kj25 g s0_0 x1001_1 16 t86022 t86023 w0 _ ?side1 ?side2 A45.out).mono ?_); (case side1 => repeat (first | (with_reducible first | exact HI0.out | apply IsS144.alloc | apply IsS144.drewN | apply IsS144.drew | apply IsS144.set_1 | refine IsS144.far ?_ NB0_86001.out _ | refine IsS144.far ?_ NB0_86002.out _ | refine IsS144.far ?_ NB0_86010.out _ | refine IsS144.far ?_ NB0_86014.out _) | exact HI0.out)); (case side2 => repeat (first | (with_reducible first | exact HB.out | apply below_alloc | apply pw_below_drewN | apply below_drew1 | refine below_set ?_ (IsS144.ge HI0.out) | refine below_set ?_ GE86001.out | refine below_set ?_ GE86002.out | refine below_set ?_ GE86010.out | refine below_set ?_ GE86014.out) | exact HB.out)); rintro e w48 ⟨rfl, hi, hb, hk⟩; refine ⟨_, rfl, ?_⟩; have n0_ := Aside0.mk (Kd.Q_mono (Kd.Q_keep (IsS144.apartQ (show IsS144 w0 _ g s0_0 x1001_1 from by repeat (first | (with_reducible first | exact HI0.out | apply IsS144.alloc | apply IsS144.drewN | apply IsS144.drew | apply IsS144.set_1 | refine IsS144.far ?_ NB0_86001.out _ | refine IsS144.far ?_ NB0_86002.out _ | refine IsS144.far ?_ NB0_86010.out _ | refine IsS144.far ?_ NB0_86014.out _) | exact HI0.out)) (by (with_reducible repeat (first | apply Kd.Q_alloc | apply Kd.Q_drewN | apply Kd.Q_drew)); exact HO_86011003.out) (by decide)) hk (fun _ h => h.2)) (fun _ h => h.1)); have n1_ := Aside0.mk (Kd.Q_mono (Kd.Q_keep (IsS144.apartQ (show IsS144 w0 _ g s0_0 x1001_1 from by repeat (first | (with_reducible first | exact HI0.out | apply IsS144.alloc | apply IsS144.drewN | apply IsS144.drew | apply IsS144.set_1 | refine IsS144.far ?_ NB0_86001.out _ | refine IsS144.far ?_ NB0_86002.out _ | refine IsS144.far ?_ NB0_86010.out _ | refine IsS144.far ?_ NB0_86014.out _) | exact HI0.out)) (by (with_reducible repeat (first | apply Kd.Q_alloc | apply Kd.Q_drewN | apply Kd.Q_drew)); exact HO_86015003.out) (by decide)) hk (fun _ h => h.2)) (fun _ h => h.1)); have n2_ := Aside0.mk (KeepBut.blk hk (g' := gb86001) (o := .cells #[.int .i64 0, .int .i64 0, .int .i64 0, .slice none 0 0] 27 (0, 0)) (by (with_reducible repeat (first | refine blk_drewN ?_ _ | refine blk_drew ?_ | refine blk_alloc ?_ _)); exact BK86001.out) NB86001_0.out (by simp)); have n3_ := Aside0.mk (KeepBut.blk hk (g' := gb86002) (o := .cells #[.int .i64 0, .int .i64 0, .int .i64 0, .slice none 0 0] 27 (0, 0)) (by (with_reducible repeat (first | refine blk_drewN ?_ _ | refine blk_drew ?_ | refine blk_alloc ?_ _)); exact BK86002.out) NB86002_0.out (by simp)); have n4_ := Aside0.mk (KeepBut.blk hk (g' := gb86010) (o := .cells #[.int .i64 t86003, .int .i64 t86004, .int .i64 t86005, u86011003] 27 (0, 0)) (by (with_reducible repeat (first | refine blk_drewN ?_ _ | refine blk_drew ?_ | refine blk_alloc ?_ _)); exact BK86010.out) NB86010_0.out (by simp)); have n5_ := Aside0.mk (KeepBut.blk hk (g' := gb86014) (o := .cells #[.int .i64 t86003, .int .i64 t86004, .int .i64 t86005, u86015003] 27 (0, 0)) (by (with_reducible repeat (first | refine blk_drewN ?_ _ | refine blk_drew ?_ | refine blk_alloc ?_ _)); exact BK86014.out) NB86014_0.out (by simp)); have n6_ := Aside0.mk (KeepBut.trans (by repeat (first | (with_reducible first | exact HK.out | apply KeepBut.set_ | apply keep_drewN | apply keep_drew | apply keep_alloc | refine keep_far ?_ GW86001.out _ | refine keep_far ?_ GW86002.out _ | refine keep_far ?_ GW86010.out _ | refine keep_far ?_ GW86014.out _) | exact HK.out)) hk (.inl rfl)); have n7_ := Aside0.mk (hb); have n8_ := Aside0.mk (hi); clear HO_86011003; clear HO_86015003; clear BK86001; clear BK86002; clear BK86010; clear BK86014; clear HK; clear HB; clear HI0; have HO_86011003 := n0_; have HO_86015003 := n1_; have BK86001 := n2_; have BK86002 := n3_; have BK86010 := n4_; have BK86014 := n5_; have HK := n6_; have HB := n7_; have HI0 := n8_; clear n0_ n1_ n2_ n3_ n4_ n5_ n6_ n7_ n8_; (try clear hb); (try clear hb2); (try clear hk); (try clear hi)) | ((with_reducible refine gate_callee (f := 94) rfl ?_); refine goesL_ (some 45) rfl rfl Try.func94 (by kernel_rfl) rfl #[.pointer (some ⟨g, 0, none⟩)] rfl (by (try simp only [List.map_toArray, List.map_cons, List.map_nil]); first | done | rfl | (simp only [List.length_drop, List.length_take]; rfl)) ?_; (with_reducible refine (spec_anyImage.calls kj25 g s0_0 t86023 t86024 t86025 t86026 t86027 t86030 w0 _ ?side1 ?side2 A47.out).mono ?_); (case side1 => repeat (first | (with_reducible first | exact HI0.out | apply IsS144.alloc | apply IsS144.drewN | apply IsS144.drew | apply IsS144.set_1 | refine IsS144.far ?_ NB0_86001.out _ | refine IsS144.far ?_ NB0_86002.out _ | refine IsS144.far ?_ NB0_86010.out _ | refine IsS144.far ?_ NB0_86014.out _) | exact HI0.out)); (case side2 => repeat (first | (with_reducible first | exact HB.out | apply below_alloc | apply pw_below_drewN | apply below_drew1 | refine below_set ?_ (IsS144.ge HI0.out) | refine below_set ?_ GE86001.out | refine below_set ?_ GE86002.out | refine below_set ?_ GE86010.out | refine below_set ?_ GE86014.out) | exact HB.out)); rintro e w49 ⟨v86028, rfl, ho0, hi, hb, hk⟩; refine ⟨_, rfl, ?_⟩; have n0_ := Aside0.mk (Kd.Q_mono (Kd.Q_told (Kd.Q_oldK (IsS144.apartQ (show IsS144 w0 _ g s0_0 t86023 from by repeat (first | (with_reducible first | exact HI0.out | apply IsS144.alloc | apply IsS144.drewN | apply IsS144.drew | apply IsS144.set_1 | refine IsS144.far ?_ NB0_86001.out _ | refine IsS144.far ?_ NB0_86002.out _ | refine IsS144.far ?_ NB0_86010.out _ | refine IsS144.far ?_ NB0_86014.out _) | exact HI0.out)) (by (with_reducible repeat (first | apply Kd.Q_alloc | apply Kd.Q_drewN | apply Kd.Q_drew)); exact HO_86011003.out) (by decide)) hk) (Kd.Q_base ho0)) (fun _ h_ => h_.1)); have n1_ := Aside0.mk (Kd.Q_mono (Kd.Q_told (Kd.Q_oldK (IsS144.apartQ (show IsS144 w0 _ g s0_0 t86023 from by repeat (first | (with_reducible first | exact HI0.out | apply IsS144.alloc | apply IsS144.drewN | apply IsS144.drew | apply IsS144.set_1 | refine IsS144.far ?_ NB0_86001.out _ | refine IsS144.far ?_ NB0_86002.out _ | refine IsS144.far ?_ NB0_86010.out _ | refine IsS144.far ?_ NB0_86014.out _) | exact HI0.out)) (by (with_reducible repeat (first | apply Kd.Q_alloc | apply Kd.Q_drewN | apply Kd.Q_drew)); exact HO_86015003.out) (by decide)) hk) (Kd.Q_base ho0)) (fun _ h_ => h_.1)); have n2_ := Aside0.mk (KeepBut.blk hk (g' := gb86001) (o := .cells #[.int .i64 0, .int .i64 0, .int .i64 0, .slice none 0 0] 27 (0, 0)) (by (with_reducible repeat (first | refine blk_drewN ?_ _ | refine blk_drew ?_ | refine blk_alloc ?_ _)); exact BK86001.out) NB86001_0.out (by simp)); have n3_ := Aside0.mk (KeepBut.blk hk (g' := gb86002) (o := .cells #[.int .i64 0, .int .i64 0, .int .i64 0, .slice none 0 0] 27 (0, 0)) (by (with_reducible repeat (first | refine blk_drewN ?_ _ | refine blk_drew ?_ | refine blk_alloc ?_ _)); exact BK86002.out) NB86002_0.out (by simp)); have n4_ := Aside0.mk (KeepBut.blk hk (g' := gb86010) (o := .cells #[.int .i64 t86003, .int .i64 t86004, .int .i64 t86005, u86011003] 27 (0, 0)) (by (with_reducible repeat (first | refine blk_drewN ?_ _ | refine blk_drew ?_ | refine blk_alloc ?_ _)); exact BK86010.out) NB86010_0.out (by simp)); have n5_ := Aside0.mk (KeepBut.blk hk (g' := gb86014) (o := .cells #[.int .i64 t86003, .int .i64 t86004, .int .i64 t86005, u86015003] 27 (0, 0)) (by (with_reducible repeat (first | refine blk_drewN ?_ _ | refine blk_drew ?_ | refine blk_alloc ?_ _)); exact BK86014.out) NB86014_0.out (by simp)); have n6_ := Aside0.mk (Kd.Q_lower (Kd.Q_new' (Kd.Q_new' ho0 (Kd.Q_lt (by (with_reducible repeat (first | apply Kd.Q_alloc | apply Kd.Q_drewN | apply Kd.Q_drew)); exact HO_86011003.out))) (Kd.Q_lt (by (with_reducible repeat (first | apply Kd.Q_alloc | apply Kd.Q_drewN | apply Kd.Q_drew)); exact HO_86015003.out))) (keep_size (w := w) (g := g) (row := none) (by repeat (first | (with_reducible first | exact HK.out | apply KeepBut.set_ | apply keep_drewN | apply keep_drew | apply keep_alloc | refine keep_far ?_ GW86001.out _ | refine keep_far ?_ GW86002.out _ | refine keep_far ?_ GW86010.out _ | refine keep_far ?_ GW86014.out _) | exact HK.out)))); have n7_ := Aside0.mk (KeepBut.trans (by repeat (first | (with_reducible first | exact HK.out | apply KeepBut.set_ | apply keep_drewN | apply keep_drew | apply keep_alloc | refine keep_far ?_ GW86001.out _ | refine keep_far ?_ GW86002.out _ | refine keep_far ?_ GW86010.out _ | refine keep_far ?_ GW86014.out _) | exact HK.out)) hk (.inl rfl)); have n8_ := Aside0.mk (hb); have n9_ := Aside0.mk (hi); clear HO_86011003; clear HO_86015003; clear BK86001; clear BK86002; clear BK86010; clear BK86014; clear HK; clear HB; clear HI0; have HO_86011003 := n0_; have HO_86015003 := n1_; have BK86001 := n2_; have BK86002 := n3_; have BK86010 := n4_; have BK86014 := n5_; have HO86029 := n6_; have HK := n7_; have HB := n8_; have HI0 := n9_; clear n0_ n1_ n2_ n3_ n4_ n5_ n6_ n7_ n8_ n9_; (try clear hb); (try clear hb2); (try clear hk); (try clear hi); (try clear ho0); have hnb50 := NB86014_86001.out; have hnc50 := NB86001_86014.out; have hnb51 := NB86014_86002.out; have hnc51 := NB86002_86014.out; have hnb52 := NB86014_86010.out; have hnc52 := NB86010_86014.out; have hnb53 := NB86014_0.out; have hnc53 := NB0_86014.out; have hcz54_0 : w49.cell? ⟨gb86014, 0, none⟩ = some (.int .i64 t86003) := (blk_cell BK86014.out 0).trans rfl; have hcz54_1 : w49.cell? ⟨gb86014, 1, none⟩ = some (.int .i64 t86004) := (blk_cell BK86014.out 1).trans rfl; have hcz54_2 : w49.cell? ⟨gb86014, 2, none⟩ = some (.int .i64 t86005) := (blk_cell BK86014.out 2).trans rfl; have hcz54_3 : w49.cell? ⟨gb86014, 3, none⟩ = some (u86015003) := (blk_cell BK86014.out 3).trans rfl; have hfz54_0 := blk_frozen BK86014.out 0; have hfz54_1 := blk_frozen BK86014.out 1; have hfz54_2 := blk_frozen BK86014.out 2; have hfz54_3 := blk_frozen BK86014.out 3; obtain ⟨Ao55, co55, eo55, _⟩ := Kd.Q_slice HO86029.out; subst eo55))
              have n0_ : Aside0 (Kd.Q (Kd.int .i64) 3 ((((w49.setCell ⟨gb86014, 0, none⟩ (.int .i64 t86024)).setCell ⟨gb86014, 1, none⟩ (.int .i64 t86025)).setCell ⟨gb86014, 2, none⟩ (.int .i64 t86026)).setCell ⟨gb86014, 3, none⟩ (.slice Ao55 t86027.length co55)) w.heap.size (fun k_ => some k_ ≠ (u86015003 : Value).ownBlock ∧ some k_ ≠ (.slice Ao55 t86027.length co55 : Value).ownBlock) u86011003 x86011003_1) := ⟨by (with_reducible repeat (first | apply Kd.Q_alloc | apply Kd.Q_drewN | apply Kd.Q_drew)); exact Kd.Q_mono (Kd.Q_far (p := ⟨gb86014, 3, none⟩) (Kd.Q_far (p := ⟨gb86014, 2, none⟩) (Kd.Q_far (p := ⟨gb86014, 1, none⟩) (Kd.Q_far (p := ⟨gb86014, 0, none⟩) (Kd.Q_types HO_86011003.out BK86014.out (by decide)) (fun _ hk => hk.2) (.int .i64 t86024)) (fun _ hk => hk.2) (.int .i64 t86025)) (fun _ hk => hk.2) (.int .i64 t86026)) (fun _ hk => hk.2) (.slice Ao55 t86027.length co55)) (fun _ hk => ⟨hk.1.1, hk.1.2⟩)⟩
              have n1_ : Aside0 (Kd.Q (Kd.int .i64) 3 ((((w49.setCell ⟨gb86014, 0, none⟩ (.int .i64 t86024)).setCell ⟨gb86014, 1, none⟩ (.int .i64 t86025)).setCell ⟨gb86014, 2, none⟩ (.int .i64 t86026)).setCell ⟨gb86014, 3, none⟩ (.slice Ao55 t86027.length co55)) w.heap.size (fun k_ => some k_ ≠ (u86011003 : Value).ownBlock ∧ some k_ ≠ (.slice Ao55 t86027.length co55 : Value).ownBlock) u86015003 x86015003_1) := ⟨by (with_reducible repeat (first | apply Kd.Q_alloc | apply Kd.Q_drewN | apply Kd.Q_drew)); exact Kd.Q_mono (Kd.Q_far (p := ⟨gb86014, 3, none⟩) (Kd.Q_far (p := ⟨gb86014, 2, none⟩) (Kd.Q_far (p := ⟨gb86014, 1, none⟩) (Kd.Q_far (p := ⟨gb86014, 0, none⟩) (Kd.Q_types HO_86015003.out BK86014.out (by decide)) (fun _ hk => hk.2) (.int .i64 t86024)) (fun _ hk => hk.2) (.int .i64 t86025)) (fun _ hk => hk.2) (.int .i64 t86026)) (fun _ hk => hk.2) (.slice Ao55 t86027.length co55)) (fun _ hk => ⟨hk.1.1, hk.1.2⟩)⟩
              have n2_ : Aside0 (Kd.Q (Kd.int .i64) 3 ((((w49.setCell ⟨gb86014, 0, none⟩ (.int .i64 t86024)).setCell ⟨gb86014, 1, none⟩ (.int .i64 t86025)).setCell ⟨gb86014, 2, none⟩ (.int .i64 t86026)).setCell ⟨gb86014, 3, none⟩ (.slice Ao55 t86027.length co55)) w.heap.size (fun k_ => some k_ ≠ (u86011003 : Value).ownBlock ∧ some k_ ≠ (u86015003 : Value).ownBlock) (.slice Ao55 t86027.length co55) t86027) := ⟨by (with_reducible repeat (first | apply Kd.Q_alloc | apply Kd.Q_drewN | apply Kd.Q_drew)); exact Kd.Q_mono (Kd.Q_far (p := ⟨gb86014, 3, none⟩) (Kd.Q_far (p := ⟨gb86014, 2, none⟩) (Kd.Q_far (p := ⟨gb86014, 1, none⟩) (Kd.Q_far (p := ⟨gb86014, 0, none⟩) (Kd.Q_types HO86029.out BK86014.out (by decide)) (fun _ hk => hk.2) (.int .i64 t86024)) (fun _ hk => hk.2) (.int .i64 t86025)) (fun _ hk => hk.2) (.int .i64 t86026)) (fun _ hk => hk.2) (.slice Ao55 t86027.length co55)) (fun _ hk => ⟨hk.1.1.2, hk.1.2⟩)⟩
              have n3_ : Aside0 (((((w49.setCell ⟨gb86014, 0, none⟩ (.int .i64 t86024)).setCell ⟨gb86014, 1, none⟩ (.int .i64 t86025)).setCell ⟨gb86014, 2, none⟩ (.int .i64 t86026)).setCell ⟨gb86014, 3, none⟩ (.slice Ao55 t86027.length co55)).heap[gb86001]? = some (.cells #[.int .i64 0, .int .i64 0, .int .i64 0, .slice none 0 0] 27 (0, 0))) := ⟨by (with_reducible repeat (first | refine blk_drewN ?_ _ | refine blk_drew ?_ | refine blk_alloc ?_ _)); refine blk_far ?_ NB86001_86014.out _; (with_reducible repeat (first | refine blk_drewN ?_ _ | refine blk_drew ?_ | refine blk_alloc ?_ _)); refine blk_far ?_ NB86001_86014.out _; (with_reducible repeat (first | refine blk_drewN ?_ _ | refine blk_drew ?_ | refine blk_alloc ?_ _)); refine blk_far ?_ NB86001_86014.out _; (with_reducible repeat (first | refine blk_drewN ?_ _ | refine blk_drew ?_ | refine blk_alloc ?_ _)); refine blk_far ?_ NB86001_86014.out _; (with_reducible repeat (first | refine blk_drewN ?_ _ | refine blk_drew ?_ | refine blk_alloc ?_ _)); exact BK86001.out⟩
              have n4_ : Aside0 (((((w49.setCell ⟨gb86014, 0, none⟩ (.int .i64 t86024)).setCell ⟨gb86014, 1, none⟩ (.int .i64 t86025)).setCell ⟨gb86014, 2, none⟩ (.int .i64 t86026)).setCell ⟨gb86014, 3, none⟩ (.slice Ao55 t86027.length co55)).heap[gb86002]? = some (.cells #[.int .i64 0, .int .i64 0, .int .i64 0, .slice none 0 0] 27 (0, 0))) := ⟨by (with_reducible repeat (first | refine blk_drewN ?_ _ | refine blk_drew ?_ | refine blk_alloc ?_ _)); refine blk_far ?_ NB86002_86014.out _; (with_reducible repeat (first | refine blk_drewN ?_ _ | refine blk_drew ?_ | refine blk_alloc ?_ _)); refine blk_far ?_ NB86002_86014.out _; (with_reducible repeat (first | refine blk_drewN ?_ _ | refine blk_drew ?_ | refine blk_alloc ?_ _)); refine blk_far ?_ NB86002_86014.out _; (with_reducible repeat (first | refine blk_drewN ?_ _ | refine blk_drew ?_ | refine blk_alloc ?_ _)); refine blk_far ?_ NB86002_86014.out _; (with_reducible repeat (first | refine blk_drewN ?_ _ | refine blk_drew ?_ | refine blk_alloc ?_ _)); exact BK86002.out⟩
              have n5_ : Aside0 (((((w49.setCell ⟨gb86014, 0, none⟩ (.int .i64 t86024)).setCell ⟨gb86014, 1, none⟩ (.int .i64 t86025)).setCell ⟨gb86014, 2, none⟩ (.int .i64 t86026)).setCell ⟨gb86014, 3, none⟩ (.slice Ao55 t86027.length co55)).heap[gb86010]? = some (.cells #[.int .i64 t86003, .int .i64 t86004, .int .i64 t86005, u86011003] 27 (0, 0))) := ⟨by (with_reducible repeat (first | refine blk_drewN ?_ _ | refine blk_drew ?_ | refine blk_alloc ?_ _)); refine blk_far ?_ NB86010_86014.out _; (with_reducible repeat (first | refine blk_drewN ?_ _ | refine blk_drew ?_ | refine blk_alloc ?_ _)); refine blk_far ?_ NB86010_86014.out _; (with_reducible repeat (first | refine blk_drewN ?_ _ | refine blk_drew ?_ | refine blk_alloc ?_ _)); refine blk_far ?_ NB86010_86014.out _; (with_reducible repeat (first | refine blk_drewN ?_ _ | refine blk_drew ?_ | refine blk_alloc ?_ _)); refine blk_far ?_ NB86010_86014.out _; (with_reducible repeat (first | refine blk_drewN ?_ _ | refine blk_drew ?_ | refine blk_alloc ?_ _)); exact BK86010.out⟩
              have n6_ : Aside0 (((((w49.setCell ⟨gb86014, 0, none⟩ (.int .i64 t86024)).setCell ⟨gb86014, 1, none⟩ (.int .i64 t86025)).setCell ⟨gb86014, 2, none⟩ (.int .i64 t86026)).setCell ⟨gb86014, 3, none⟩ (.slice Ao55 t86027.length co55)).heap[gb86014]? = some (.cells #[.int .i64 t86024, .int .i64 t86025, .int .i64 t86026, .slice Ao55 t86027.length co55] 27 (0, 0))) := ⟨by (with_reducible repeat (first | refine blk_drewN ?_ _ | refine blk_drew ?_ | refine blk_alloc ?_ _)); refine blk_put (cs := #[.int .i64 t86024, .int .i64 t86025, .int .i64 t86026, u86015003]) ?_ 3 _ rfl; (with_reducible repeat (first | refine blk_drewN ?_ _ | refine blk_drew ?_ | refine blk_alloc ?_ _)); refine blk_put (cs := #[.int .i64 t86024, .int .i64 t86025, .int .i64 t86005, u86015003]) ?_ 2 _ rfl; (with_reducible repeat (first | refine blk_drewN ?_ _ | refine blk_drew ?_ | refine blk_alloc ?_ _)); refine blk_put (cs := #[.int .i64 t86024, .int .i64 t86004, .int .i64 t86005, u86015003]) ?_ 1 _ rfl; (with_reducible repeat (first | refine blk_drewN ?_ _ | refine blk_drew ?_ | refine blk_alloc ?_ _)); refine blk_put (cs := #[.int .i64 t86003, .int .i64 t86004, .int .i64 t86005, u86015003]) ?_ 0 _ rfl; (with_reducible repeat (first | refine blk_drewN ?_ _ | refine blk_drew ?_ | refine blk_alloc ?_ _)); exact BK86014.out⟩
              have n7_ : Aside0 (IsS144 w0 ((((w49.setCell ⟨gb86014, 0, none⟩ (.int .i64 t86024)).setCell ⟨gb86014, 1, none⟩ (.int .i64 t86025)).setCell ⟨gb86014, 2, none⟩ (.int .i64 t86026)).setCell ⟨gb86014, 3, none⟩ (.slice Ao55 t86027.length co55)) g s0_0 t86030) := ⟨by repeat (first | (with_reducible first | exact HI0.out | apply IsS144.alloc | apply IsS144.drewN | apply IsS144.drew | apply IsS144.set_1 | refine IsS144.far ?_ NB0_86001.out _ | refine IsS144.far ?_ NB0_86002.out _ | refine IsS144.far ?_ NB0_86010.out _ | refine IsS144.far ?_ NB0_86014.out _) | exact HI0.out)⟩
              have n8_ : Aside0 (KeepBut w ((((w49.setCell ⟨gb86014, 0, none⟩ (.int .i64 t86024)).setCell ⟨gb86014, 1, none⟩ (.int .i64 t86025)).setCell ⟨gb86014, 2, none⟩ (.int .i64 t86026)).setCell ⟨gb86014, 3, none⟩ (.slice Ao55 t86027.length co55)) g none) := ⟨by repeat (first | (with_reducible first | exact HK.out | apply KeepBut.set_ | apply keep_drewN | apply keep_drew | apply keep_alloc | refine keep_far ?_ GW86001.out _ | refine keep_far ?_ GW86002.out _ | refine keep_far ?_ GW86010.out _ | refine keep_far ?_ GW86014.out _) | exact HK.out)⟩
              have n9_ : Aside0 (Below w0.heap.size w0 ((((w49.setCell ⟨gb86014, 0, none⟩ (.int .i64 t86024)).setCell ⟨gb86014, 1, none⟩ (.int .i64 t86025)).setCell ⟨gb86014, 2, none⟩ (.int .i64 t86026)).setCell ⟨gb86014, 3, none⟩ (.slice Ao55 t86027.length co55))) := ⟨by repeat (first | (with_reducible first | exact HB.out | apply below_alloc | apply pw_below_drewN | apply below_drew1 | refine below_set ?_ (IsS144.ge HI0.out) | refine below_set ?_ GE86001.out | refine below_set ?_ GE86002.out | refine below_set ?_ GE86010.out | refine below_set ?_ GE86014.out) | exact HB.out)⟩
              (try clear HO_86011003)
              (try clear HO_86015003)
              (try clear HO86029)
              (try clear BK86001)
              (try clear BK86002)
              (try clear BK86010)
              (try clear BK86014)
              (try clear HI0)
              (try clear HK)
              (try clear HB)
              generalize ((((w49.setCell ⟨gb86014, 0, none⟩ (.int .i64 t86024)).setCell ⟨gb86014, 1, none⟩ (.int .i64 t86025)).setCell ⟨gb86014, 2, none⟩ (.int .i64 t86026)).setCell ⟨gb86014, 3, none⟩ (.slice Ao55 t86027.length co55)) = w56 at n0_ n1_ n2_ n3_ n4_ n5_ n6_ n7_ n8_ n9_ ⊢
              have HO_86011003 := n0_
              have HO_86015003 := n1_
              have HO86029 := n2_
              have BK86001 := n3_
              have BK86002 := n4_
              have BK86010 := n5_
              have BK86014 := n6_
              have HI0 := n7_
              have HK := n8_
              have HB := n9_
              clear n0_ n1_ n2_ n3_ n4_ n5_ n6_ n7_ n8_ n9_
              have n0_ := Aside0.mk (Kd.Q_drew HO_86011003.out)
              have n1_ := Aside0.mk (Kd.Q_drew HO_86015003.out)
              have n2_ := Aside0.mk (Kd.Q_drew HO86029.out)
              have n3_ := Aside0.mk (blk_drew BK86001.out)
              have n4_ := Aside0.mk (blk_drew BK86002.out)
              have n5_ := Aside0.mk (blk_drew BK86010.out)
              have n6_ := Aside0.mk (blk_drew BK86014.out)
              have n7_ := Aside0.mk (IsS144.drew HI0.out)
              have n8_ := Aside0.mk (keep_drew HK.out)
              have n9_ := Aside0.mk (below_drew1 HB.out)
              clear HO_86011003
              clear HO_86015003
              clear HO86029
              clear BK86001
              clear BK86002
              clear BK86010
              clear BK86014
              clear HI0
              clear HK
              clear HB
              have HO_86011003 := n0_
              have HO_86015003 := n1_
              have HO86029 := n2_
              have BK86001 := n3_
              have BK86002 := n4_
              have BK86010 := n5_
              have BK86014 := n6_
              have HI0 := n7_
              have HK := n8_
              have HB := n9_
              clear n0_ n1_ n2_ n3_ n4_ n5_ n6_ n7_ n8_ n9_
              obtain ⟨Ao61, co61, eo61, _⟩ := Kd.Q_slice HO_86011003.out
              (first | subst eo61 | (injection eo61 with f1_ f2_ f3_; have f4_ := f1_.symm; have f5_ := f3_.symm; clear f1_ f2_ f3_; subst f4_; subst f5_))
              refine start_ (n := 4) (S := fun w' => w'.cell? ⟨gb86010, 0, none⟩ = some (.int .i64 t86003) ∧ w'.cell? ⟨gb86010, 1, none⟩ = some (.int .i64 t86004) ∧ w'.cell? ⟨gb86010, 2, none⟩ = some (.int .i64 t86005) ∧ w'.cell? ⟨gb86010, 3, none⟩ = some (.slice Ao61 x86011003_1.length co61) ∧ w'.cell? ⟨gb86014, 0, none⟩ = some (.int .i64 t86024) ∧ w'.cell? ⟨gb86014, 1, none⟩ = some (.int .i64 t86025) ∧ w'.cell? ⟨gb86014, 2, none⟩ = some (.int .i64 t86026) ∧ w'.cell? ⟨gb86014, 3, none⟩ = some (.slice Ao55 t86027.length co55)) (ds := []) #[false, false, false, false] (by kernel_rfl) rfl rfl ⟨(blk_cell BK86010.out 0).trans rfl, (blk_cell BK86010.out 1).trans rfl, (blk_cell BK86010.out 2).trans rfl, (blk_cell BK86010.out 3).trans rfl, (blk_cell BK86014.out 0).trans rfl, (blk_cell BK86014.out 1).trans rfl, (blk_cell BK86014.out 2).trans rfl, (blk_cell BK86014.out 3).trans rfl⟩ (fun hHeld => ?_)
              generalize w56.drew = w57 at HO_86011003 HO_86015003 HO86029 BK86001 BK86002 BK86010 BK86014 HI0 HK HB hHeld ⊢
              refine take_ (i := 0) (N := some 46) (v := ?_) (a' := ?_) #[true, false, false, false] rfl rfl (by kernel_rfl) (fun _ _ _ h => h) (Or.inl ⟨by rfl, ?_⟩) hHeld ?_ ?_
              rotate_left
              · rintro w' ⟨s0, s1, s2, s3, s4, s5, s6, s7⟩
                go_simp
                with_reducible rfl
              rotate_left
              · simp only [Act.put, List.setIfInBounds_toArray, List.set_cons_zero, List.set_cons_succ, i64_w, i32_w]
                rfl
              refine take_ (i := 1) (N := some 47) (v := ?_) (a' := ?_) #[true, true, false, false] rfl rfl (by kernel_rfl) (fun _ _ _ h => h) (Or.inl ⟨by rfl, ?_⟩) hHeld ?_ ?_
              rotate_left
              · rintro w' ⟨s0, s1, s2, s3, s4, s5, s6, s7⟩
                go_simp
                with_reducible rfl
              rotate_left
              · simp only [Act.put, List.setIfInBounds_toArray, List.set_cons_zero, List.set_cons_succ, i64_w, i32_w]
                rfl
              refine one_ (i := 2) (N := none) #[true, true, true, false] rfl rfl (by kernel_rfl) (by decide) (fun K hK => ?_)
              have hs58 : w57.cell? ⟨gb86001, 0, none⟩ = some (.int .i64 0) := (blk_cell BK86001.out 0).trans rfl
              have hfs58 := blk_frozen BK86001.out 0
              have hns58_1 := NB86002_86001.out
              have hns58_2 := NB86010_86001.out
              have hns58_3 := NB86014_86001.out
              have hms58_1 := NB86001_86002.out
              have hms58_2 := NB86001_86010.out
              have hms58_3 := NB86001_86014.out
              have hs59 : w57.cell? ⟨gb86001, 1, none⟩ = some (.int .i64 0) := (blk_cell BK86001.out 1).trans rfl
              have hfs59 := blk_frozen BK86001.out 1
              have hns59_1 := NB86002_86001.out
              have hns59_2 := NB86010_86001.out
              have hns59_3 := NB86014_86001.out
              have hms59_1 := NB86001_86002.out
              have hms59_2 := NB86001_86010.out
              have hms59_3 := NB86001_86014.out
              have hs60 : w57.cell? ⟨gb86001, 2, none⟩ = some (.int .i64 0) := (blk_cell BK86001.out 2).trans rfl
              have hfs60 := blk_frozen BK86001.out 2
              have hns60_1 := NB86002_86001.out
              have hns60_2 := NB86010_86001.out
              have hns60_3 := NB86014_86001.out
              have hms60_1 := NB86001_86002.out
              have hms60_2 := NB86001_86010.out
              have hms60_3 := NB86001_86014.out
              have hs62 : w57.cell? ⟨gb86001, 3, none⟩ = some (.slice none 0 0) := (blk_cell BK86001.out 3).trans rfl
              have hfs62 := blk_frozen BK86001.out 3
              have hns62_1 := NB86002_86001.out
              have hns62_2 := NB86010_86001.out
              have hns62_3 := NB86014_86001.out
              have hms62_1 := NB86001_86002.out
              have hms62_2 := NB86001_86010.out
              have hms62_3 := NB86001_86014.out
              refine skip_ (w1 := ?_) (by rfl) rfl ?_ ?_
              rotate_left
              · go_simp
                rfl
              refine hK.out _ _ ⟨((cell_far (p := ⟨gb86001, _, none⟩) NB86010_86001.out _).trans (((cell_far (p := ⟨gb86001, _, none⟩) NB86010_86001.out _).trans (((cell_far (p := ⟨gb86001, _, none⟩) NB86010_86001.out _).trans (((cell_far (p := ⟨gb86001, _, none⟩) NB86010_86001.out _).trans (hHeld.1)))))))), ((cell_far (p := ⟨gb86001, _, none⟩) NB86010_86001.out _).trans (((cell_far (p := ⟨gb86001, _, none⟩) NB86010_86001.out _).trans (((cell_far (p := ⟨gb86001, _, none⟩) NB86010_86001.out _).trans (((cell_far (p := ⟨gb86001, _, none⟩) NB86010_86001.out _).trans (hHeld.2.1)))))))), ((cell_far (p := ⟨gb86001, _, none⟩) NB86010_86001.out _).trans (((cell_far (p := ⟨gb86001, _, none⟩) NB86010_86001.out _).trans (((cell_far (p := ⟨gb86001, _, none⟩) NB86010_86001.out _).trans (((cell_far (p := ⟨gb86001, _, none⟩) NB86010_86001.out _).trans (hHeld.2.2.1)))))))), ((cell_far (p := ⟨gb86001, _, none⟩) NB86010_86001.out _).trans (((cell_far (p := ⟨gb86001, _, none⟩) NB86010_86001.out _).trans (((cell_far (p := ⟨gb86001, _, none⟩) NB86010_86001.out _).trans (((cell_far (p := ⟨gb86001, _, none⟩) NB86010_86001.out _).trans (hHeld.2.2.2.1)))))))), ((cell_far (p := ⟨gb86001, _, none⟩) NB86014_86001.out _).trans (((cell_far (p := ⟨gb86001, _, none⟩) NB86014_86001.out _).trans (((cell_far (p := ⟨gb86001, _, none⟩) NB86014_86001.out _).trans (((cell_far (p := ⟨gb86001, _, none⟩) NB86014_86001.out _).trans (hHeld.2.2.2.2.1)))))))), ((cell_far (p := ⟨gb86001, _, none⟩) NB86014_86001.out _).trans (((cell_far (p := ⟨gb86001, _, none⟩) NB86014_86001.out _).trans (((cell_far (p := ⟨gb86001, _, none⟩) NB86014_86001.out _).trans (((cell_far (p := ⟨gb86001, _, none⟩) NB86014_86001.out _).trans (hHeld.2.2.2.2.2.1)))))))), ((cell_far (p := ⟨gb86001, _, none⟩) NB86014_86001.out _).trans (((cell_far (p := ⟨gb86001, _, none⟩) NB86014_86001.out _).trans (((cell_far (p := ⟨gb86001, _, none⟩) NB86014_86001.out _).trans (((cell_far (p := ⟨gb86001, _, none⟩) NB86014_86001.out _).trans (hHeld.2.2.2.2.2.2.1)))))))), ((cell_far (p := ⟨gb86001, _, none⟩) NB86014_86001.out _).trans (((cell_far (p := ⟨gb86001, _, none⟩) NB86014_86001.out _).trans (((cell_far (p := ⟨gb86001, _, none⟩) NB86014_86001.out _).trans (((cell_far (p := ⟨gb86001, _, none⟩) NB86014_86001.out _).trans (hHeld.2.2.2.2.2.2.2))))))))⟩ (fun hHeld => ?_)
              clear hK K
              refine one_ (i := 3) (N := none) #[true, true, true, true] rfl rfl (by kernel_rfl) (by decide) (fun K hK => ?_)
              have hs63 : w57.cell? ⟨gb86002, 0, none⟩ = some (.int .i64 0) := (blk_cell BK86002.out 0).trans rfl
              have hfs63 := blk_frozen BK86002.out 0
              have hns63_0 := NB86001_86002.out
              have hns63_2 := NB86010_86002.out
              have hns63_3 := NB86014_86002.out
              have hms63_0 := NB86002_86001.out
              have hms63_2 := NB86002_86010.out
              have hms63_3 := NB86002_86014.out
              have hs64 : w57.cell? ⟨gb86002, 1, none⟩ = some (.int .i64 0) := (blk_cell BK86002.out 1).trans rfl
              have hfs64 := blk_frozen BK86002.out 1
              have hns64_0 := NB86001_86002.out
              have hns64_2 := NB86010_86002.out
              have hns64_3 := NB86014_86002.out
              have hms64_0 := NB86002_86001.out
              have hms64_2 := NB86002_86010.out
              have hms64_3 := NB86002_86014.out
              have hs65 : w57.cell? ⟨gb86002, 2, none⟩ = some (.int .i64 0) := (blk_cell BK86002.out 2).trans rfl
              have hfs65 := blk_frozen BK86002.out 2
              have hns65_0 := NB86001_86002.out
              have hns65_2 := NB86010_86002.out
              have hns65_3 := NB86014_86002.out
              have hms65_0 := NB86002_86001.out
              have hms65_2 := NB86002_86010.out
              have hms65_3 := NB86002_86014.out
              have hs66 : w57.cell? ⟨gb86002, 3, none⟩ = some (.slice none 0 0) := (blk_cell BK86002.out 3).trans rfl
              have hfs66 := blk_frozen BK86002.out 3
              have hns66_0 := NB86001_86002.out
              have hns66_2 := NB86010_86002.out
              have hns66_3 := NB86014_86002.out
              have hms66_0 := NB86002_86001.out
              have hms66_2 := NB86002_86010.out
              have hms66_3 := NB86002_86014.out
              refine skip_ (w1 := ?_) (by rfl) rfl ?_ ?_
              rotate_left
              · go_simp
                rfl
              refine hK.out _ _ ⟨((cell_far (p := ⟨gb86002, _, none⟩) NB86010_86002.out _).trans (((cell_far (p := ⟨gb86002, _, none⟩) NB86010_86002.out _).trans (((cell_far (p := ⟨gb86002, _, none⟩) NB86010_86002.out _).trans (((cell_far (p := ⟨gb86002, _, none⟩) NB86010_86002.out _).trans (hHeld.1)))))))), ((cell_far (p := ⟨gb86002, _, none⟩) NB86010_86002.out _).trans (((cell_far (p := ⟨gb86002, _, none⟩) NB86010_86002.out _).trans (((cell_far (p := ⟨gb86002, _, none⟩) NB86010_86002.out _).trans (((cell_far (p := ⟨gb86002, _, none⟩) NB86010_86002.out _).trans (hHeld.2.1)))))))), ((cell_far (p := ⟨gb86002, _, none⟩) NB86010_86002.out _).trans (((cell_far (p := ⟨gb86002, _, none⟩) NB86010_86002.out _).trans (((cell_far (p := ⟨gb86002, _, none⟩) NB86010_86002.out _).trans (((cell_far (p := ⟨gb86002, _, none⟩) NB86010_86002.out _).trans (hHeld.2.2.1)))))))), ((cell_far (p := ⟨gb86002, _, none⟩) NB86010_86002.out _).trans (((cell_far (p := ⟨gb86002, _, none⟩) NB86010_86002.out _).trans (((cell_far (p := ⟨gb86002, _, none⟩) NB86010_86002.out _).trans (((cell_far (p := ⟨gb86002, _, none⟩) NB86010_86002.out _).trans (hHeld.2.2.2.1)))))))), ((cell_far (p := ⟨gb86002, _, none⟩) NB86014_86002.out _).trans (((cell_far (p := ⟨gb86002, _, none⟩) NB86014_86002.out _).trans (((cell_far (p := ⟨gb86002, _, none⟩) NB86014_86002.out _).trans (((cell_far (p := ⟨gb86002, _, none⟩) NB86014_86002.out _).trans (hHeld.2.2.2.2.1)))))))), ((cell_far (p := ⟨gb86002, _, none⟩) NB86014_86002.out _).trans (((cell_far (p := ⟨gb86002, _, none⟩) NB86014_86002.out _).trans (((cell_far (p := ⟨gb86002, _, none⟩) NB86014_86002.out _).trans (((cell_far (p := ⟨gb86002, _, none⟩) NB86014_86002.out _).trans (hHeld.2.2.2.2.2.1)))))))), ((cell_far (p := ⟨gb86002, _, none⟩) NB86014_86002.out _).trans (((cell_far (p := ⟨gb86002, _, none⟩) NB86014_86002.out _).trans (((cell_far (p := ⟨gb86002, _, none⟩) NB86014_86002.out _).trans (((cell_far (p := ⟨gb86002, _, none⟩) NB86014_86002.out _).trans (hHeld.2.2.2.2.2.2.1)))))))), ((cell_far (p := ⟨gb86002, _, none⟩) NB86014_86002.out _).trans (((cell_far (p := ⟨gb86002, _, none⟩) NB86014_86002.out _).trans (((cell_far (p := ⟨gb86002, _, none⟩) NB86014_86002.out _).trans (((cell_far (p := ⟨gb86002, _, none⟩) NB86014_86002.out _).trans (hHeld.2.2.2.2.2.2.2))))))))⟩ (fun hHeld => ?_)
              clear hK K
              refine done_ (by kernel_rfl) ?_
              try go_wp2
              refine bodyPost_ret (results_cc rfl _ _ gb86001 gb86002 27 27 #[.int .i64 t86003, .int .i64 t86004, .int .i64 t86005, .slice Ao61 x86011003_1.length co61] #[.int .i64 t86024, .int .i64 t86025, .int .i64 t86026, .slice Ao55 t86027.length co55] (0, 0) (0, 0) _ _ rfl (by (with_reducible repeat (first | refine blk_drewN ?_ _ | refine blk_drew ?_ | refine blk_alloc ?_ _)); refine blk_far ?_ NB86001_86002.out _; (with_reducible repeat (first | refine blk_drewN ?_ _ | refine blk_drew ?_ | refine blk_alloc ?_ _)); refine blk_far ?_ NB86001_86002.out _; (with_reducible repeat (first | refine blk_drewN ?_ _ | refine blk_drew ?_ | refine blk_alloc ?_ _)); refine blk_far ?_ NB86001_86002.out _; (with_reducible repeat (first | refine blk_drewN ?_ _ | refine blk_drew ?_ | refine blk_alloc ?_ _)); refine blk_far ?_ NB86001_86002.out _; (with_reducible repeat (first | refine blk_drewN ?_ _ | refine blk_drew ?_ | refine blk_alloc ?_ _)); refine blk_put (cs := #[.int .i64 t86003, .int .i64 t86004, .int .i64 t86005, .slice none 0 0]) ?_ 3 _ rfl; (with_reducible repeat (first | refine blk_drewN ?_ _ | refine blk_drew ?_ | refine blk_alloc ?_ _)); refine blk_put (cs := #[.int .i64 t86003, .int .i64 t86004, .int .i64 0, .slice none 0 0]) ?_ 2 _ rfl; (with_reducible repeat (first | refine blk_drewN ?_ _ | refine blk_drew ?_ | refine blk_alloc ?_ _)); refine blk_put (cs := #[.int .i64 t86003, .int .i64 0, .int .i64 0, .slice none 0 0]) ?_ 1 _ rfl; (with_reducible repeat (first | refine blk_drewN ?_ _ | refine blk_drew ?_ | refine blk_alloc ?_ _)); refine blk_put (cs := #[.int .i64 0, .int .i64 0, .int .i64 0, .slice none 0 0]) ?_ 0 _ rfl; (with_reducible repeat (first | refine blk_drewN ?_ _ | refine blk_drew ?_ | refine blk_alloc ?_ _)); exact BK86001.out) Try.underlying27 rfl (by kernel_rfl) rfl (by (with_reducible repeat (first | refine blk_drewN ?_ _ | refine blk_drew ?_ | refine blk_alloc ?_ _)); refine blk_put (cs := #[.int .i64 t86024, .int .i64 t86025, .int .i64 t86026, .slice none 0 0]) ?_ 3 _ rfl; (with_reducible repeat (first | refine blk_drewN ?_ _ | refine blk_drew ?_ | refine blk_alloc ?_ _)); refine blk_put (cs := #[.int .i64 t86024, .int .i64 t86025, .int .i64 0, .slice none 0 0]) ?_ 2 _ rfl; (with_reducible repeat (first | refine blk_drewN ?_ _ | refine blk_drew ?_ | refine blk_alloc ?_ _)); refine blk_put (cs := #[.int .i64 t86024, .int .i64 0, .int .i64 0, .slice none 0 0]) ?_ 1 _ rfl; (with_reducible repeat (first | refine blk_drewN ?_ _ | refine blk_drew ?_ | refine blk_alloc ?_ _)); refine blk_put (cs := #[.int .i64 0, .int .i64 0, .int .i64 0, .slice none 0 0]) ?_ 0 _ rfl; (with_reducible repeat (first | refine blk_drewN ?_ _ | refine blk_drew ?_ | refine blk_alloc ?_ _)); refine blk_far ?_ NB86002_86001.out _; (with_reducible repeat (first | refine blk_drewN ?_ _ | refine blk_drew ?_ | refine blk_alloc ?_ _)); refine blk_far ?_ NB86002_86001.out _; (with_reducible repeat (first | refine blk_drewN ?_ _ | refine blk_drew ?_ | refine blk_alloc ?_ _)); refine blk_far ?_ NB86002_86001.out _; (with_reducible repeat (first | refine blk_drewN ?_ _ | refine blk_drew ?_ | refine blk_alloc ?_ _)); refine blk_far ?_ NB86002_86001.out _; (with_reducible repeat (first | refine blk_drewN ?_ _ | refine blk_drew ?_ | refine blk_alloc ?_ _)); exact BK86002.out) Try.underlying27 rfl (by kernel_rfl)) rfl ?_
              exact ⟨_, _, by first | rfl | (simp [errW_none, errW_some] <;> rfl) | (simp [*, errW_none, errW_some] <;> rfl), by (with_reducible repeat (first | apply Kd.Q_alloc | apply Kd.Q_drewN | apply Kd.Q_drew)); exact Kd.Q_mono (Kd.Q_far (p := ⟨gb86002, 3, none⟩) (Kd.Q_far (p := ⟨gb86002, 2, none⟩) (Kd.Q_far (p := ⟨gb86002, 1, none⟩) (Kd.Q_far (p := ⟨gb86002, 0, none⟩) (Kd.Q_far (p := ⟨gb86001, 3, none⟩) (Kd.Q_far (p := ⟨gb86001, 2, none⟩) (Kd.Q_far (p := ⟨gb86001, 1, none⟩) (Kd.Q_far (p := ⟨gb86001, 0, none⟩) (Kd.Q_types (Kd.Q_types HO_86011003.out BK86001.out (by decide)) BK86002.out (by decide)) (fun _ hk => hk.1.2) (.int .i64 t86003)) (fun _ hk => hk.1.2) (.int .i64 t86004)) (fun _ hk => hk.1.2) (.int .i64 t86005)) (fun _ hk => hk.1.2) (.slice Ao61 x86011003_1.length co61)) (fun _ hk => hk.2) (.int .i64 t86024)) (fun _ hk => hk.2) (.int .i64 t86025)) (fun _ hk => hk.2) (.int .i64 t86026)) (fun _ hk => hk.2) (.slice Ao55 t86027.length co55)) (fun _ hk => hk.1.1.2), by (with_reducible repeat (first | apply Kd.Q_alloc | apply Kd.Q_drewN | apply Kd.Q_drew)); exact Kd.Q_mono (Kd.Q_far (p := ⟨gb86002, 3, none⟩) (Kd.Q_far (p := ⟨gb86002, 2, none⟩) (Kd.Q_far (p := ⟨gb86002, 1, none⟩) (Kd.Q_far (p := ⟨gb86002, 0, none⟩) (Kd.Q_far (p := ⟨gb86001, 3, none⟩) (Kd.Q_far (p := ⟨gb86001, 2, none⟩) (Kd.Q_far (p := ⟨gb86001, 1, none⟩) (Kd.Q_far (p := ⟨gb86001, 0, none⟩) (Kd.Q_types (Kd.Q_types HO86029.out BK86001.out (by decide)) BK86002.out (by decide)) (fun _ hk => hk.1.2) (.int .i64 t86003)) (fun _ hk => hk.1.2) (.int .i64 t86004)) (fun _ hk => hk.1.2) (.int .i64 t86005)) (fun _ hk => hk.1.2) (.slice Ao61 x86011003_1.length co61)) (fun _ hk => hk.2) (.int .i64 t86024)) (fun _ hk => hk.2) (.int .i64 t86025)) (fun _ hk => hk.2) (.int .i64 t86026)) (fun _ hk => hk.2) (.slice Ao55 t86027.length co55)) (fun _ hk => hk.1.1.1), by repeat (first | (with_reducible first | exact HI0.out | apply IsS144.alloc | apply IsS144.drewN | apply IsS144.drew | apply IsS144.set_1 | refine IsS144.far ?_ NB0_86001.out _ | refine IsS144.far ?_ NB0_86002.out _ | refine IsS144.far ?_ NB0_86010.out _ | refine IsS144.far ?_ NB0_86014.out _) | exact HI0.out), by repeat (first | (with_reducible first | exact HB.out | apply below_alloc | apply pw_below_drewN | apply below_drew1 | refine below_set ?_ (IsS144.ge HI0.out) | refine below_set ?_ GE86001.out | refine below_set ?_ GE86002.out | refine below_set ?_ GE86010.out | refine below_set ?_ GE86014.out) | exact HB.out), by repeat (first | (with_reducible first | exact HK.out | apply KeepBut.set_ | apply keep_drewN | apply keep_drew | apply keep_alloc | refine keep_far ?_ GW86001.out _ | refine keep_far ?_ GW86002.out _ | refine keep_far ?_ GW86010.out _ | refine keep_far ?_ GW86014.out _) | exact HK.out)⟩
            · rw [if_neg c46] at H
              have c46b0 : (t86022 == 0) = false := beq_eq_false_iff_ne.mpr c46
              have c46b1 : (t86022 != 0) = true := bne_iff_ne.mpr c46
              simp only [Option.some.injEq, Prod.mk.injEq] at H
              obtain ⟨rfl, rfl, rfl, rfl, rfl, rfl, rfl, rfl, rfl⟩ := H
              try go_wp2_with (first | ((with_reducible refine gate_callee (f := 127) rfl ?_); refine goesL_ (some 42) rfl rfl Try.func127 (by kernel_rfl) rfl #[.pointer (some ⟨g, 0, none⟩), .int .i64 16] rfl (by (try simp only [List.map_toArray, List.map_cons, List.map_nil]); first | done | rfl | (simp only [List.length_drop, List.length_take]; rfl)) ?_; (with_reducible refine (spec_reader_pick.calls kj25 g s0_0 x1001_1 16 t86022 t86023 w0 _ ?side1 ?side2 A45.out).mono ?_); (case side1 => repeat (first | (with_reducible first | exact HI0.out | apply IsS144.alloc | apply IsS144.drewN | apply IsS144.drew | apply IsS144.set_1 | refine IsS144.far ?_ NB0_86001.out _ | refine IsS144.far ?_ NB0_86002.out _ | refine IsS144.far ?_ NB0_86010.out _ | refine IsS144.far ?_ NB0_86014.out _) | exact HI0.out)); (case side2 => repeat (first | (with_reducible first | exact HB.out | apply below_alloc | apply pw_below_drewN | apply below_drew1 | refine below_set ?_ (IsS144.ge HI0.out) | refine below_set ?_ GE86001.out | refine below_set ?_ GE86002.out | refine below_set ?_ GE86010.out | refine below_set ?_ GE86014.out) | exact HB.out)); rintro e w67 ⟨rfl, hi, hb, hk⟩; refine ⟨_, rfl, ?_⟩; have n0_ := Aside0.mk (Kd.Q_mono (Kd.Q_keep (IsS144.apartQ (show IsS144 w0 _ g s0_0 x1001_1 from by repeat (first | (with_reducible first | exact HI0.out | apply IsS144.alloc | apply IsS144.drewN | apply IsS144.drew | apply IsS144.set_1 | refine IsS144.far ?_ NB0_86001.out _ | refine IsS144.far ?_ NB0_86002.out _ | refine IsS144.far ?_ NB0_86010.out _ | refine IsS144.far ?_ NB0_86014.out _) | exact HI0.out)) (by (with_reducible repeat (first | apply Kd.Q_alloc | apply Kd.Q_drewN | apply Kd.Q_drew)); exact HO_86011003.out) (by decide)) hk (fun _ h => h.2)) (fun _ h => h.1)); have n1_ := Aside0.mk (Kd.Q_mono (Kd.Q_keep (IsS144.apartQ (show IsS144 w0 _ g s0_0 x1001_1 from by repeat (first | (with_reducible first | exact HI0.out | apply IsS144.alloc | apply IsS144.drewN | apply IsS144.drew | apply IsS144.set_1 | refine IsS144.far ?_ NB0_86001.out _ | refine IsS144.far ?_ NB0_86002.out _ | refine IsS144.far ?_ NB0_86010.out _ | refine IsS144.far ?_ NB0_86014.out _) | exact HI0.out)) (by (with_reducible repeat (first | apply Kd.Q_alloc | apply Kd.Q_drewN | apply Kd.Q_drew)); exact HO_86015003.out) (by decide)) hk (fun _ h => h.2)) (fun _ h => h.1)); have n2_ := Aside0.mk (KeepBut.blk hk (g' := gb86001) (o := .cells #[.int .i64 0, .int .i64 0, .int .i64 0, .slice none 0 0] 27 (0, 0)) (by (with_reducible repeat (first | refine blk_drewN ?_ _ | refine blk_drew ?_ | refine blk_alloc ?_ _)); exact BK86001.out) NB86001_0.out (by simp)); have n3_ := Aside0.mk (KeepBut.blk hk (g' := gb86002) (o := .cells #[.int .i64 0, .int .i64 0, .int .i64 0, .slice none 0 0] 27 (0, 0)) (by (with_reducible repeat (first | refine blk_drewN ?_ _ | refine blk_drew ?_ | refine blk_alloc ?_ _)); exact BK86002.out) NB86002_0.out (by simp)); have n4_ := Aside0.mk (KeepBut.blk hk (g' := gb86010) (o := .cells #[.int .i64 t86003, .int .i64 t86004, .int .i64 t86005, u86011003] 27 (0, 0)) (by (with_reducible repeat (first | refine blk_drewN ?_ _ | refine blk_drew ?_ | refine blk_alloc ?_ _)); exact BK86010.out) NB86010_0.out (by simp)); have n5_ := Aside0.mk (KeepBut.blk hk (g' := gb86014) (o := .cells #[.int .i64 t86003, .int .i64 t86004, .int .i64 t86005, u86015003] 27 (0, 0)) (by (with_reducible repeat (first | refine blk_drewN ?_ _ | refine blk_drew ?_ | refine blk_alloc ?_ _)); exact BK86014.out) NB86014_0.out (by simp)); have n6_ := Aside0.mk (KeepBut.trans (by repeat (first | (with_reducible first | exact HK.out | apply KeepBut.set_ | apply keep_drewN | apply keep_drew | apply keep_alloc | refine keep_far ?_ GW86001.out _ | refine keep_far ?_ GW86002.out _ | refine keep_far ?_ GW86010.out _ | refine keep_far ?_ GW86014.out _) | exact HK.out)) hk (.inl rfl)); have n7_ := Aside0.mk (hb); have n8_ := Aside0.mk (hi); clear HO_86011003; clear HO_86015003; clear BK86001; clear BK86002; clear BK86010; clear BK86014; clear HK; clear HB; clear HI0; have HO_86011003 := n0_; have HO_86015003 := n1_; have BK86001 := n2_; have BK86002 := n3_; have BK86010 := n4_; have BK86014 := n5_; have HK := n6_; have HB := n7_; have HI0 := n8_; clear n0_ n1_ n2_ n3_ n4_ n5_ n6_ n7_ n8_; (try clear hb); (try clear hb2); (try clear hk); (try clear hi)))
              have n0_ := Aside0.mk (Kd.Q_drew HO_86011003.out)
              have n1_ := Aside0.mk (Kd.Q_drew HO_86015003.out)
              have n2_ := Aside0.mk (blk_drew BK86001.out)
              have n3_ := Aside0.mk (blk_drew BK86002.out)
              have n4_ := Aside0.mk (blk_drew BK86010.out)
              have n5_ := Aside0.mk (blk_drew BK86014.out)
              have n6_ := Aside0.mk (IsS144.drew HI0.out)
              have n7_ := Aside0.mk (keep_drew HK.out)
              have n8_ := Aside0.mk (below_drew1 HB.out)
              clear HO_86011003
              clear HO_86015003
              clear BK86001
              clear BK86002
              clear BK86010
              clear BK86014
              clear HI0
              clear HK
              clear HB
              have HO_86011003 := n0_
              have HO_86015003 := n1_
              have BK86001 := n2_
              have BK86002 := n3_
              have BK86010 := n4_
              have BK86014 := n5_
              have HI0 := n6_
              have HK := n7_
              have HB := n8_
              clear n0_ n1_ n2_ n3_ n4_ n5_ n6_ n7_ n8_
              obtain ⟨Ao72, co72, eo72, _⟩ := Kd.Q_slice HO_86011003.out
              (first | subst eo72 | (injection eo72 with f1_ f2_ f3_; have f4_ := f1_.symm; have f5_ := f3_.symm; clear f1_ f2_ f3_; subst f4_; subst f5_))
              obtain ⟨Ao77, co77, eo77, _⟩ := Kd.Q_slice HO_86015003.out
              (first | subst eo77 | (injection eo77 with f1_ f2_ f3_; have f4_ := f1_.symm; have f5_ := f3_.symm; clear f1_ f2_ f3_; subst f4_; subst f5_))
              refine start_ (n := 4) (S := fun w' => w'.cell? ⟨gb86010, 0, none⟩ = some (.int .i64 t86003) ∧ w'.cell? ⟨gb86010, 1, none⟩ = some (.int .i64 t86004) ∧ w'.cell? ⟨gb86010, 2, none⟩ = some (.int .i64 t86005) ∧ w'.cell? ⟨gb86010, 3, none⟩ = some (.slice Ao72 x86011003_1.length co72) ∧ w'.cell? ⟨gb86014, 0, none⟩ = some (.int .i64 t86003) ∧ w'.cell? ⟨gb86014, 1, none⟩ = some (.int .i64 t86004) ∧ w'.cell? ⟨gb86014, 2, none⟩ = some (.int .i64 t86005) ∧ w'.cell? ⟨gb86014, 3, none⟩ = some (.slice Ao77 x86015003_1.length co77)) (ds := []) #[false, false, false, false] (by kernel_rfl) rfl rfl ⟨(blk_cell BK86010.out 0).trans rfl, (blk_cell BK86010.out 1).trans rfl, (blk_cell BK86010.out 2).trans rfl, (blk_cell BK86010.out 3).trans rfl, (blk_cell BK86014.out 0).trans rfl, (blk_cell BK86014.out 1).trans rfl, (blk_cell BK86014.out 2).trans rfl, (blk_cell BK86014.out 3).trans rfl⟩ (fun hHeld => ?_)
              generalize w67.drew = w68 at HO_86011003 HO_86015003 BK86001 BK86002 BK86010 BK86014 HI0 HK HB hHeld ⊢
              refine take_ (i := 0) (N := some 46) (v := ?_) (a' := ?_) #[true, false, false, false] rfl rfl (by kernel_rfl) (fun _ _ _ h => h) (Or.inl ⟨by rfl, ?_⟩) hHeld ?_ ?_
              rotate_left
              · rintro w' ⟨s0, s1, s2, s3, s4, s5, s6, s7⟩
                go_simp
                with_reducible rfl
              rotate_left
              · simp only [Act.put, List.setIfInBounds_toArray, List.set_cons_zero, List.set_cons_succ, i64_w, i32_w]
                rfl
              refine take_ (i := 1) (N := some 47) (v := ?_) (a' := ?_) #[true, true, false, false] rfl rfl (by kernel_rfl) (fun _ _ _ h => h) (Or.inl ⟨by rfl, ?_⟩) hHeld ?_ ?_
              rotate_left
              · rintro w' ⟨s0, s1, s2, s3, s4, s5, s6, s7⟩
                go_simp
                with_reducible rfl
              rotate_left
              · simp only [Act.put, List.setIfInBounds_toArray, List.set_cons_zero, List.set_cons_succ, i64_w, i32_w]
                rfl
              refine one_ (i := 2) (N := none) #[true, true, true, false] rfl rfl (by kernel_rfl) (by decide) (fun K hK => ?_)
              have hs69 : w68.cell? ⟨gb86001, 0, none⟩ = some (.int .i64 0) := (blk_cell BK86001.out 0).trans rfl
              have hfs69 := blk_frozen BK86001.out 0
              have hns69_1 := NB86002_86001.out
              have hns69_2 := NB86010_86001.out
              have hns69_3 := NB86014_86001.out
              have hms69_1 := NB86001_86002.out
              have hms69_2 := NB86001_86010.out
              have hms69_3 := NB86001_86014.out
              have hs70 : w68.cell? ⟨gb86001, 1, none⟩ = some (.int .i64 0) := (blk_cell BK86001.out 1).trans rfl
              have hfs70 := blk_frozen BK86001.out 1
              have hns70_1 := NB86002_86001.out
              have hns70_2 := NB86010_86001.out
              have hns70_3 := NB86014_86001.out
              have hms70_1 := NB86001_86002.out
              have hms70_2 := NB86001_86010.out
              have hms70_3 := NB86001_86014.out
              have hs71 : w68.cell? ⟨gb86001, 2, none⟩ = some (.int .i64 0) := (blk_cell BK86001.out 2).trans rfl
              have hfs71 := blk_frozen BK86001.out 2
              have hns71_1 := NB86002_86001.out
              have hns71_2 := NB86010_86001.out
              have hns71_3 := NB86014_86001.out
              have hms71_1 := NB86001_86002.out
              have hms71_2 := NB86001_86010.out
              have hms71_3 := NB86001_86014.out
              have hs73 : w68.cell? ⟨gb86001, 3, none⟩ = some (.slice none 0 0) := (blk_cell BK86001.out 3).trans rfl
              have hfs73 := blk_frozen BK86001.out 3
              have hns73_1 := NB86002_86001.out
              have hns73_2 := NB86010_86001.out
              have hns73_3 := NB86014_86001.out
              have hms73_1 := NB86001_86002.out
              have hms73_2 := NB86001_86010.out
              have hms73_3 := NB86001_86014.out
              refine skip_ (w1 := ?_) (by rfl) rfl ?_ ?_
              rotate_left
              · go_simp
                rfl
              refine hK.out _ _ ⟨((cell_far (p := ⟨gb86001, _, none⟩) NB86010_86001.out _).trans (((cell_far (p := ⟨gb86001, _, none⟩) NB86010_86001.out _).trans (((cell_far (p := ⟨gb86001, _, none⟩) NB86010_86001.out _).trans (((cell_far (p := ⟨gb86001, _, none⟩) NB86010_86001.out _).trans (hHeld.1)))))))), ((cell_far (p := ⟨gb86001, _, none⟩) NB86010_86001.out _).trans (((cell_far (p := ⟨gb86001, _, none⟩) NB86010_86001.out _).trans (((cell_far (p := ⟨gb86001, _, none⟩) NB86010_86001.out _).trans (((cell_far (p := ⟨gb86001, _, none⟩) NB86010_86001.out _).trans (hHeld.2.1)))))))), ((cell_far (p := ⟨gb86001, _, none⟩) NB86010_86001.out _).trans (((cell_far (p := ⟨gb86001, _, none⟩) NB86010_86001.out _).trans (((cell_far (p := ⟨gb86001, _, none⟩) NB86010_86001.out _).trans (((cell_far (p := ⟨gb86001, _, none⟩) NB86010_86001.out _).trans (hHeld.2.2.1)))))))), ((cell_far (p := ⟨gb86001, _, none⟩) NB86010_86001.out _).trans (((cell_far (p := ⟨gb86001, _, none⟩) NB86010_86001.out _).trans (((cell_far (p := ⟨gb86001, _, none⟩) NB86010_86001.out _).trans (((cell_far (p := ⟨gb86001, _, none⟩) NB86010_86001.out _).trans (hHeld.2.2.2.1)))))))), ((cell_far (p := ⟨gb86001, _, none⟩) NB86014_86001.out _).trans (((cell_far (p := ⟨gb86001, _, none⟩) NB86014_86001.out _).trans (((cell_far (p := ⟨gb86001, _, none⟩) NB86014_86001.out _).trans (((cell_far (p := ⟨gb86001, _, none⟩) NB86014_86001.out _).trans (hHeld.2.2.2.2.1)))))))), ((cell_far (p := ⟨gb86001, _, none⟩) NB86014_86001.out _).trans (((cell_far (p := ⟨gb86001, _, none⟩) NB86014_86001.out _).trans (((cell_far (p := ⟨gb86001, _, none⟩) NB86014_86001.out _).trans (((cell_far (p := ⟨gb86001, _, none⟩) NB86014_86001.out _).trans (hHeld.2.2.2.2.2.1)))))))), ((cell_far (p := ⟨gb86001, _, none⟩) NB86014_86001.out _).trans (((cell_far (p := ⟨gb86001, _, none⟩) NB86014_86001.out _).trans (((cell_far (p := ⟨gb86001, _, none⟩) NB86014_86001.out _).trans (((cell_far (p := ⟨gb86001, _, none⟩) NB86014_86001.out _).trans (hHeld.2.2.2.2.2.2.1)))))))), ((cell_far (p := ⟨gb86001, _, none⟩) NB86014_86001.out _).trans (((cell_far (p := ⟨gb86001, _, none⟩) NB86014_86001.out _).trans (((cell_far (p := ⟨gb86001, _, none⟩) NB86014_86001.out _).trans (((cell_far (p := ⟨gb86001, _, none⟩) NB86014_86001.out _).trans (hHeld.2.2.2.2.2.2.2))))))))⟩ (fun hHeld => ?_)
              clear hK K
              refine one_ (i := 3) (N := none) #[true, true, true, true] rfl rfl (by kernel_rfl) (by decide) (fun K hK => ?_)
              have hs74 : w68.cell? ⟨gb86002, 0, none⟩ = some (.int .i64 0) := (blk_cell BK86002.out 0).trans rfl
              have hfs74 := blk_frozen BK86002.out 0
              have hns74_0 := NB86001_86002.out
              have hns74_2 := NB86010_86002.out
              have hns74_3 := NB86014_86002.out
              have hms74_0 := NB86002_86001.out
              have hms74_2 := NB86002_86010.out
              have hms74_3 := NB86002_86014.out
              have hs75 : w68.cell? ⟨gb86002, 1, none⟩ = some (.int .i64 0) := (blk_cell BK86002.out 1).trans rfl
              have hfs75 := blk_frozen BK86002.out 1
              have hns75_0 := NB86001_86002.out
              have hns75_2 := NB86010_86002.out
              have hns75_3 := NB86014_86002.out
              have hms75_0 := NB86002_86001.out
              have hms75_2 := NB86002_86010.out
              have hms75_3 := NB86002_86014.out
              have hs76 : w68.cell? ⟨gb86002, 2, none⟩ = some (.int .i64 0) := (blk_cell BK86002.out 2).trans rfl
              have hfs76 := blk_frozen BK86002.out 2
              have hns76_0 := NB86001_86002.out
              have hns76_2 := NB86010_86002.out
              have hns76_3 := NB86014_86002.out
              have hms76_0 := NB86002_86001.out
              have hms76_2 := NB86002_86010.out
              have hms76_3 := NB86002_86014.out
              have hs78 : w68.cell? ⟨gb86002, 3, none⟩ = some (.slice none 0 0) := (blk_cell BK86002.out 3).trans rfl
              have hfs78 := blk_frozen BK86002.out 3
              have hns78_0 := NB86001_86002.out
              have hns78_2 := NB86010_86002.out
              have hns78_3 := NB86014_86002.out
              have hms78_0 := NB86002_86001.out
              have hms78_2 := NB86002_86010.out
              have hms78_3 := NB86002_86014.out
              refine skip_ (w1 := ?_) (by rfl) rfl ?_ ?_
              rotate_left
              · go_simp
                rfl
              refine hK.out _ _ ⟨((cell_far (p := ⟨gb86002, _, none⟩) NB86010_86002.out _).trans (((cell_far (p := ⟨gb86002, _, none⟩) NB86010_86002.out _).trans (((cell_far (p := ⟨gb86002, _, none⟩) NB86010_86002.out _).trans (((cell_far (p := ⟨gb86002, _, none⟩) NB86010_86002.out _).trans (hHeld.1)))))))), ((cell_far (p := ⟨gb86002, _, none⟩) NB86010_86002.out _).trans (((cell_far (p := ⟨gb86002, _, none⟩) NB86010_86002.out _).trans (((cell_far (p := ⟨gb86002, _, none⟩) NB86010_86002.out _).trans (((cell_far (p := ⟨gb86002, _, none⟩) NB86010_86002.out _).trans (hHeld.2.1)))))))), ((cell_far (p := ⟨gb86002, _, none⟩) NB86010_86002.out _).trans (((cell_far (p := ⟨gb86002, _, none⟩) NB86010_86002.out _).trans (((cell_far (p := ⟨gb86002, _, none⟩) NB86010_86002.out _).trans (((cell_far (p := ⟨gb86002, _, none⟩) NB86010_86002.out _).trans (hHeld.2.2.1)))))))), ((cell_far (p := ⟨gb86002, _, none⟩) NB86010_86002.out _).trans (((cell_far (p := ⟨gb86002, _, none⟩) NB86010_86002.out _).trans (((cell_far (p := ⟨gb86002, _, none⟩) NB86010_86002.out _).trans (((cell_far (p := ⟨gb86002, _, none⟩) NB86010_86002.out _).trans (hHeld.2.2.2.1)))))))), ((cell_far (p := ⟨gb86002, _, none⟩) NB86014_86002.out _).trans (((cell_far (p := ⟨gb86002, _, none⟩) NB86014_86002.out _).trans (((cell_far (p := ⟨gb86002, _, none⟩) NB86014_86002.out _).trans (((cell_far (p := ⟨gb86002, _, none⟩) NB86014_86002.out _).trans (hHeld.2.2.2.2.1)))))))), ((cell_far (p := ⟨gb86002, _, none⟩) NB86014_86002.out _).trans (((cell_far (p := ⟨gb86002, _, none⟩) NB86014_86002.out _).trans (((cell_far (p := ⟨gb86002, _, none⟩) NB86014_86002.out _).trans (((cell_far (p := ⟨gb86002, _, none⟩) NB86014_86002.out _).trans (hHeld.2.2.2.2.2.1)))))))), ((cell_far (p := ⟨gb86002, _, none⟩) NB86014_86002.out _).trans (((cell_far (p := ⟨gb86002, _, none⟩) NB86014_86002.out _).trans (((cell_far (p := ⟨gb86002, _, none⟩) NB86014_86002.out _).trans (((cell_far (p := ⟨gb86002, _, none⟩) NB86014_86002.out _).trans (hHeld.2.2.2.2.2.2.1)))))))), ((cell_far (p := ⟨gb86002, _, none⟩) NB86014_86002.out _).trans (((cell_far (p := ⟨gb86002, _, none⟩) NB86014_86002.out _).trans (((cell_far (p := ⟨gb86002, _, none⟩) NB86014_86002.out _).trans (((cell_far (p := ⟨gb86002, _, none⟩) NB86014_86002.out _).trans (hHeld.2.2.2.2.2.2.2))))))))⟩ (fun hHeld => ?_)
              clear hK K
              refine done_ (by kernel_rfl) ?_
              try go_wp2
              refine bodyPost_ret (results_cc rfl _ _ gb86001 gb86002 27 27 #[.int .i64 t86003, .int .i64 t86004, .int .i64 t86005, .slice Ao72 x86011003_1.length co72] #[.int .i64 t86003, .int .i64 t86004, .int .i64 t86005, .slice Ao77 x86015003_1.length co77] (0, 0) (0, 0) _ _ rfl (by (with_reducible repeat (first | refine blk_drewN ?_ _ | refine blk_drew ?_ | refine blk_alloc ?_ _)); refine blk_far ?_ NB86001_86002.out _; (with_reducible repeat (first | refine blk_drewN ?_ _ | refine blk_drew ?_ | refine blk_alloc ?_ _)); refine blk_far ?_ NB86001_86002.out _; (with_reducible repeat (first | refine blk_drewN ?_ _ | refine blk_drew ?_ | refine blk_alloc ?_ _)); refine blk_far ?_ NB86001_86002.out _; (with_reducible repeat (first | refine blk_drewN ?_ _ | refine blk_drew ?_ | refine blk_alloc ?_ _)); refine blk_far ?_ NB86001_86002.out _; (with_reducible repeat (first | refine blk_drewN ?_ _ | refine blk_drew ?_ | refine blk_alloc ?_ _)); refine blk_put (cs := #[.int .i64 t86003, .int .i64 t86004, .int .i64 t86005, .slice none 0 0]) ?_ 3 _ rfl; (with_reducible repeat (first | refine blk_drewN ?_ _ | refine blk_drew ?_ | refine blk_alloc ?_ _)); refine blk_put (cs := #[.int .i64 t86003, .int .i64 t86004, .int .i64 0, .slice none 0 0]) ?_ 2 _ rfl; (with_reducible repeat (first | refine blk_drewN ?_ _ | refine blk_drew ?_ | refine blk_alloc ?_ _)); refine blk_put (cs := #[.int .i64 t86003, .int .i64 0, .int .i64 0, .slice none 0 0]) ?_ 1 _ rfl; (with_reducible repeat (first | refine blk_drewN ?_ _ | refine blk_drew ?_ | refine blk_alloc ?_ _)); refine blk_put (cs := #[.int .i64 0, .int .i64 0, .int .i64 0, .slice none 0 0]) ?_ 0 _ rfl; (with_reducible repeat (first | refine blk_drewN ?_ _ | refine blk_drew ?_ | refine blk_alloc ?_ _)); exact BK86001.out) Try.underlying27 rfl (by kernel_rfl) rfl (by (with_reducible repeat (first | refine blk_drewN ?_ _ | refine blk_drew ?_ | refine blk_alloc ?_ _)); refine blk_put (cs := #[.int .i64 t86003, .int .i64 t86004, .int .i64 t86005, .slice none 0 0]) ?_ 3 _ rfl; (with_reducible repeat (first | refine blk_drewN ?_ _ | refine blk_drew ?_ | refine blk_alloc ?_ _)); refine blk_put (cs := #[.int .i64 t86003, .int .i64 t86004, .int .i64 0, .slice none 0 0]) ?_ 2 _ rfl; (with_reducible repeat (first | refine blk_drewN ?_ _ | refine blk_drew ?_ | refine blk_alloc ?_ _)); refine blk_put (cs := #[.int .i64 t86003, .int .i64 0, .int .i64 0, .slice none 0 0]) ?_ 1 _ rfl; (with_reducible repeat (first | refine blk_drewN ?_ _ | refine blk_drew ?_ | refine blk_alloc ?_ _)); refine blk_put (cs := #[.int .i64 0, .int .i64 0, .int .i64 0, .slice none 0 0]) ?_ 0 _ rfl; (with_reducible repeat (first | refine blk_drewN ?_ _ | refine blk_drew ?_ | refine blk_alloc ?_ _)); refine blk_far ?_ NB86002_86001.out _; (with_reducible repeat (first | refine blk_drewN ?_ _ | refine blk_drew ?_ | refine blk_alloc ?_ _)); refine blk_far ?_ NB86002_86001.out _; (with_reducible repeat (first | refine blk_drewN ?_ _ | refine blk_drew ?_ | refine blk_alloc ?_ _)); refine blk_far ?_ NB86002_86001.out _; (with_reducible repeat (first | refine blk_drewN ?_ _ | refine blk_drew ?_ | refine blk_alloc ?_ _)); refine blk_far ?_ NB86002_86001.out _; (with_reducible repeat (first | refine blk_drewN ?_ _ | refine blk_drew ?_ | refine blk_alloc ?_ _)); exact BK86002.out) Try.underlying27 rfl (by kernel_rfl)) rfl ?_
              exact ⟨_, _, by first | rfl | (simp [errW_none, errW_some] <;> rfl) | (simp [*, errW_none, errW_some] <;> rfl), by (with_reducible repeat (first | apply Kd.Q_alloc | apply Kd.Q_drewN | apply Kd.Q_drew)); exact Kd.Q_mono (Kd.Q_far (p := ⟨gb86002, 3, none⟩) (Kd.Q_far (p := ⟨gb86002, 2, none⟩) (Kd.Q_far (p := ⟨gb86002, 1, none⟩) (Kd.Q_far (p := ⟨gb86002, 0, none⟩) (Kd.Q_far (p := ⟨gb86001, 3, none⟩) (Kd.Q_far (p := ⟨gb86001, 2, none⟩) (Kd.Q_far (p := ⟨gb86001, 1, none⟩) (Kd.Q_far (p := ⟨gb86001, 0, none⟩) (Kd.Q_types (Kd.Q_types HO_86011003.out BK86001.out (by decide)) BK86002.out (by decide)) (fun _ hk => hk.1.2) (.int .i64 t86003)) (fun _ hk => hk.1.2) (.int .i64 t86004)) (fun _ hk => hk.1.2) (.int .i64 t86005)) (fun _ hk => hk.1.2) (.slice Ao72 x86011003_1.length co72)) (fun _ hk => hk.2) (.int .i64 t86003)) (fun _ hk => hk.2) (.int .i64 t86004)) (fun _ hk => hk.2) (.int .i64 t86005)) (fun _ hk => hk.2) (.slice Ao77 x86015003_1.length co77)) (fun _ hk => hk.1.1), by (with_reducible repeat (first | apply Kd.Q_alloc | apply Kd.Q_drewN | apply Kd.Q_drew)); exact Kd.Q_mono (Kd.Q_far (p := ⟨gb86002, 3, none⟩) (Kd.Q_far (p := ⟨gb86002, 2, none⟩) (Kd.Q_far (p := ⟨gb86002, 1, none⟩) (Kd.Q_far (p := ⟨gb86002, 0, none⟩) (Kd.Q_far (p := ⟨gb86001, 3, none⟩) (Kd.Q_far (p := ⟨gb86001, 2, none⟩) (Kd.Q_far (p := ⟨gb86001, 1, none⟩) (Kd.Q_far (p := ⟨gb86001, 0, none⟩) (Kd.Q_types (Kd.Q_types HO_86015003.out BK86001.out (by decide)) BK86002.out (by decide)) (fun _ hk => hk.1.2) (.int .i64 t86003)) (fun _ hk => hk.1.2) (.int .i64 t86004)) (fun _ hk => hk.1.2) (.int .i64 t86005)) (fun _ hk => hk.1.2) (.slice Ao72 x86011003_1.length co72)) (fun _ hk => hk.2) (.int .i64 t86003)) (fun _ hk => hk.2) (.int .i64 t86004)) (fun _ hk => hk.2) (.int .i64 t86005)) (fun _ hk => hk.2) (.slice Ao77 x86015003_1.length co77)) (fun _ hk => hk.1.1), by repeat (first | (with_reducible first | exact HI0.out | apply IsS144.alloc | apply IsS144.drewN | apply IsS144.drew | apply IsS144.set_1 | refine IsS144.far ?_ NB0_86001.out _ | refine IsS144.far ?_ NB0_86002.out _ | refine IsS144.far ?_ NB0_86010.out _ | refine IsS144.far ?_ NB0_86014.out _) | exact HI0.out), by repeat (first | (with_reducible first | exact HB.out | apply below_alloc | apply pw_below_drewN | apply below_drew1 | refine below_set ?_ (IsS144.ge HI0.out) | refine below_set ?_ GE86001.out | refine below_set ?_ GE86002.out | refine below_set ?_ GE86010.out | refine below_set ?_ GE86014.out) | exact HB.out), by repeat (first | (with_reducible first | exact HK.out | apply KeepBut.set_ | apply keep_drewN | apply keep_drew | apply keep_alloc | refine keep_far ?_ GW86001.out _ | refine keep_far ?_ GW86002.out _ | refine keep_far ?_ GW86010.out _ | refine keep_far ?_ GW86014.out _) | exact HK.out)⟩


def spec_newReader.f (l0 : List Int) : Option (List Int × Int) := if (l0.length : Int) > 2000 then (if 2000 ≤ (l0.length : Int) then (some (l0.take 2000, 0)) else (none)) else (some (l0, 0))
set_option maxHeartbeats 8000000 in
set_option maxRecDepth 100000 in
theorem spec_newReader.calls (A0 : Option Addr) (c0 : Nat) (l0 : List Int) (r1 : List Int) (r2 : Int) (w0 w : World) (hB : Below w0.heap.size w0 w) (hr0 : Kd.C (Kd.int .u8) w0 A0 l0.length l0) (hc0 : l0.length ≤ c0) (h : spec_newReader.f l0 = some (r1, r2)) :
    Calls Try.prog 86 #[.slice A0 l0.length c0] w fun e w' => ∃ g_ : Nat, e = .returned (.pointer (some ⟨g_, 0, none⟩)) ∧ IsS144 w0 w' g_ r1 r2 ∧ Below w0.heap.size w0 w' ∧ Below w.heap.size w w' := by
  have hu144 := Try.underlying144
  have HR0 := Aside0.mk hr0
  have HC0 := Aside0.mk hc0
  clear hr0 hc0
  have HBW := Aside0.mk (Below.refl w.heap.size w)
  have HW0 := Aside0.mk hB.size
  have HB := Aside0.mk hB
  clear hB
  have H : (if (l0.length : Int) > 2000 then (if 2000 ≤ (l0.length : Int) then (some (l0.take 2000, 0)) else (none)) else (some (l0, 0))) = some (r1, r2) := h
  clear h
  by_cases c2 : (l0.length : Int) > 2000
  · rw [if_pos c2] at H
    have c2b0 : decide (2000 < (l0.length : Int)) = true := decide_eq_true c2
    have c2b1 : decide (2000 < l0.length) = true := decide_eq_true (by omega)
    clear c2
    by_cases c3 : 2000 ≤ (l0.length : Int)
    · rw [if_pos c3] at H
      have c3b0 := eq_true c3
      have c3b1 : decide (2000 ≤ (l0.length : Int)) = true := decide_eq_true c3
      clear c3
      simp only [Option.some.injEq, Prod.mk.injEq] at H
      obtain ⟨rfl, rfl⟩ := H
      obtain ⟨i04, hi04, _, hsz4, _⟩ := info_parts info5
      obtain ⟨hcut4, hA4, hC4⟩ := print_take_of (P := Try.prog) (Value.int .u8) 0 31 5 .i64 Try.underlying31 hi04 hsz4 A0 c0 l0 2000 (by omega) (of_decide_eq_true (by first | (with_reducible assumption) | assumption)) HC0.out
      have HR87001 := Aside0.mk (Kd.C_of_reads (h1 := fun _ => rfl) (hA4 _ (Kd.reads_of_C HR0.out)))
      have HC87001 := Aside0.mk hC4
      clear hA4 hC4 hi04 hsz4
      go_enter Try.func86, Try.ntmps86
      go_wp2_with (first | ((with_reducible refine gate_dst (N := 10) rfl ?_); refine box_event ?hg (N := 10) ?hd (cs := #[.slice A0 (l0.take 2000).length c0, .int .i64 0]) (t := 144) ?hr ?_; (case hd => rfl); (case hg => rfl); (case hr => first | (go_simp; done) | (go_simp; rfl)); intro gb87002 hg w5 hbox hb; have n0_ := Aside0.mk (below_step HBW.out hb); have n1_ := Aside0.mk (below_step (by repeat (first | (with_reducible first | exact HB.out | apply below_alloc | apply pw_below_drewN | apply below_drew1) | exact HB.out)) hb); have n2_ := Aside0.mk (hbox); have n3_ := Aside0.mk ((by rw [hg]; exact (below_size (by repeat (first | (with_reducible first | exact HBW.out | apply below_alloc | apply pw_below_drewN | apply below_drew1) | exact HBW.out))) : w.heap.size ≤ gb87002)); have n4_ := Aside0.mk ((Nat.le_trans HW0.out (by rw [hg]; exact (below_size (by repeat (first | (with_reducible first | exact HBW.out | apply below_alloc | apply pw_below_drewN | apply below_drew1) | exact HBW.out))) : w.heap.size ≤ gb87002) : w0.heap.size ≤ gb87002)); clear HBW; clear HB; have HBW := n0_; have HB := n1_; have BK87002 := n2_; have GW87002 := n3_; have GE87002 := n4_; clear n0_ n1_ n2_ n3_ n4_; clear hb hbox hg))
      go_ret
      exact ⟨_, rfl, (show IsS144 w0 _ gb87002 (l0.take 2000) 0 from ⟨_, _, by (with_reducible repeat (first | refine blk_drewN ?_ _ | refine blk_drew ?_ | refine blk_alloc ?_ _)); exact BK87002.out, GE87002.out, HR87001.out⟩), by repeat (first | (with_reducible first | exact HB.out | apply below_alloc | apply pw_below_drewN | apply below_drew1 | refine below_set ?_ GE87002.out) | exact HB.out), by repeat (first | (with_reducible first | exact HBW.out | apply below_alloc | apply pw_below_drewN | apply below_drew1 | refine below_set ?_ GW87002.out) | exact HBW.out)⟩
    · rw [if_neg c3] at H
      exact absurd H (by simp)
  · rw [if_neg c2] at H
    have c2b0 : decide (2000 < (l0.length : Int)) = false := decide_eq_false c2
    have c2b1 : decide (2000 < l0.length) = false := decide_eq_false (by omega)
    clear c2
    simp only [Option.some.injEq, Prod.mk.injEq] at H
    obtain ⟨rfl, rfl⟩ := H
    go_enter Try.func86, Try.ntmps86
    go_wp2_with (first | ((with_reducible refine gate_dst (N := 10) rfl ?_); refine box_event ?hg (N := 10) ?hd (cs := #[.slice A0 l0.length c0, .int .i64 0]) (t := 144) ?hr ?_; (case hd => rfl); (case hg => rfl); (case hr => first | (go_simp; done) | (go_simp; rfl)); intro gb87003 hg w6 hbox hb; have n0_ := Aside0.mk (below_step HBW.out hb); have n1_ := Aside0.mk (below_step (by repeat (first | (with_reducible first | exact HB.out | apply below_alloc | apply pw_below_drewN | apply below_drew1) | exact HB.out)) hb); have n2_ := Aside0.mk (hbox); have n3_ := Aside0.mk ((by rw [hg]; exact (below_size (by repeat (first | (with_reducible first | exact HBW.out | apply below_alloc | apply pw_below_drewN | apply below_drew1) | exact HBW.out))) : w.heap.size ≤ gb87003)); have n4_ := Aside0.mk ((Nat.le_trans HW0.out (by rw [hg]; exact (below_size (by repeat (first | (with_reducible first | exact HBW.out | apply below_alloc | apply pw_below_drewN | apply below_drew1) | exact HBW.out))) : w.heap.size ≤ gb87003) : w0.heap.size ≤ gb87003)); clear HBW; clear HB; have HBW := n0_; have HB := n1_; have BK87003 := n2_; have GW87003 := n3_; have GE87003 := n4_; clear n0_ n1_ n2_ n3_ n4_; clear hb hbox hg))
    go_ret
    exact ⟨_, rfl, (show IsS144 w0 _ gb87003 l0 0 from ⟨_, _, by (with_reducible repeat (first | refine blk_drewN ?_ _ | refine blk_drew ?_ | refine blk_alloc ?_ _)); exact BK87003.out, GE87003.out, HR0.out⟩), by repeat (first | (with_reducible first | exact HB.out | apply below_alloc | apply pw_below_drewN | apply below_drew1 | refine below_set ?_ GE87003.out) | exact HB.out), by repeat (first | (with_reducible first | exact HBW.out | apply below_alloc | apply pw_below_drewN | apply below_drew1 | refine below_set ?_ GW87003.out) | exact HBW.out)⟩


def spec_DrawGapOf.f (k : Nat) (l0 : List Int) : Option (Int × Int × Int × List Int × Int × Int × Int × List Int) := (spec_newReader.f l0).bind fun bt26003 => ((spec_twoImages.f k bt26003.1 bt26003.2).bind fun bt26006 => (some (bt26006.1, bt26006.2.1, bt26006.2.2.1, bt26006.2.2.2.1, bt26006.2.2.2.2.1, bt26006.2.2.2.2.2.1, bt26006.2.2.2.2.2.2.1, bt26006.2.2.2.2.2.2.2.1)))
theorem spec_DrawGapOf.mono : ∀ a0 k, LeO (spec_DrawGapOf.f k a0) (spec_DrawGapOf.f (k + 1) a0) := by
  intro a0 k
  unfold spec_DrawGapOf.f
  repeat' first
      | (with_reducible exact spec_twoImages.mono _ _ _)
      | (with_reducible exact LeO.refl _)
      | (with_reducible exact LeO.none _)
      | (with_reducible refine LeO.ite ?_ ?_)
      | (with_reducible refine LeO.bind ?_ (fun _ => ?_))
      | exact spec_twoImages.mono _ _ _
      | exact LeO.none _
      | refine LeO.ite ?_ ?_
      | refine LeO.bind ?_ (fun _ => ?_)
set_option maxHeartbeats 8000000 in
set_option maxRecDepth 100000 in
theorem spec_DrawGapOf.calls (k : Nat) (A0 : Option Addr) (c0 : Nat) (l0 : List Int) (r1 : Int) (r2 : Int) (r3 : Int) (r4 : List Int) (r5 : Int) (r6 : Int) (r7 : Int) (r8 : List Int) (w : World) (hr0 : Kd.C (Kd.int .u8) w A0 l0.length l0) (hc0 : l0.length ≤ c0) (h : spec_DrawGapOf.f k l0 = some (r1, r2, r3, r4, r5, r6, r7, r8)) :
    Calls Try.prog 25 #[.slice A0 l0.length c0] w fun e w' => ∃ v3_ v7_ : Value, e = .returned (.tuple #[.agg #[.int .i64 r1, .int .i64 r2, .int .i64 r3, v3_], .agg #[.int .i64 r5, .int .i64 r6, .int .i64 r7, v7_]]) ∧ Kd.Q (Kd.int .i64) 3 w' w.heap.size (fun k_ => some k_ ≠ (v7_ : Value).ownBlock) v3_ r4 ∧ Kd.Q (Kd.int .i64) 3 w' w.heap.size (fun k_ => some k_ ≠ (v3_ : Value).ownBlock) v7_ r8 ∧ Below w.heap.size w w' := by
  have hu27 := Try.underlying27
  have HR0 := Aside0.mk hr0
  have HC0 := Aside0.mk hc0
  clear hr0 hc0
  have HB := Aside0.mk (Below.refl w.heap.size w)
  have H : ((spec_newReader.f l0).bind fun bt26003 => ((spec_twoImages.f k bt26003.1 bt26003.2).bind fun bt26006 => (some (bt26006.1, bt26006.2.1, bt26006.2.2.1, bt26006.2.2.2.1, bt26006.2.2.2.2.1, bt26006.2.2.2.2.2.1, bt26006.2.2.2.2.2.2.1, bt26006.2.2.2.2.2.2.2.1)))) = some (r1, r2, r3, r4, r5, r6, r7, r8) := h
  clear h
  replace H := Option.bind_eq_some_iff.mp H
  obtain ⟨⟨t26003, t26004⟩, A20, H⟩ := H
  replace H : ((spec_twoImages.f k t26003 t26004).bind fun bt26006 => (some (bt26006.1, bt26006.2.1, bt26006.2.2.1, bt26006.2.2.2.1, bt26006.2.2.2.2.1, bt26006.2.2.2.2.2.1, bt26006.2.2.2.2.2.2.1, bt26006.2.2.2.2.2.2.2.1))) = some (r1, r2, r3, r4, r5, r6, r7, r8) := H
  have A2 := Aside0.mk A20
  clear A20
  replace H := Option.bind_eq_some_iff.mp H
  obtain ⟨⟨t26006, t26007, t26008, t26009, t26012, t26013, t26014, t26015, t26018⟩, A30, H⟩ := H
  replace H : (some (t26006, t26007, t26008, t26009, t26012, t26013, t26014, t26015)) = some (r1, r2, r3, r4, r5, r6, r7, r8) := H
  have A3 := Aside0.mk A30
  clear A30
  simp only [Option.some.injEq, Prod.mk.injEq] at H
  obtain ⟨rfl, rfl, rfl, rfl, rfl, rfl, rfl, rfl⟩ := H
  go_enter Try.func25, Try.ntmps25
  go_wp2_with (first | ((with_reducible refine gate_dst (N := 2) rfl ?_); refine box_event ?hg (N := 2) ?hd (cs := #[.int .i64 0, .int .i64 0, .int .i64 0, .slice none 0 0]) (t := 27) ?hr ?_; (case hd => rfl); (case hg => rfl); (case hr => first | (go_simp; done) | (go_simp; rfl)); intro gb26001 hg w4 hbox hb; have n0_ := Aside0.mk (below_step (by repeat (first | (with_reducible first | exact HB.out | apply below_alloc | apply pw_below_drewN | apply below_drew1) | exact HB.out)) hb); have n1_ := Aside0.mk (hbox); have n2_ := Aside0.mk ((by rw [hg]; exact (below_size (by repeat (first | (with_reducible first | exact HB.out | apply below_alloc | apply pw_below_drewN | apply below_drew1) | exact HB.out))) : w.heap.size ≤ gb26001)); have n3_ := Aside0.mk ((by rw [hg]; exact (below_size (by repeat (first | (with_reducible first | exact HB.out | apply below_alloc | apply pw_below_drewN | apply below_drew1) | exact HB.out))) : w.heap.size ≤ gb26001)); clear HB; have HB := n0_; have BK26001 := n1_; have GW26001 := n2_; have GE26001 := n3_; clear n0_ n1_ n2_ n3_; clear hb hbox hg) | ((with_reducible refine gate_dst (N := 3) rfl ?_); refine box_event ?hg (N := 3) ?hd (cs := #[.int .i64 0, .int .i64 0, .int .i64 0, .slice none 0 0]) (t := 27) ?hr ?_; (case hd => rfl); (case hg => rfl); (case hr => first | (go_simp; done) | (go_simp; rfl)); intro gb26002 hg w5 hbox hb; have n0_ := Aside0.mk (blk_below (g := gb26001) (o := .cells #[.int .i64 0, .int .i64 0, .int .i64 0, .slice none 0 0] 27 (0, 0)) (by (with_reducible repeat (first | refine blk_drewN ?_ _ | refine blk_drew ?_ | refine blk_alloc ?_ _)); exact BK26001.out) hb); have n1_ := Aside0.mk (below_step (by repeat (first | (with_reducible first | exact HB.out | apply below_alloc | apply pw_below_drewN | apply below_drew1 | refine below_set ?_ GE26001.out) | exact HB.out)) hb); have n2_ := Aside0.mk (hbox); have n3_ := Aside0.mk ((by rw [hg]; exact (below_size (by repeat (first | (with_reducible first | exact HB.out | apply below_alloc | apply pw_below_drewN | apply below_drew1 | refine below_set ?_ GE26001.out) | exact HB.out))) : w.heap.size ≤ gb26002)); have n4_ := Aside0.mk ((by rw [hg]; exact (below_size (by repeat (first | (with_reducible first | exact HB.out | apply below_alloc | apply pw_below_drewN | apply below_drew1 | refine below_set ?_ GE26001.out) | exact HB.out))) : w.heap.size ≤ gb26002)); have n5_ := Aside0.mk ((by rw [hg]; exact Nat.ne_of_lt (blk_lt (g := gb26001) (o := .cells #[.int .i64 0, .int .i64 0, .int .i64 0, .slice none 0 0] 27 (0, 0)) (by (with_reducible repeat (first | refine blk_drewN ?_ _ | refine blk_drew ?_ | refine blk_alloc ?_ _)); exact BK26001.out)) : gb26001 ≠ gb26002)); have n6_ := Aside0.mk ((by rw [hg]; exact Nat.ne_of_gt (blk_lt (g := gb26001) (o := .cells #[.int .i64 0, .int .i64 0, .int .i64 0, .slice none 0 0] 27 (0, 0)) (by (with_reducible repeat (first | refine blk_drewN ?_ _ | refine blk_drew ?_ | refine blk_alloc ?_ _)); exact BK26001.out)) : gb26002 ≠ gb26001)); clear BK26001; clear HB; have BK26001 := n0_; have HB := n1_; have BK26002 := n2_; have GW26002 := n3_; have GE26002 := n4_; have NB26001_26002 := n5_; have NB26002_26001 := n6_; clear n0_ n1_ n2_ n3_ n4_ n5_ n6_; clear hb hbox hg) | ((with_reducible refine gate_callee (f := 86) rfl ?_); refine goesL_ (some 5) rfl rfl Try.func86 (by kernel_rfl) rfl #[.slice A0 l0.length c0] rfl (by (try simp only [List.map_toArray, List.map_cons, List.map_nil]); first | done | rfl | (simp only [List.length_drop, List.length_take]; rfl)) ?_; (with_reducible refine (spec_newReader.calls _ _ l0 t26003 t26004 w _ ?side1 ?side2 ?side3 A2.out).mono ?_); (case side1 => repeat (first | (with_reducible first | exact HB.out | apply below_alloc | apply pw_below_drewN | apply below_drew1 | refine below_set ?_ GE26001.out | refine below_set ?_ GE26002.out) | exact HB.out)); (case side2 => exact HR0.out); (case side3 => exact HC0.out); rintro e w6 ⟨g26005, rfl, hi, hb, hb2⟩; refine ⟨_, rfl, ?_⟩; have n0_ := Aside0.mk (blk_below (g := gb26001) (o := .cells #[.int .i64 0, .int .i64 0, .int .i64 0, .slice none 0 0] 27 (0, 0)) (by (with_reducible repeat (first | refine blk_drewN ?_ _ | refine blk_drew ?_ | refine blk_alloc ?_ _)); exact BK26001.out) hb2); have n1_ := Aside0.mk (blk_below (g := gb26002) (o := .cells #[.int .i64 0, .int .i64 0, .int .i64 0, .slice none 0 0] 27 (0, 0)) (by (with_reducible repeat (first | refine blk_drewN ?_ _ | refine blk_drew ?_ | refine blk_alloc ?_ _)); exact BK26002.out) hb2); have n2_ := Aside0.mk (hb); have n3_ := Aside0.mk (hi); have n4_ := Aside0.mk (IsS144.ne_blk hi (blk_below (g := gb26001) (o := .cells #[.int .i64 0, .int .i64 0, .int .i64 0, .slice none 0 0] 27 (0, 0)) (by (with_reducible repeat (first | refine blk_drewN ?_ _ | refine blk_drew ?_ | refine blk_alloc ?_ _)); exact BK26001.out) hb2) (by decide)); have n5_ := Aside0.mk (Ne.symm (IsS144.ne_blk hi (blk_below (g := gb26001) (o := .cells #[.int .i64 0, .int .i64 0, .int .i64 0, .slice none 0 0] 27 (0, 0)) (by (with_reducible repeat (first | refine blk_drewN ?_ _ | refine blk_drew ?_ | refine blk_alloc ?_ _)); exact BK26001.out) hb2) (by decide))); have n6_ := Aside0.mk (IsS144.ne_blk hi (blk_below (g := gb26002) (o := .cells #[.int .i64 0, .int .i64 0, .int .i64 0, .slice none 0 0] 27 (0, 0)) (by (with_reducible repeat (first | refine blk_drewN ?_ _ | refine blk_drew ?_ | refine blk_alloc ?_ _)); exact BK26002.out) hb2) (by decide)); have n7_ := Aside0.mk (Ne.symm (IsS144.ne_blk hi (blk_below (g := gb26002) (o := .cells #[.int .i64 0, .int .i64 0, .int .i64 0, .slice none 0 0] 27 (0, 0)) (by (with_reducible repeat (first | refine blk_drewN ?_ _ | refine blk_drew ?_ | refine blk_alloc ?_ _)); exact BK26002.out) hb2) (by decide))); clear BK26001; clear BK26002; clear HB; have BK26001 := n0_; have BK26002 := n1_; have HB := n2_; have HI26005 := n3_; have NB26005_26001 := n4_; have NB26001_26005 := n5_; have NB26005_26002 := n6_; have NB26002_26005 := n7_; clear n0_ n1_ n2_ n3_ n4_ n5_ n6_ n7_; (try clear hb); (try clear hb2); (try clear hk); (try clear hi)) | ((with_reducible refine gate_callee (f := 85) rfl ?_); refine goesL_ (some 6) rfl rfl Try.func85 (by kernel_rfl) rfl #[.pointer (some ⟨g26005, 0, none⟩)] rfl (by (try simp only [List.map_toArray, List.map_cons, List.map_nil]); first | done | rfl | (simp only [List.length_drop, List.length_take]; rfl)) ?_; (with_reducible refine (spec_twoImages.calls k g26005 t26003 t26004 t26006 t26007 t26008 t26009 t26012 t26013 t26014 t26015 t26018 w _ ?side1 ?side2 A3.out).mono ?_); (case side1 => repeat (first | (with_reducible first | exact HI26005.out | apply IsS144.alloc | apply IsS144.drewN | apply IsS144.drew | apply IsS144.set_1 | refine IsS144.far ?_ NB26005_26001.out _ | refine IsS144.far ?_ NB26005_26002.out _) | exact HI26005.out)); (case side2 => repeat (first | (with_reducible first | exact HB.out | apply below_alloc | apply pw_below_drewN | apply below_drew1 | refine below_set ?_ (IsS144.ge HI26005.out) | refine below_set ?_ GE26001.out | refine below_set ?_ GE26002.out) | exact HB.out)); rintro e w7 ⟨v26010, v26016, rfl, ho0, ho1, hi, hb, hk⟩; refine ⟨_, rfl, ?_⟩; have n0_ := Aside0.mk (KeepBut.blk hk (g' := gb26001) (o := .cells #[.int .i64 0, .int .i64 0, .int .i64 0, .slice none 0 0] 27 (0, 0)) (by (with_reducible repeat (first | refine blk_drewN ?_ _ | refine blk_drew ?_ | refine blk_alloc ?_ _)); exact BK26001.out) NB26001_26005.out (by simp)); have n1_ := Aside0.mk (KeepBut.blk hk (g' := gb26002) (o := .cells #[.int .i64 0, .int .i64 0, .int .i64 0, .slice none 0 0] 27 (0, 0)) (by (with_reducible repeat (first | refine blk_drewN ?_ _ | refine blk_drew ?_ | refine blk_alloc ?_ _)); exact BK26002.out) NB26002_26005.out (by simp)); have n2_ := Aside0.mk (Kd.Q_lower ho0 (below_size (by repeat (first | (with_reducible first | exact HB.out | apply below_alloc | apply pw_below_drewN | apply below_drew1 | refine below_set ?_ (IsS144.ge HI26005.out) | refine below_set ?_ GE26001.out | refine below_set ?_ GE26002.out) | exact HB.out)))); have n3_ := Aside0.mk (Kd.Q_lower ho1 (below_size (by repeat (first | (with_reducible first | exact HB.out | apply below_alloc | apply pw_below_drewN | apply below_drew1 | refine below_set ?_ (IsS144.ge HI26005.out) | refine below_set ?_ GE26001.out | refine below_set ?_ GE26002.out) | exact HB.out)))); have n4_ := Aside0.mk (hb); have n5_ := Aside0.mk (hi); clear BK26001; clear BK26002; clear HB; clear HI26005; have BK26001 := n0_; have BK26002 := n1_; have HO26011 := n2_; have HO26017 := n3_; have HB := n4_; have HI26005 := n5_; clear n0_ n1_ n2_ n3_ n4_ n5_; (try clear hb); (try clear hb2); (try clear hk); (try clear hi); (try clear ho0); (try clear ho1); have hnb8 := NB26001_26002.out; have hnc8 := NB26002_26001.out; have hnb9 := NB26001_26005.out; have hnc9 := NB26005_26001.out; have hcz10_0 : w7.cell? ⟨gb26001, 0, none⟩ = some (.int .i64 0) := (blk_cell BK26001.out 0).trans rfl; have hcz10_1 : w7.cell? ⟨gb26001, 1, none⟩ = some (.int .i64 0) := (blk_cell BK26001.out 1).trans rfl; have hcz10_2 : w7.cell? ⟨gb26001, 2, none⟩ = some (.int .i64 0) := (blk_cell BK26001.out 2).trans rfl; have hcz10_3 : w7.cell? ⟨gb26001, 3, none⟩ = some (.slice none 0 0) := (blk_cell BK26001.out 3).trans rfl; have hfz10_0 := blk_frozen BK26001.out 0; have hfz10_1 := blk_frozen BK26001.out 1; have hfz10_2 := blk_frozen BK26001.out 2; have hfz10_3 := blk_frozen BK26001.out 3; obtain ⟨Ao11, co11, eo11, _⟩ := Kd.Q_slice HO26011.out; subst eo11; have hnb12 := NB26002_26005.out; have hnc12 := NB26005_26002.out; have hcz13_0 : w7.cell? ⟨gb26002, 0, none⟩ = some (.int .i64 0) := (blk_cell BK26002.out 0).trans rfl; have hcz13_1 : w7.cell? ⟨gb26002, 1, none⟩ = some (.int .i64 0) := (blk_cell BK26002.out 1).trans rfl; have hcz13_2 : w7.cell? ⟨gb26002, 2, none⟩ = some (.int .i64 0) := (blk_cell BK26002.out 2).trans rfl; have hcz13_3 : w7.cell? ⟨gb26002, 3, none⟩ = some (.slice none 0 0) := (blk_cell BK26002.out 3).trans rfl; have hfz13_0 := blk_frozen BK26002.out 0; have hfz13_1 := blk_frozen BK26002.out 1; have hfz13_2 := blk_frozen BK26002.out 2; have hfz13_3 := blk_frozen BK26002.out 3; obtain ⟨Ao14, co14, eo14, _⟩ := Kd.Q_slice HO26017.out; subst eo14))
  refine bodyPost_ret (results_cc rfl _ _ gb26001 gb26002 27 27 #[.int .i64 t26006, .int .i64 t26007, .int .i64 t26008, .slice Ao11 t26009.length co11] #[.int .i64 t26012, .int .i64 t26013, .int .i64 t26014, .slice Ao14 t26015.length co14] (0, 0) (0, 0) _ _ rfl (by (with_reducible repeat (first | refine blk_drewN ?_ _ | refine blk_drew ?_ | refine blk_alloc ?_ _)); refine blk_far ?_ NB26001_26002.out _; (with_reducible repeat (first | refine blk_drewN ?_ _ | refine blk_drew ?_ | refine blk_alloc ?_ _)); refine blk_far ?_ NB26001_26002.out _; (with_reducible repeat (first | refine blk_drewN ?_ _ | refine blk_drew ?_ | refine blk_alloc ?_ _)); refine blk_far ?_ NB26001_26002.out _; (with_reducible repeat (first | refine blk_drewN ?_ _ | refine blk_drew ?_ | refine blk_alloc ?_ _)); refine blk_far ?_ NB26001_26002.out _; (with_reducible repeat (first | refine blk_drewN ?_ _ | refine blk_drew ?_ | refine blk_alloc ?_ _)); refine blk_put (cs := #[.int .i64 t26006, .int .i64 t26007, .int .i64 t26008, .slice none 0 0]) ?_ 3 _ rfl; (with_reducible repeat (first | refine blk_drewN ?_ _ | refine blk_drew ?_ | refine blk_alloc ?_ _)); refine blk_put (cs := #[.int .i64 t26006, .int .i64 t26007, .int .i64 0, .slice none 0 0]) ?_ 2 _ rfl; (with_reducible repeat (first | refine blk_drewN ?_ _ | refine blk_drew ?_ | refine blk_alloc ?_ _)); refine blk_put (cs := #[.int .i64 t26006, .int .i64 0, .int .i64 0, .slice none 0 0]) ?_ 1 _ rfl; (with_reducible repeat (first | refine blk_drewN ?_ _ | refine blk_drew ?_ | refine blk_alloc ?_ _)); refine blk_put (cs := #[.int .i64 0, .int .i64 0, .int .i64 0, .slice none 0 0]) ?_ 0 _ rfl; (with_reducible repeat (first | refine blk_drewN ?_ _ | refine blk_drew ?_ | refine blk_alloc ?_ _)); exact BK26001.out) Try.underlying27 rfl (by kernel_rfl) rfl (by (with_reducible repeat (first | refine blk_drewN ?_ _ | refine blk_drew ?_ | refine blk_alloc ?_ _)); refine blk_put (cs := #[.int .i64 t26012, .int .i64 t26013, .int .i64 t26014, .slice none 0 0]) ?_ 3 _ rfl; (with_reducible repeat (first | refine blk_drewN ?_ _ | refine blk_drew ?_ | refine blk_alloc ?_ _)); refine blk_put (cs := #[.int .i64 t26012, .int .i64 t26013, .int .i64 0, .slice none 0 0]) ?_ 2 _ rfl; (with_reducible repeat (first | refine blk_drewN ?_ _ | refine blk_drew ?_ | refine blk_alloc ?_ _)); refine blk_put (cs := #[.int .i64 t26012, .int .i64 0, .int .i64 0, .slice none 0 0]) ?_ 1 _ rfl; (with_reducible repeat (first | refine blk_drewN ?_ _ | refine blk_drew ?_ | refine blk_alloc ?_ _)); refine blk_put (cs := #[.int .i64 0, .int .i64 0, .int .i64 0, .slice none 0 0]) ?_ 0 _ rfl; (with_reducible repeat (first | refine blk_drewN ?_ _ | refine blk_drew ?_ | refine blk_alloc ?_ _)); refine blk_far ?_ NB26002_26001.out _; (with_reducible repeat (first | refine blk_drewN ?_ _ | refine blk_drew ?_ | refine blk_alloc ?_ _)); refine blk_far ?_ NB26002_26001.out _; (with_reducible repeat (first | refine blk_drewN ?_ _ | refine blk_drew ?_ | refine blk_alloc ?_ _)); refine blk_far ?_ NB26002_26001.out _; (with_reducible repeat (first | refine blk_drewN ?_ _ | refine blk_drew ?_ | refine blk_alloc ?_ _)); refine blk_far ?_ NB26002_26001.out _; (with_reducible repeat (first | refine blk_drewN ?_ _ | refine blk_drew ?_ | refine blk_alloc ?_ _)); exact BK26002.out) Try.underlying27 rfl (by kernel_rfl)) rfl ?_
  exact ⟨_, _, by first | rfl | (simp [errW_none, errW_some] <;> rfl) | (simp [*, errW_none, errW_some] <;> rfl), by (with_reducible repeat (first | apply Kd.Q_alloc | apply Kd.Q_drewN | apply Kd.Q_drew)); exact Kd.Q_mono (Kd.Q_far (p := ⟨gb26002, 3, none⟩) (Kd.Q_far (p := ⟨gb26002, 2, none⟩) (Kd.Q_far (p := ⟨gb26002, 1, none⟩) (Kd.Q_far (p := ⟨gb26002, 0, none⟩) (Kd.Q_far (p := ⟨gb26001, 3, none⟩) (Kd.Q_far (p := ⟨gb26001, 2, none⟩) (Kd.Q_far (p := ⟨gb26001, 1, none⟩) (Kd.Q_far (p := ⟨gb26001, 0, none⟩) (Kd.Q_types (Kd.Q_types HO26011.out BK26001.out (by decide)) BK26002.out (by decide)) (fun _ hk => hk.1.2) (.int .i64 t26006)) (fun _ hk => hk.1.2) (.int .i64 t26007)) (fun _ hk => hk.1.2) (.int .i64 t26008)) (fun _ hk => hk.1.2) (.slice Ao11 t26009.length co11)) (fun _ hk => hk.2) (.int .i64 t26012)) (fun _ hk => hk.2) (.int .i64 t26013)) (fun _ hk => hk.2) (.int .i64 t26014)) (fun _ hk => hk.2) (.slice Ao14 t26015.length co14)) (fun _ hk => hk.1.1), by (with_reducible repeat (first | apply Kd.Q_alloc | apply Kd.Q_drewN | apply Kd.Q_drew)); exact Kd.Q_mono (Kd.Q_far (p := ⟨gb26002, 3, none⟩) (Kd.Q_far (p := ⟨gb26002, 2, none⟩) (Kd.Q_far (p := ⟨gb26002, 1, none⟩) (Kd.Q_far (p := ⟨gb26002, 0, none⟩) (Kd.Q_far (p := ⟨gb26001, 3, none⟩) (Kd.Q_far (p := ⟨gb26001, 2, none⟩) (Kd.Q_far (p := ⟨gb26001, 1, none⟩) (Kd.Q_far (p := ⟨gb26001, 0, none⟩) (Kd.Q_types (Kd.Q_types HO26017.out BK26001.out (by decide)) BK26002.out (by decide)) (fun _ hk => hk.1.2) (.int .i64 t26006)) (fun _ hk => hk.1.2) (.int .i64 t26007)) (fun _ hk => hk.1.2) (.int .i64 t26008)) (fun _ hk => hk.1.2) (.slice Ao11 t26009.length co11)) (fun _ hk => hk.2) (.int .i64 t26012)) (fun _ hk => hk.2) (.int .i64 t26013)) (fun _ hk => hk.2) (.int .i64 t26014)) (fun _ hk => hk.2) (.slice Ao14 t26015.length co14)) (fun _ hk => hk.1.1), by repeat (first | (with_reducible first | exact HB.out | apply below_alloc | apply pw_below_drewN | apply below_drew1 | refine below_set ?_ (IsS144.ge HI26005.out) | refine below_set ?_ GE26001.out | refine below_set ?_ GE26002.out) | exact HB.out)⟩


def laws_equalInts.l0 : Nat → List Int → List Int → Int → Option (Bool)
  | 0, _, _, _ => none
  | k + 1, x0, x1, x5 => if x5 < (x0.length : Int) then (if 0 ≤ x5 then (if x5 < (x1.length : Int) then (if (rd x0 x5) = (rd x1 x5) then (laws_equalInts.l0 k x0 x1 (wrap64 (x5 + 1))) else (some false)) else (none)) else (none)) else (some true)
def laws_equalInts.f (k : Nat) (l0 : List Int) (l1 : List Int) : Option (Bool) := if (l0.length : Int) = (l1.length : Int) then (laws_equalInts.l0 k l0 l1 0) else (some false)
theorem laws_equalInts.mono_l : ∀ k, (∀ y0 y1 y2, LeO (laws_equalInts.l0 k y0 y1 y2) (laws_equalInts.l0 (k + 1) y0 y1 y2))
  | 0 => fun _ _ _ r h => by simp [laws_equalInts.l0] at h
  | k + 1 => by
    have ih0 := laws_equalInts.mono_l k
    · intro y0 y1 y2
      unfold laws_equalInts.l0
      repeat' first
      | (with_reducible exact ih0 _ _ _)
      | (with_reducible exact LeO.refl _)
      | (with_reducible exact LeO.none _)
      | (with_reducible refine LeO.ite ?_ ?_)
      | (with_reducible refine LeO.bind ?_ (fun _ => ?_))
      | exact ih0 _ _ _
      | exact LeO.none _
      | refine LeO.ite ?_ ?_
      | refine LeO.bind ?_ (fun _ => ?_)
theorem laws_equalInts.mono : ∀ a0 a1 k, LeO (laws_equalInts.f k a0 a1) (laws_equalInts.f (k + 1) a0 a1) := by
  intro a0 a1 k
  have ih0 := laws_equalInts.mono_l k
  unfold laws_equalInts.f
  repeat' first
      | (with_reducible exact ih0 _ _ _)
      | (with_reducible exact LeO.refl _)
      | (with_reducible exact LeO.none _)
      | (with_reducible refine LeO.ite ?_ ?_)
      | (with_reducible refine LeO.bind ?_ (fun _ => ?_))
      | exact ih0 _ _ _
      | exact LeO.none _
      | refine LeO.ite ?_ ?_
      | refine LeO.bind ?_ (fun _ => ?_)
set_option maxHeartbeats 8000000 in
set_option maxRecDepth 100000 in
theorem laws_equalInts.calls (k : Nat) (A0 : Option Addr) (c0 : Nat) (l0 : List Int) (A1 : Option Addr) (c1 : Nat) (l1 : List Int) (r : Bool) (w : World) (hr0 : Kd.C (Kd.int .i64) w A0 l0.length l0) (hc0 : l0.length ≤ c0) (hr1 : Kd.C (Kd.int .i64) w A1 l1.length l1) (hc1 : l1.length ≤ c1) (h : laws_equalInts.f k l0 l1 = some r) :
    Calls Try.prog 50 #[.slice A0 l0.length c0, .slice A1 l1.length c1] w fun e w' => e = .returned (.bool r) ∧ Drawn0 w w' := by
  have HR0 := Aside0.mk hr0
  have HC0 := Aside0.mk hc0
  clear hr0 hc0
  have HR1 := Aside0.mk hr1
  have HC1 := Aside0.mk hc1
  clear hr1 hc1
  have H : (if (l0.length : Int) = (l1.length : Int) then (laws_equalInts.l0 k l0 l1 0) else (some false)) = some r := h
  clear h
  by_cases c3 : (l0.length : Int) = (l1.length : Int)
  · rw [if_pos c3] at H
    have c3b0 : ((l0.length : Int) == (l1.length : Int)) = true := beq_iff_eq.mpr c3
    have c3b1 : ((l0.length : Int) != (l1.length : Int)) = false := bne_eq_false_iff_eq.mpr c3
    have c3b2 : (l0.length == l1.length) = true := by first | simpa using c3 | (simp at c3 ⊢; omega)
    clear c3
    have H' := Aside0.mk H
    clear H
    go_enter Try.func50, Try.ntmps50
    go_wp2
    repeat (go_quiet (fail); try go_wp2)
    go_loopg [5] k (fun kq v5 w' => ∃ (x5_1 : Int), v5 = .int .i64 x5_1 ∧ Aside0 (laws_equalInts.l0 kq l0 l1 x5_1 = some r) ∧ Aside0 (kq ≤ k) ∧ Drawn0 w w')
    case atStart => exact ⟨(0), (by first | rfl | (simp; done) | (simp [*]; done)), H', ⟨Nat.le_refl _⟩, by repeat (first | exact Drawn0.refl _ | apply Drawn0.step)⟩
    case round =>
      clear H'
      try clear c1
      try clear p2
      try clear c3
      try clear c3b0
      try clear c3b1
      try clear c3b2
      obtain ⟨x5_1, rfl, HA, HK1, ⟨m1, rfl⟩⟩ := hrel
      cases gk with
      | zero => exact absurd HA.out (by simp [laws_equalInts.l0])
      | succ k1 =>
        have H := HA.out
        clear HA
        simp only [laws_equalInts.l0] at H
        by_cases c4 : x5_1 < (l0.length : Int)
        · rw [if_pos c4] at H
          have c4b0 : decide (x5_1 < (l0.length : Int)) = true := decide_eq_true c4
          clear c4
          by_cases c5 : 0 ≤ x5_1
          · rw [if_pos c5] at H
            have c5b0 : decide (0 ≤ x5_1) = true := decide_eq_true c5
            clear c5
            by_cases c6 : x5_1 < (l1.length : Int)
            · rw [if_pos c6] at H
              have c6b0 : decide (x5_1 < (l1.length : Int)) = true := decide_eq_true c6
              clear c6
              by_cases c7 : (rd l0 x5_1) = (rd l1 x5_1)
              · rw [if_pos c7] at H
                have c7b0 : ((rd l0 x5_1) == (rd l1 x5_1)) = true := beq_iff_eq.mpr c7
                have c7b1 : ((rd l0 x5_1) != (rd l1 x5_1)) = false := bne_eq_false_iff_eq.mpr c7
                clear c7
                have H' := Aside0.mk H
                clear H
                have p51001 : 0 ≤ (x5_1 : Int) := of_decide_eq_true (by first | (with_reducible assumption) | assumption)
                have q51001 : x5_1 < (l0.length : Int) := of_decide_eq_true (by first | (with_reducible assumption) | assumption)
                obtain ⟨ad51001, e51001, hx51001_0⟩ := Kd.at_int HR0.out x5_1 p51001 q51001
                cases e51001
                replace p51001 := eq_true p51001
                replace q51001 := eq_true q51001
                have p51002 : 0 ≤ (x5_1 : Int) := of_decide_eq_true (by first | (with_reducible assumption) | assumption)
                have q51002 : x5_1 < (l1.length : Int) := of_decide_eq_true (by first | (with_reducible assumption) | assumption)
                obtain ⟨ad51002, e51002, hx51002_0⟩ := Kd.at_int HR1.out x5_1 p51002 q51002
                cases e51002
                replace p51002 := eq_true p51002
                replace q51002 := eq_true q51002
                go_wp2
                repeat (go_quiet (fail); try go_wp2)
                go_roundg k1
                case measure => have := HK1.out; omega
                case rel => exact ⟨(wrap64 (x5_1 + 1)), (by first | rfl | (simp; done) | (simp [*]; done)), H', ⟨by have := HK1.out; omega⟩, by repeat (first | exact Drawn0.refl _ | apply Drawn0.step)⟩
              · rw [if_neg c7] at H
                have c7b0 : ((rd l0 x5_1) == (rd l1 x5_1)) = false := beq_eq_false_iff_ne.mpr c7
                have c7b1 : ((rd l0 x5_1) != (rd l1 x5_1)) = true := bne_iff_ne.mpr c7
                obtain rfl := Option.some.inj H
                have p51001 : 0 ≤ (x5_1 : Int) := of_decide_eq_true (by first | (with_reducible assumption) | assumption)
                have q51001 : x5_1 < (l0.length : Int) := of_decide_eq_true (by first | (with_reducible assumption) | assumption)
                obtain ⟨ad51001, e51001, hx51001_0⟩ := Kd.at_int HR0.out x5_1 p51001 q51001
                cases e51001
                replace p51001 := eq_true p51001
                replace q51001 := eq_true q51001
                have p51002 : 0 ≤ (x5_1 : Int) := of_decide_eq_true (by first | (with_reducible assumption) | assumption)
                have q51002 : x5_1 < (l1.length : Int) := of_decide_eq_true (by first | (with_reducible assumption) | assumption)
                obtain ⟨ad51002, e51002, hx51002_0⟩ := Kd.at_int HR1.out x5_1 p51002 q51002
                cases e51002
                replace p51002 := eq_true p51002
                replace q51002 := eq_true q51002
                go_wp2
                repeat (go_quiet (fail); try go_wp2)
                go_ret
                exact ⟨by first | rfl | (simp; done) | (simp [*]; done), by repeat (first | exact Drawn0.refl _ | apply Drawn0.step)⟩
            · rw [if_neg c6] at H
              exact absurd H (by simp)
          · rw [if_neg c5] at H
            exact absurd H (by simp)
        · rw [if_neg c4] at H
          have c4b0 : decide (x5_1 < (l0.length : Int)) = false := decide_eq_false c4
          clear c4
          obtain rfl := Option.some.inj H
          go_wp2
          repeat (go_quiet (fail); try go_wp2)
          go_ret
          exact ⟨by first | rfl | (simp; done) | (simp [*]; done), by repeat (first | exact Drawn0.refl _ | apply Drawn0.step)⟩
  · rw [if_neg c3] at H
    have c3b0 : ((l0.length : Int) == (l1.length : Int)) = false := beq_eq_false_iff_ne.mpr c3
    have c3b1 : ((l0.length : Int) != (l1.length : Int)) = true := bne_iff_ne.mpr c3
    have c3b2 : (l0.length == l1.length) = false := by first | simpa using c3 | (simp at c3 ⊢; omega)
    obtain rfl := Option.some.inj H
    go_enter Try.func50, Try.ntmps50
    go_wp2
    repeat (go_quiet (fail); try go_wp2)
    go_ret
    exact ⟨by first | rfl | (simp; done) | (simp [*]; done), by repeat (first | exact Drawn0.refl _ | apply Drawn0.step)⟩


def laws_equalImage.f (k : Nat) (a0_0 : Int) (a0_1 : Int) (a0_2 : Int) (l0_3 : List Int) (a1_0 : Int) (a1_1 : Int) (a1_2 : Int) (l1_3 : List Int) : Option (Bool) := if a0_0 = a1_0 then (if a0_1 = a1_1 then (if a0_2 = a1_2 then ((laws_equalInts.f k l0_3 l1_3).bind fun t27003 => (some t27003)) else (some false)) else (some false)) else (some false)
theorem laws_equalImage.mono : ∀ a0 a1 a2 a3 a4 a5 a6 a7 k, LeO (laws_equalImage.f k a0 a1 a2 a3 a4 a5 a6 a7) (laws_equalImage.f (k + 1) a0 a1 a2 a3 a4 a5 a6 a7) := by
  intro a0 a1 a2 a3 a4 a5 a6 a7 k
  unfold laws_equalImage.f
  repeat' first
      | (with_reducible exact laws_equalInts.mono _ _ _)
      | (with_reducible exact LeO.refl _)
      | (with_reducible exact LeO.none _)
      | (with_reducible refine LeO.ite ?_ ?_)
      | (with_reducible refine LeO.bind ?_ (fun _ => ?_))
      | exact laws_equalInts.mono _ _ _
      | exact LeO.none _
      | refine LeO.ite ?_ ?_
      | refine LeO.bind ?_ (fun _ => ?_)
set_option maxHeartbeats 8000000 in
set_option maxRecDepth 100000 in
theorem laws_equalImage.calls (k : Nat) (a0_0 : Int) (a0_1 : Int) (a0_2 : Int) (A0_3 : Option Addr) (c0_3 : Nat) (l0_3 : List Int) (a1_0 : Int) (a1_1 : Int) (a1_2 : Int) (A1_3 : Option Addr) (c1_3 : Nat) (l1_3 : List Int) (r : Bool) (w : World) (hr0_3 : Kd.C (Kd.int .i64) w A0_3 l0_3.length l0_3) (hc0_3 : l0_3.length ≤ c0_3) (hr1_3 : Kd.C (Kd.int .i64) w A1_3 l1_3.length l1_3) (hc1_3 : l1_3.length ≤ c1_3) (h : laws_equalImage.f k a0_0 a0_1 a0_2 l0_3 a1_0 a1_1 a1_2 l1_3 = some r) :
    Calls Try.prog 26 #[.agg #[.int .i64 a0_0, .int .i64 a0_1, .int .i64 a0_2, .slice A0_3 l0_3.length c0_3], .agg #[.int .i64 a1_0, .int .i64 a1_1, .int .i64 a1_2, .slice A1_3 l1_3.length c1_3]] w fun e w' => e = .returned (.bool r) ∧ Below w.heap.size w w' := by
  have hu27 := Try.underlying27
  have HR0_3 := Aside0.mk hr0_3
  have HC0_3 := Aside0.mk hc0_3
  clear hr0_3 hc0_3
  have HR1_3 := Aside0.mk hr1_3
  have HC1_3 := Aside0.mk hc1_3
  clear hr1_3 hc1_3
  have HB := Aside0.mk (Below.refl w.heap.size w)
  have H : (if a0_0 = a1_0 then (if a0_1 = a1_1 then (if a0_2 = a1_2 then ((laws_equalInts.f k l0_3 l1_3).bind fun t27003 => (some t27003)) else (some false)) else (some false)) else (some false)) = some r := h
  clear h
  by_cases c3 : a0_0 = a1_0
  · rw [if_pos c3] at H
    have c3b0 : (a0_0 == a1_0) = true := beq_iff_eq.mpr c3
    have c3b1 : (a0_0 != a1_0) = false := bne_eq_false_iff_eq.mpr c3
    clear c3
    by_cases c4 : a0_1 = a1_1
    · rw [if_pos c4] at H
      have c4b0 : (a0_1 == a1_1) = true := beq_iff_eq.mpr c4
      have c4b1 : (a0_1 != a1_1) = false := bne_eq_false_iff_eq.mpr c4
      clear c4
      by_cases c5 : a0_2 = a1_2
      · rw [if_pos c5] at H
        have c5b0 : (a0_2 == a1_2) = true := beq_iff_eq.mpr c5
        have c5b1 : (a0_2 != a1_2) = false := bne_eq_false_iff_eq.mpr c5
        clear c5
        replace H := Option.bind_eq_some_iff.mp H
        obtain ⟨t27003, A60, H⟩ := H
        replace H : (some t27003) = some r := H
        have A6 := Aside0.mk A60
        clear A60
        obtain rfl := Option.some.inj H
        go_enter Try.func26, Try.ntmps26
        go_wp2_with (first | ((with_reducible refine gate_dst (N := 2) rfl ?_); refine box_event ?hg (N := 2) ?hd (cs := #[.int .i64 a0_0, .int .i64 a0_1, .int .i64 a0_2, .slice A0_3 l0_3.length c0_3]) (t := 27) ?hr ?_; (case hd => rfl); (case hg => rfl); (case hr => first | (go_simp; done) | (go_simp; rfl)); intro gb27001 hg w7 hbox hb; have n0_ := Aside0.mk (below_step (by repeat (first | (with_reducible first | exact HB.out | apply below_alloc | apply pw_below_drewN | apply below_drew1) | exact HB.out)) hb); have n1_ := Aside0.mk (hbox); have n2_ := Aside0.mk ((by rw [hg]; exact (below_size (by repeat (first | (with_reducible first | exact HB.out | apply below_alloc | apply pw_below_drewN | apply below_drew1) | exact HB.out))) : w.heap.size ≤ gb27001)); have n3_ := Aside0.mk ((by rw [hg]; exact (below_size (by repeat (first | (with_reducible first | exact HB.out | apply below_alloc | apply pw_below_drewN | apply below_drew1) | exact HB.out))) : w.heap.size ≤ gb27001)); clear HB; have HB := n0_; have BK27001 := n1_; have GW27001 := n2_; have GE27001 := n3_; clear n0_ n1_ n2_ n3_; clear hb hbox hg) | ((with_reducible refine gate_dst (N := 3) rfl ?_); refine box_event ?hg (N := 3) ?hd (cs := #[.int .i64 a1_0, .int .i64 a1_1, .int .i64 a1_2, .slice A1_3 l1_3.length c1_3]) (t := 27) ?hr ?_; (case hd => rfl); (case hg => rfl); (case hr => first | (go_simp; done) | (go_simp; rfl)); intro gb27002 hg w8 hbox hb; have n0_ := Aside0.mk (blk_below (g := gb27001) (o := .cells #[.int .i64 a0_0, .int .i64 a0_1, .int .i64 a0_2, .slice A0_3 l0_3.length c0_3] 27 (0, 0)) (by (with_reducible repeat (first | refine blk_drewN ?_ _ | refine blk_drew ?_ | refine blk_alloc ?_ _)); exact BK27001.out) hb); have n1_ := Aside0.mk (below_step (by repeat (first | (with_reducible first | exact HB.out | apply below_alloc | apply pw_below_drewN | apply below_drew1 | refine below_set ?_ GE27001.out) | exact HB.out)) hb); have n2_ := Aside0.mk (hbox); have n3_ := Aside0.mk ((by rw [hg]; exact (below_size (by repeat (first | (with_reducible first | exact HB.out | apply below_alloc | apply pw_below_drewN | apply below_drew1 | refine below_set ?_ GE27001.out) | exact HB.out))) : w.heap.size ≤ gb27002)); have n4_ := Aside0.mk ((by rw [hg]; exact (below_size (by repeat (first | (with_reducible first | exact HB.out | apply below_alloc | apply pw_below_drewN | apply below_drew1 | refine below_set ?_ GE27001.out) | exact HB.out))) : w.heap.size ≤ gb27002)); have n5_ := Aside0.mk ((by rw [hg]; exact Nat.ne_of_lt (blk_lt (g := gb27001) (o := .cells #[.int .i64 a0_0, .int .i64 a0_1, .int .i64 a0_2, .slice A0_3 l0_3.length c0_3] 27 (0, 0)) (by (with_reducible repeat (first | refine blk_drewN ?_ _ | refine blk_drew ?_ | refine blk_alloc ?_ _)); exact BK27001.out)) : gb27001 ≠ gb27002)); have n6_ := Aside0.mk ((by rw [hg]; exact Nat.ne_of_gt (blk_lt (g := gb27001) (o := .cells #[.int .i64 a0_0, .int .i64 a0_1, .int .i64 a0_2, .slice A0_3 l0_3.length c0_3] 27 (0, 0)) (by (with_reducible repeat (first | refine blk_drewN ?_ _ | refine blk_drew ?_ | refine blk_alloc ?_ _)); exact BK27001.out)) : gb27002 ≠ gb27001)); clear BK27001; clear HB; have BK27001 := n0_; have HB := n1_; have BK27002 := n2_; have GW27002 := n3_; have GE27002 := n4_; have NB27001_27002 := n5_; have NB27002_27001 := n6_; clear n0_ n1_ n2_ n3_ n4_ n5_ n6_; clear hb hbox hg; have hnb9 := NB27001_27002.out; have hnc9 := NB27002_27001.out; have hcz10_0 : w8.cell? ⟨gb27001, 0, none⟩ = some (.int .i64 a0_0) := (blk_cell BK27001.out 0).trans rfl; have hcz10_1 : w8.cell? ⟨gb27001, 1, none⟩ = some (.int .i64 a0_1) := (blk_cell BK27001.out 1).trans rfl; have hcz10_2 : w8.cell? ⟨gb27001, 2, none⟩ = some (.int .i64 a0_2) := (blk_cell BK27001.out 2).trans rfl; have hcz10_3 : w8.cell? ⟨gb27001, 3, none⟩ = some (.slice A0_3 l0_3.length c0_3) := (blk_cell BK27001.out 3).trans rfl; have hfz10_0 := blk_frozen BK27001.out 0; have hfz10_1 := blk_frozen BK27001.out 1; have hfz10_2 := blk_frozen BK27001.out 2; have hfz10_3 := blk_frozen BK27001.out 3; have hcz11_0 : w8.cell? ⟨gb27002, 0, none⟩ = some (.int .i64 a1_0) := (blk_cell BK27002.out 0).trans rfl; have hcz11_1 : w8.cell? ⟨gb27002, 1, none⟩ = some (.int .i64 a1_1) := (blk_cell BK27002.out 1).trans rfl; have hcz11_2 : w8.cell? ⟨gb27002, 2, none⟩ = some (.int .i64 a1_2) := (blk_cell BK27002.out 2).trans rfl; have hcz11_3 : w8.cell? ⟨gb27002, 3, none⟩ = some (.slice A1_3 l1_3.length c1_3) := (blk_cell BK27002.out 3).trans rfl; have hfz11_0 := blk_frozen BK27002.out 0; have hfz11_1 := blk_frozen BK27002.out 1; have hfz11_2 := blk_frozen BK27002.out 2; have hfz11_3 := blk_frozen BK27002.out 3) | (go_at_call 50; (with_reducible refine (laws_equalInts.calls k _ _ l0_3 _ _ l1_3 t27003 _ ?side1 ?side2 ?side3 ?side4 A6.out).mono ?_); (case side1 => repeat (first | exact (Kd.C_below HR0_3.out HB.out) | (with_reducible refine Kd.C_alloc ?_ _) | (with_reducible refine Kd.C_drewN ?_ _) | (with_reducible refine Kd.C_drew ?_))); (case side2 => exact HC0_3.out); (case side3 => repeat (first | exact (Kd.C_below HR1_3.out HB.out) | (with_reducible refine Kd.C_alloc ?_ _) | (with_reducible refine Kd.C_drewN ?_ _) | (with_reducible refine Kd.C_drew ?_))); (case side4 => exact HC1_3.out); rintro e w' ⟨rfl, ⟨nd, rfl⟩⟩))
        go_ret
        exact ⟨by first | rfl | (simp [errW_none, errW_some] <;> rfl) | (simp [*, errW_none, errW_some] <;> rfl), by repeat (first | (with_reducible first | exact HB.out | apply below_alloc | apply pw_below_drewN | apply below_drew1 | refine below_set ?_ GE27001.out | refine below_set ?_ GE27002.out) | exact HB.out)⟩
      · rw [if_neg c5] at H
        have c5b0 : (a0_2 == a1_2) = false := beq_eq_false_iff_ne.mpr c5
        have c5b1 : (a0_2 != a1_2) = true := bne_iff_ne.mpr c5
        obtain rfl := Option.some.inj H
        go_enter Try.func26, Try.ntmps26
        go_wp2_with (first | ((with_reducible refine gate_dst (N := 2) rfl ?_); refine box_event ?hg (N := 2) ?hd (cs := #[.int .i64 a0_0, .int .i64 a0_1, .int .i64 a0_2, .slice A0_3 l0_3.length c0_3]) (t := 27) ?hr ?_; (case hd => rfl); (case hg => rfl); (case hr => first | (go_simp; done) | (go_simp; rfl)); intro gb27001 hg w12 hbox hb; have n0_ := Aside0.mk (below_step (by repeat (first | (with_reducible first | exact HB.out | apply below_alloc | apply pw_below_drewN | apply below_drew1) | exact HB.out)) hb); have n1_ := Aside0.mk (hbox); have n2_ := Aside0.mk ((by rw [hg]; exact (below_size (by repeat (first | (with_reducible first | exact HB.out | apply below_alloc | apply pw_below_drewN | apply below_drew1) | exact HB.out))) : w.heap.size ≤ gb27001)); have n3_ := Aside0.mk ((by rw [hg]; exact (below_size (by repeat (first | (with_reducible first | exact HB.out | apply below_alloc | apply pw_below_drewN | apply below_drew1) | exact HB.out))) : w.heap.size ≤ gb27001)); clear HB; have HB := n0_; have BK27001 := n1_; have GW27001 := n2_; have GE27001 := n3_; clear n0_ n1_ n2_ n3_; clear hb hbox hg) | ((with_reducible refine gate_dst (N := 3) rfl ?_); refine box_event ?hg (N := 3) ?hd (cs := #[.int .i64 a1_0, .int .i64 a1_1, .int .i64 a1_2, .slice A1_3 l1_3.length c1_3]) (t := 27) ?hr ?_; (case hd => rfl); (case hg => rfl); (case hr => first | (go_simp; done) | (go_simp; rfl)); intro gb27002 hg w13 hbox hb; have n0_ := Aside0.mk (blk_below (g := gb27001) (o := .cells #[.int .i64 a0_0, .int .i64 a0_1, .int .i64 a0_2, .slice A0_3 l0_3.length c0_3] 27 (0, 0)) (by (with_reducible repeat (first | refine blk_drewN ?_ _ | refine blk_drew ?_ | refine blk_alloc ?_ _)); exact BK27001.out) hb); have n1_ := Aside0.mk (below_step (by repeat (first | (with_reducible first | exact HB.out | apply below_alloc | apply pw_below_drewN | apply below_drew1 | refine below_set ?_ GE27001.out) | exact HB.out)) hb); have n2_ := Aside0.mk (hbox); have n3_ := Aside0.mk ((by rw [hg]; exact (below_size (by repeat (first | (with_reducible first | exact HB.out | apply below_alloc | apply pw_below_drewN | apply below_drew1 | refine below_set ?_ GE27001.out) | exact HB.out))) : w.heap.size ≤ gb27002)); have n4_ := Aside0.mk ((by rw [hg]; exact (below_size (by repeat (first | (with_reducible first | exact HB.out | apply below_alloc | apply pw_below_drewN | apply below_drew1 | refine below_set ?_ GE27001.out) | exact HB.out))) : w.heap.size ≤ gb27002)); have n5_ := Aside0.mk ((by rw [hg]; exact Nat.ne_of_lt (blk_lt (g := gb27001) (o := .cells #[.int .i64 a0_0, .int .i64 a0_1, .int .i64 a0_2, .slice A0_3 l0_3.length c0_3] 27 (0, 0)) (by (with_reducible repeat (first | refine blk_drewN ?_ _ | refine blk_drew ?_ | refine blk_alloc ?_ _)); exact BK27001.out)) : gb27001 ≠ gb27002)); have n6_ := Aside0.mk ((by rw [hg]; exact Nat.ne_of_gt (blk_lt (g := gb27001) (o := .cells #[.int .i64 a0_0, .int .i64 a0_1, .int .i64 a0_2, .slice A0_3 l0_3.length c0_3] 27 (0, 0)) (by (with_reducible repeat (first | refine blk_drewN ?_ _ | refine blk_drew ?_ | refine blk_alloc ?_ _)); exact BK27001.out)) : gb27002 ≠ gb27001)); clear BK27001; clear HB; have BK27001 := n0_; have HB := n1_; have BK27002 := n2_; have GW27002 := n3_; have GE27002 := n4_; have NB27001_27002 := n5_; have NB27002_27001 := n6_; clear n0_ n1_ n2_ n3_ n4_ n5_ n6_; clear hb hbox hg; have hnb14 := NB27001_27002.out; have hnc14 := NB27002_27001.out; have hcz15_0 : w13.cell? ⟨gb27001, 0, none⟩ = some (.int .i64 a0_0) := (blk_cell BK27001.out 0).trans rfl; have hcz15_1 : w13.cell? ⟨gb27001, 1, none⟩ = some (.int .i64 a0_1) := (blk_cell BK27001.out 1).trans rfl; have hcz15_2 : w13.cell? ⟨gb27001, 2, none⟩ = some (.int .i64 a0_2) := (blk_cell BK27001.out 2).trans rfl; have hcz15_3 : w13.cell? ⟨gb27001, 3, none⟩ = some (.slice A0_3 l0_3.length c0_3) := (blk_cell BK27001.out 3).trans rfl; have hfz15_0 := blk_frozen BK27001.out 0; have hfz15_1 := blk_frozen BK27001.out 1; have hfz15_2 := blk_frozen BK27001.out 2; have hfz15_3 := blk_frozen BK27001.out 3; have hcz16_0 : w13.cell? ⟨gb27002, 0, none⟩ = some (.int .i64 a1_0) := (blk_cell BK27002.out 0).trans rfl; have hcz16_1 : w13.cell? ⟨gb27002, 1, none⟩ = some (.int .i64 a1_1) := (blk_cell BK27002.out 1).trans rfl; have hcz16_2 : w13.cell? ⟨gb27002, 2, none⟩ = some (.int .i64 a1_2) := (blk_cell BK27002.out 2).trans rfl; have hcz16_3 : w13.cell? ⟨gb27002, 3, none⟩ = some (.slice A1_3 l1_3.length c1_3) := (blk_cell BK27002.out 3).trans rfl; have hfz16_0 := blk_frozen BK27002.out 0; have hfz16_1 := blk_frozen BK27002.out 1; have hfz16_2 := blk_frozen BK27002.out 2; have hfz16_3 := blk_frozen BK27002.out 3))
        go_ret
        exact ⟨by first | rfl | (simp [errW_none, errW_some] <;> rfl) | (simp [*, errW_none, errW_some] <;> rfl), by repeat (first | (with_reducible first | exact HB.out | apply below_alloc | apply pw_below_drewN | apply below_drew1 | refine below_set ?_ GE27001.out | refine below_set ?_ GE27002.out) | exact HB.out)⟩
    · rw [if_neg c4] at H
      have c4b0 : (a0_1 == a1_1) = false := beq_eq_false_iff_ne.mpr c4
      have c4b1 : (a0_1 != a1_1) = true := bne_iff_ne.mpr c4
      obtain rfl := Option.some.inj H
      go_enter Try.func26, Try.ntmps26
      go_wp2_with (first | ((with_reducible refine gate_dst (N := 2) rfl ?_); refine box_event ?hg (N := 2) ?hd (cs := #[.int .i64 a0_0, .int .i64 a0_1, .int .i64 a0_2, .slice A0_3 l0_3.length c0_3]) (t := 27) ?hr ?_; (case hd => rfl); (case hg => rfl); (case hr => first | (go_simp; done) | (go_simp; rfl)); intro gb27001 hg w17 hbox hb; have n0_ := Aside0.mk (below_step (by repeat (first | (with_reducible first | exact HB.out | apply below_alloc | apply pw_below_drewN | apply below_drew1) | exact HB.out)) hb); have n1_ := Aside0.mk (hbox); have n2_ := Aside0.mk ((by rw [hg]; exact (below_size (by repeat (first | (with_reducible first | exact HB.out | apply below_alloc | apply pw_below_drewN | apply below_drew1) | exact HB.out))) : w.heap.size ≤ gb27001)); have n3_ := Aside0.mk ((by rw [hg]; exact (below_size (by repeat (first | (with_reducible first | exact HB.out | apply below_alloc | apply pw_below_drewN | apply below_drew1) | exact HB.out))) : w.heap.size ≤ gb27001)); clear HB; have HB := n0_; have BK27001 := n1_; have GW27001 := n2_; have GE27001 := n3_; clear n0_ n1_ n2_ n3_; clear hb hbox hg) | ((with_reducible refine gate_dst (N := 3) rfl ?_); refine box_event ?hg (N := 3) ?hd (cs := #[.int .i64 a1_0, .int .i64 a1_1, .int .i64 a1_2, .slice A1_3 l1_3.length c1_3]) (t := 27) ?hr ?_; (case hd => rfl); (case hg => rfl); (case hr => first | (go_simp; done) | (go_simp; rfl)); intro gb27002 hg w18 hbox hb; have n0_ := Aside0.mk (blk_below (g := gb27001) (o := .cells #[.int .i64 a0_0, .int .i64 a0_1, .int .i64 a0_2, .slice A0_3 l0_3.length c0_3] 27 (0, 0)) (by (with_reducible repeat (first | refine blk_drewN ?_ _ | refine blk_drew ?_ | refine blk_alloc ?_ _)); exact BK27001.out) hb); have n1_ := Aside0.mk (below_step (by repeat (first | (with_reducible first | exact HB.out | apply below_alloc | apply pw_below_drewN | apply below_drew1 | refine below_set ?_ GE27001.out) | exact HB.out)) hb); have n2_ := Aside0.mk (hbox); have n3_ := Aside0.mk ((by rw [hg]; exact (below_size (by repeat (first | (with_reducible first | exact HB.out | apply below_alloc | apply pw_below_drewN | apply below_drew1 | refine below_set ?_ GE27001.out) | exact HB.out))) : w.heap.size ≤ gb27002)); have n4_ := Aside0.mk ((by rw [hg]; exact (below_size (by repeat (first | (with_reducible first | exact HB.out | apply below_alloc | apply pw_below_drewN | apply below_drew1 | refine below_set ?_ GE27001.out) | exact HB.out))) : w.heap.size ≤ gb27002)); have n5_ := Aside0.mk ((by rw [hg]; exact Nat.ne_of_lt (blk_lt (g := gb27001) (o := .cells #[.int .i64 a0_0, .int .i64 a0_1, .int .i64 a0_2, .slice A0_3 l0_3.length c0_3] 27 (0, 0)) (by (with_reducible repeat (first | refine blk_drewN ?_ _ | refine blk_drew ?_ | refine blk_alloc ?_ _)); exact BK27001.out)) : gb27001 ≠ gb27002)); have n6_ := Aside0.mk ((by rw [hg]; exact Nat.ne_of_gt (blk_lt (g := gb27001) (o := .cells #[.int .i64 a0_0, .int .i64 a0_1, .int .i64 a0_2, .slice A0_3 l0_3.length c0_3] 27 (0, 0)) (by (with_reducible repeat (first | refine blk_drewN ?_ _ | refine blk_drew ?_ | refine blk_alloc ?_ _)); exact BK27001.out)) : gb27002 ≠ gb27001)); clear BK27001; clear HB; have BK27001 := n0_; have HB := n1_; have BK27002 := n2_; have GW27002 := n3_; have GE27002 := n4_; have NB27001_27002 := n5_; have NB27002_27001 := n6_; clear n0_ n1_ n2_ n3_ n4_ n5_ n6_; clear hb hbox hg; have hnb19 := NB27001_27002.out; have hnc19 := NB27002_27001.out; have hcz20_0 : w18.cell? ⟨gb27001, 0, none⟩ = some (.int .i64 a0_0) := (blk_cell BK27001.out 0).trans rfl; have hcz20_1 : w18.cell? ⟨gb27001, 1, none⟩ = some (.int .i64 a0_1) := (blk_cell BK27001.out 1).trans rfl; have hcz20_2 : w18.cell? ⟨gb27001, 2, none⟩ = some (.int .i64 a0_2) := (blk_cell BK27001.out 2).trans rfl; have hcz20_3 : w18.cell? ⟨gb27001, 3, none⟩ = some (.slice A0_3 l0_3.length c0_3) := (blk_cell BK27001.out 3).trans rfl; have hfz20_0 := blk_frozen BK27001.out 0; have hfz20_1 := blk_frozen BK27001.out 1; have hfz20_2 := blk_frozen BK27001.out 2; have hfz20_3 := blk_frozen BK27001.out 3; have hcz21_0 : w18.cell? ⟨gb27002, 0, none⟩ = some (.int .i64 a1_0) := (blk_cell BK27002.out 0).trans rfl; have hcz21_1 : w18.cell? ⟨gb27002, 1, none⟩ = some (.int .i64 a1_1) := (blk_cell BK27002.out 1).trans rfl; have hcz21_2 : w18.cell? ⟨gb27002, 2, none⟩ = some (.int .i64 a1_2) := (blk_cell BK27002.out 2).trans rfl; have hcz21_3 : w18.cell? ⟨gb27002, 3, none⟩ = some (.slice A1_3 l1_3.length c1_3) := (blk_cell BK27002.out 3).trans rfl; have hfz21_0 := blk_frozen BK27002.out 0; have hfz21_1 := blk_frozen BK27002.out 1; have hfz21_2 := blk_frozen BK27002.out 2; have hfz21_3 := blk_frozen BK27002.out 3))
      go_ret
      exact ⟨by first | rfl | (simp [errW_none, errW_some] <;> rfl) | (simp [*, errW_none, errW_some] <;> rfl), by repeat (first | (with_reducible first | exact HB.out | apply below_alloc | apply pw_below_drewN | apply below_drew1 | refine below_set ?_ GE27001.out | refine below_set ?_ GE27002.out) | exact HB.out)⟩
  · rw [if_neg c3] at H
    have c3b0 : (a0_0 == a1_0) = false := beq_eq_false_iff_ne.mpr c3
    have c3b1 : (a0_0 != a1_0) = true := bne_iff_ne.mpr c3
    obtain rfl := Option.some.inj H
    go_enter Try.func26, Try.ntmps26
    go_wp2_with (first | ((with_reducible refine gate_dst (N := 2) rfl ?_); refine box_event ?hg (N := 2) ?hd (cs := #[.int .i64 a0_0, .int .i64 a0_1, .int .i64 a0_2, .slice A0_3 l0_3.length c0_3]) (t := 27) ?hr ?_; (case hd => rfl); (case hg => rfl); (case hr => first | (go_simp; done) | (go_simp; rfl)); intro gb27001 hg w22 hbox hb; have n0_ := Aside0.mk (below_step (by repeat (first | (with_reducible first | exact HB.out | apply below_alloc | apply pw_below_drewN | apply below_drew1) | exact HB.out)) hb); have n1_ := Aside0.mk (hbox); have n2_ := Aside0.mk ((by rw [hg]; exact (below_size (by repeat (first | (with_reducible first | exact HB.out | apply below_alloc | apply pw_below_drewN | apply below_drew1) | exact HB.out))) : w.heap.size ≤ gb27001)); have n3_ := Aside0.mk ((by rw [hg]; exact (below_size (by repeat (first | (with_reducible first | exact HB.out | apply below_alloc | apply pw_below_drewN | apply below_drew1) | exact HB.out))) : w.heap.size ≤ gb27001)); clear HB; have HB := n0_; have BK27001 := n1_; have GW27001 := n2_; have GE27001 := n3_; clear n0_ n1_ n2_ n3_; clear hb hbox hg) | ((with_reducible refine gate_dst (N := 3) rfl ?_); refine box_event ?hg (N := 3) ?hd (cs := #[.int .i64 a1_0, .int .i64 a1_1, .int .i64 a1_2, .slice A1_3 l1_3.length c1_3]) (t := 27) ?hr ?_; (case hd => rfl); (case hg => rfl); (case hr => first | (go_simp; done) | (go_simp; rfl)); intro gb27002 hg w23 hbox hb; have n0_ := Aside0.mk (blk_below (g := gb27001) (o := .cells #[.int .i64 a0_0, .int .i64 a0_1, .int .i64 a0_2, .slice A0_3 l0_3.length c0_3] 27 (0, 0)) (by (with_reducible repeat (first | refine blk_drewN ?_ _ | refine blk_drew ?_ | refine blk_alloc ?_ _)); exact BK27001.out) hb); have n1_ := Aside0.mk (below_step (by repeat (first | (with_reducible first | exact HB.out | apply below_alloc | apply pw_below_drewN | apply below_drew1 | refine below_set ?_ GE27001.out) | exact HB.out)) hb); have n2_ := Aside0.mk (hbox); have n3_ := Aside0.mk ((by rw [hg]; exact (below_size (by repeat (first | (with_reducible first | exact HB.out | apply below_alloc | apply pw_below_drewN | apply below_drew1 | refine below_set ?_ GE27001.out) | exact HB.out))) : w.heap.size ≤ gb27002)); have n4_ := Aside0.mk ((by rw [hg]; exact (below_size (by repeat (first | (with_reducible first | exact HB.out | apply below_alloc | apply pw_below_drewN | apply below_drew1 | refine below_set ?_ GE27001.out) | exact HB.out))) : w.heap.size ≤ gb27002)); have n5_ := Aside0.mk ((by rw [hg]; exact Nat.ne_of_lt (blk_lt (g := gb27001) (o := .cells #[.int .i64 a0_0, .int .i64 a0_1, .int .i64 a0_2, .slice A0_3 l0_3.length c0_3] 27 (0, 0)) (by (with_reducible repeat (first | refine blk_drewN ?_ _ | refine blk_drew ?_ | refine blk_alloc ?_ _)); exact BK27001.out)) : gb27001 ≠ gb27002)); have n6_ := Aside0.mk ((by rw [hg]; exact Nat.ne_of_gt (blk_lt (g := gb27001) (o := .cells #[.int .i64 a0_0, .int .i64 a0_1, .int .i64 a0_2, .slice A0_3 l0_3.length c0_3] 27 (0, 0)) (by (with_reducible repeat (first | refine blk_drewN ?_ _ | refine blk_drew ?_ | refine blk_alloc ?_ _)); exact BK27001.out)) : gb27002 ≠ gb27001)); clear BK27001; clear HB; have BK27001 := n0_; have HB := n1_; have BK27002 := n2_; have GW27002 := n3_; have GE27002 := n4_; have NB27001_27002 := n5_; have NB27002_27001 := n6_; clear n0_ n1_ n2_ n3_ n4_ n5_ n6_; clear hb hbox hg; have hnb24 := NB27001_27002.out; have hnc24 := NB27002_27001.out; have hcz25_0 : w23.cell? ⟨gb27001, 0, none⟩ = some (.int .i64 a0_0) := (blk_cell BK27001.out 0).trans rfl; have hcz25_1 : w23.cell? ⟨gb27001, 1, none⟩ = some (.int .i64 a0_1) := (blk_cell BK27001.out 1).trans rfl; have hcz25_2 : w23.cell? ⟨gb27001, 2, none⟩ = some (.int .i64 a0_2) := (blk_cell BK27001.out 2).trans rfl; have hcz25_3 : w23.cell? ⟨gb27001, 3, none⟩ = some (.slice A0_3 l0_3.length c0_3) := (blk_cell BK27001.out 3).trans rfl; have hfz25_0 := blk_frozen BK27001.out 0; have hfz25_1 := blk_frozen BK27001.out 1; have hfz25_2 := blk_frozen BK27001.out 2; have hfz25_3 := blk_frozen BK27001.out 3; have hcz26_0 : w23.cell? ⟨gb27002, 0, none⟩ = some (.int .i64 a1_0) := (blk_cell BK27002.out 0).trans rfl; have hcz26_1 : w23.cell? ⟨gb27002, 1, none⟩ = some (.int .i64 a1_1) := (blk_cell BK27002.out 1).trans rfl; have hcz26_2 : w23.cell? ⟨gb27002, 2, none⟩ = some (.int .i64 a1_2) := (blk_cell BK27002.out 2).trans rfl; have hcz26_3 : w23.cell? ⟨gb27002, 3, none⟩ = some (.slice A1_3 l1_3.length c1_3) := (blk_cell BK27002.out 3).trans rfl; have hfz26_0 := blk_frozen BK27002.out 0; have hfz26_1 := blk_frozen BK27002.out 1; have hfz26_2 := blk_frozen BK27002.out 2; have hfz26_3 := blk_frozen BK27002.out 3))
    go_ret
    exact ⟨by first | rfl | (simp [errW_none, errW_some] <;> rfl) | (simp [*, errW_none, errW_some] <;> rfl), by repeat (first | (with_reducible first | exact HB.out | apply below_alloc | apply pw_below_drewN | apply below_drew1 | refine below_set ?_ GE27001.out | refine below_set ?_ GE27002.out) | exact HB.out)⟩


def impl_copyImage.f (a0_0 : Int) (a0_1 : Int) (a0_2 : Int) (l0_3 : List Int) : Option (Int × Int × Int × List Int) := (some (([] : List Int) : List Int)).bind fun y134003 => (if y134003.length + l0_3.length < 17592186044416 then (some (a0_0, a0_1, a0_2, (y134003 ++ l0_3))) else (none))
set_option maxHeartbeats 8000000 in
set_option maxRecDepth 100000 in
theorem impl_copyImage.calls (a0_0 : Int) (a0_1 : Int) (a0_2 : Int) (A0_3 : Option Addr) (c0_3 : Nat) (l0_3 : List Int) (r1 : Int) (r2 : Int) (r3 : Int) (r4 : List Int) (w : World) (hr0_3 : Kd.C (Kd.int .i64) w A0_3 l0_3.length l0_3) (hc0_3 : l0_3.length ≤ c0_3) (h : impl_copyImage.f a0_0 a0_1 a0_2 l0_3 = some (r1, r2, r3, r4)) :
    Calls Try.prog 133 #[.agg #[.int .i64 a0_0, .int .i64 a0_1, .int .i64 a0_2, .slice A0_3 l0_3.length c0_3]] w fun e w' => ∃ v3_ : Value, e = .returned (.agg #[.int .i64 r1, .int .i64 r2, .int .i64 r3, v3_]) ∧ Kd.R (Kd.int .i64) 3 w' w.heap.size (fun _ => True) v3_ r4 ∧ Below w.heap.size w w' := by
  have hu27 := Try.underlying27
  have HR0_3 := Aside0.mk hr0_3
  have HC0_3 := Aside0.mk hc0_3
  clear hr0_3 hc0_3
  have HB := Aside0.mk (Below.refl w.heap.size w)
  have H : ((some (([] : List Int) : List Int)).bind fun y134003 => (if y134003.length + l0_3.length < 17592186044416 then (some (a0_0, a0_1, a0_2, (y134003 ++ l0_3))) else (none))) = some (r1, r2, r3, r4) := h
  clear h
  obtain ⟨y134003, hy134003⟩ : ∃ y_ : List Int, y_ = (([] : List Int)) := ⟨_, rfl⟩
  replace H : (if y134003.length + l0_3.length < 17592186044416 then (some (a0_0, a0_1, a0_2, (y134003 ++ l0_3))) else (none)) = some (r1, r2, r3, r4) := by first | (rw [hy134003]; with_reducible exact H) | (have H2_ := (Option.bind_some _ _).symm.trans H; rw [hy134003]; with_reducible exact H2_) | (have H2_ := (Option.bind_some _ _).symm.trans H; with_reducible exact H2_) | with_reducible exact H | (rw [hy134003]; exact H) | exact H
  have Ny134003 := Aside0.mk hy134003
  clear hy134003
  by_cases c2 : y134003.length + l0_3.length < 17592186044416
  · rw [if_pos c2] at H
    have LMc2 := Aside0.mk c2
    clear c2
    obtain ⟨y134006, hy134006⟩ : ∃ y_ : List Int, y_ = (y134003 ++ l0_3) := ⟨_, rfl⟩
    replace H : (some (a0_0, a0_1, a0_2, y134006)) = some (r1, r2, r3, r4) := by first | (rw [hy134006]; with_reducible exact H) | (have H2_ := (Option.bind_some _ _).symm.trans H; rw [hy134006]; with_reducible exact H2_) | (have H2_ := (Option.bind_some _ _).symm.trans H; with_reducible exact H2_) | with_reducible exact H | (rw [hy134006]; exact H) | exact H
    have Ny134006 := Aside0.mk hy134006
    clear hy134006
    simp only [Option.some.injEq, Prod.mk.injEq] at H
    obtain ⟨rfl, rfl, rfl, rfl⟩ := H
    go_enter Try.func133, Try.ntmps133
    go_wp2_with (first | ((with_reducible refine gate_dst (N := 1) rfl ?_); refine box_event ?hg (N := 1) ?hd (cs := #[.int .i64 a0_0, .int .i64 a0_1, .int .i64 a0_2, .slice A0_3 l0_3.length c0_3]) (t := 27) ?hr ?_; (case hd => rfl); (case hg => rfl); (case hr => first | (go_simp; done) | (go_simp; rfl)); intro gb134001 hg w3 hbox hb; have n0_ := Aside0.mk (below_step (by repeat (first | (with_reducible first | exact HB.out | apply below_alloc | apply pw_below_drewN | apply below_drew1) | exact HB.out)) hb); have n1_ := Aside0.mk (hbox); have n2_ := Aside0.mk ((by rw [hg]; exact (below_size (by repeat (first | (with_reducible first | exact HB.out | apply below_alloc | apply pw_below_drewN | apply below_drew1) | exact HB.out))) : w.heap.size ≤ gb134001)); have n3_ := Aside0.mk ((by rw [hg]; exact (below_size (by repeat (first | (with_reducible first | exact HB.out | apply below_alloc | apply pw_below_drewN | apply below_drew1) | exact HB.out))) : w.heap.size ≤ gb134001)); clear HB; have HB := n0_; have BK134001 := n1_; have GW134001 := n2_; have GE134001 := n3_; clear n0_ n1_ n2_ n3_; clear hb hbox hg) | ((with_reducible refine gate_dst (N := 2) rfl ?_); refine box_event ?hg (N := 2) ?hd (cs := #[.int .i64 0, .int .i64 0, .int .i64 0, .slice none 0 0]) (t := 27) ?hr ?_; (case hd => rfl); (case hg => rfl); (case hr => first | (go_simp; done) | (go_simp; rfl)); intro gb134002 hg w4 hbox hb; have n0_ := Aside0.mk (blk_below (g := gb134001) (o := .cells #[.int .i64 a0_0, .int .i64 a0_1, .int .i64 a0_2, .slice A0_3 l0_3.length c0_3] 27 (0, 0)) (by (with_reducible repeat (first | refine blk_drewN ?_ _ | refine blk_drew ?_ | refine blk_alloc ?_ _)); exact BK134001.out) hb); have n1_ := Aside0.mk (below_step (by repeat (first | (with_reducible first | exact HB.out | apply below_alloc | apply pw_below_drewN | apply below_drew1 | refine below_set ?_ GE134001.out) | exact HB.out)) hb); have n2_ := Aside0.mk (hbox); have n3_ := Aside0.mk ((by rw [hg]; exact (below_size (by repeat (first | (with_reducible first | exact HB.out | apply below_alloc | apply pw_below_drewN | apply below_drew1 | refine below_set ?_ GE134001.out) | exact HB.out))) : w.heap.size ≤ gb134002)); have n4_ := Aside0.mk ((by rw [hg]; exact (below_size (by repeat (first | (with_reducible first | exact HB.out | apply below_alloc | apply pw_below_drewN | apply below_drew1 | refine below_set ?_ GE134001.out) | exact HB.out))) : w.heap.size ≤ gb134002)); have n5_ := Aside0.mk ((by rw [hg]; exact Nat.ne_of_lt (blk_lt (g := gb134001) (o := .cells #[.int .i64 a0_0, .int .i64 a0_1, .int .i64 a0_2, .slice A0_3 l0_3.length c0_3] 27 (0, 0)) (by (with_reducible repeat (first | refine blk_drewN ?_ _ | refine blk_drew ?_ | refine blk_alloc ?_ _)); exact BK134001.out)) : gb134001 ≠ gb134002)); have n6_ := Aside0.mk ((by rw [hg]; exact Nat.ne_of_gt (blk_lt (g := gb134001) (o := .cells #[.int .i64 a0_0, .int .i64 a0_1, .int .i64 a0_2, .slice A0_3 l0_3.length c0_3] 27 (0, 0)) (by (with_reducible repeat (first | refine blk_drewN ?_ _ | refine blk_drew ?_ | refine blk_alloc ?_ _)); exact BK134001.out)) : gb134002 ≠ gb134001)); clear BK134001; clear HB; have BK134001 := n0_; have HB := n1_; have BK134002 := n2_; have GW134002 := n3_; have GE134002 := n4_; have NB134001_134002 := n5_; have NB134002_134001 := n6_; clear n0_ n1_ n2_ n3_ n4_ n5_ n6_; clear hb hbox hg) | ((with_reducible refine gate_dst (N := 3) rfl ?_); refine Kd.R_lit (Kd.int .i64) _ 3 ?hg (N := 3) ?hd (xs := ([] : List Int)) (inner := []) (ok := fun _ => True) (okp := fun _ => True) ?hr ?hp (fun _ hk => hk) trivial (Below.refl _ _) (Nat.le_refl _) (by simp) ?_; (case hd => rfl); (case hg => rfl); (case hr => first | (go_simp; done) | (go_simp; rfl)); (case hp => exact (Reps.none _ _)); intro v134004 w5 ho6 hb hg_ hnew_; clear hg_ hnew_; (first | rw [← Ny134003.out] at ho6 | (simp only [Int.reduceToNat] at ho6; rw [← Ny134003.out] at ho6)); have n0_ := Aside0.mk (Kd.R_lower ho6 (below_size (by repeat (first | (with_reducible first | exact HB.out | apply below_alloc | apply pw_below_drewN | apply below_drew1 | refine below_set ?_ GE134001.out | refine below_set ?_ GE134002.out) | exact HB.out)))); have n1_ := Aside0.mk (blk_below (g := gb134001) (o := .cells #[.int .i64 a0_0, .int .i64 a0_1, .int .i64 a0_2, .slice A0_3 l0_3.length c0_3] 27 (0, 0)) (by (with_reducible repeat (first | refine blk_drewN ?_ _ | refine blk_drew ?_ | refine blk_alloc ?_ _)); exact BK134001.out) hb); have n2_ := Aside0.mk (blk_below (g := gb134002) (o := .cells #[.int .i64 0, .int .i64 0, .int .i64 0, .slice none 0 0] 27 (0, 0)) (by (with_reducible repeat (first | refine blk_drewN ?_ _ | refine blk_drew ?_ | refine blk_alloc ?_ _)); exact BK134002.out) hb); have n3_ := Aside0.mk (below_step (by repeat (first | (with_reducible first | exact HB.out | apply below_alloc | apply pw_below_drewN | apply below_drew1 | refine below_set ?_ GE134001.out | refine below_set ?_ GE134002.out) | exact HB.out)) hb); clear BK134001; clear BK134002; clear HB; have HO134005 := n0_; have BK134001 := n1_; have BK134002 := n2_; have HB := n3_; clear n0_ n1_ n2_ n3_; clear hb ho6; have hnb7 := NB134001_134002.out; have hnc7 := NB134002_134001.out; have hcz8_0 : w5.cell? ⟨gb134001, 0, none⟩ = some (.int .i64 a0_0) := (blk_cell BK134001.out 0).trans rfl; have hcz8_1 : w5.cell? ⟨gb134001, 1, none⟩ = some (.int .i64 a0_1) := (blk_cell BK134001.out 1).trans rfl; have hcz8_2 : w5.cell? ⟨gb134001, 2, none⟩ = some (.int .i64 a0_2) := (blk_cell BK134001.out 2).trans rfl; have hcz8_3 : w5.cell? ⟨gb134001, 3, none⟩ = some (.slice A0_3 l0_3.length c0_3) := (blk_cell BK134001.out 3).trans rfl; have hfz8_0 := blk_frozen BK134001.out 0; have hfz8_1 := blk_frozen BK134001.out 1; have hfz8_2 := blk_frozen BK134001.out 2; have hfz8_3 := blk_frozen BK134001.out 3) | ((with_reducible refine gate_builtin (b := .append) (xs := #[.tmp 3, .tmp 5]) rfl ?_); at_builtin; refine Kd.R_append_rows (Kd.int .i64) (w0 := w) w.heap.size rfl (.tmp 3) (.tmp 5) 22 3 (.int .i64 0) 8 rfl Try.underlying22 info3 rfl (by decide) (by omega) v134004 y134003 l0_3 _ _ _ (fun _ => True) (fun _ => False) rfl rfl ?aO ?aR (fun _ _ h => h) (fun _ h => h.elim) ?aF ?aB ?aS ?aL ?_; (case aR => repeat (first | exact (Kd.C_below HR0_3.out HB.out) | (with_reducible refine Kd.C_alloc ?_ _) | (with_reducible refine Kd.C_drewN ?_ _) | (with_reducible refine Kd.C_drew ?_))); (case aB => exact (by repeat (first | (with_reducible first | exact HB.out | apply below_alloc | apply pw_below_drewN | apply below_drew1 | refine below_set ?_ GE134001.out | refine below_set ?_ GE134002.out) | exact HB.out))); (case aF => exact (fun _ _ => trivial)); (case aO => exact (by (with_reducible repeat (first | apply Kd.R_alloc | apply Kd.R_drewN | apply Kd.R_drew)); exact HO134005.out)); (case aS => exact (below_size (by repeat (first | (with_reducible first | exact HB.out | apply below_alloc | apply pw_below_drewN | apply below_drew1 | refine below_set ?_ GE134001.out | refine below_set ?_ GE134002.out) | exact HB.out)))); (case aL => have := LMc2.out; omega); intro v134007 w9 ho hb hg hat; rw [← Ny134006.out] at ho; have n0_ := Aside0.mk (blk_grown (g := gb134001) (o := .cells #[.int .i64 a0_0, .int .i64 a0_1, .int .i64 a0_2, .slice A0_3 l0_3.length c0_3] 27 (0, 0)) (by (with_reducible repeat (first | refine blk_drewN ?_ _ | refine blk_drew ?_ | refine blk_alloc ?_ _)); exact BK134001.out) hg (Kd.R_ne HO134005.out BK134001.out (by decide))); have n1_ := Aside0.mk (blk_grown (g := gb134002) (o := .cells #[.int .i64 0, .int .i64 0, .int .i64 0, .slice none 0 0] 27 (0, 0)) (by (with_reducible repeat (first | refine blk_drewN ?_ _ | refine blk_drew ?_ | refine blk_alloc ?_ _)); exact BK134002.out) hg (Kd.R_ne HO134005.out BK134002.out (by decide))); have n2_ := Aside0.mk (hb); have n3_ := Aside0.mk (ho); clear BK134001; clear BK134002; clear HB; clear HO134005; have BK134001 := n0_; have BK134002 := n1_; have HB := n2_; have HO134008 := n3_; clear n0_ n1_ n2_ n3_; clear ho hb hg hat; obtain ⟨Ao10, co10, eo10⟩ := Kd.R_slice HO134008.out; subst eo10; have hcz11_0 : w9.cell? ⟨gb134001, 0, none⟩ = some (.int .i64 a0_0) := (blk_cell BK134001.out 0).trans rfl; have hcz11_1 : w9.cell? ⟨gb134001, 1, none⟩ = some (.int .i64 a0_1) := (blk_cell BK134001.out 1).trans rfl; have hcz11_2 : w9.cell? ⟨gb134001, 2, none⟩ = some (.int .i64 a0_2) := (blk_cell BK134001.out 2).trans rfl; have hcz11_3 : w9.cell? ⟨gb134001, 3, none⟩ = some (.slice A0_3 l0_3.length c0_3) := (blk_cell BK134001.out 3).trans rfl; have hfz11_0 := blk_frozen BK134001.out 0; have hfz11_1 := blk_frozen BK134001.out 1; have hfz11_2 := blk_frozen BK134001.out 2; have hfz11_3 := blk_frozen BK134001.out 3; have hcz12_0 : w9.cell? ⟨gb134002, 0, none⟩ = some (.int .i64 0) := (blk_cell BK134002.out 0).trans rfl; have hcz12_1 : w9.cell? ⟨gb134002, 1, none⟩ = some (.int .i64 0) := (blk_cell BK134002.out 1).trans rfl; have hcz12_2 : w9.cell? ⟨gb134002, 2, none⟩ = some (.int .i64 0) := (blk_cell BK134002.out 2).trans rfl; have hcz12_3 : w9.cell? ⟨gb134002, 3, none⟩ = some (.slice none 0 0) := (blk_cell BK134002.out 3).trans rfl; have hfz12_0 := blk_frozen BK134002.out 0; have hfz12_1 := blk_frozen BK134002.out 1; have hfz12_2 := blk_frozen BK134002.out 2; have hfz12_3 := blk_frozen BK134002.out 3))
    refine bodyPost_ret (results_cell_row rfl _ _ gb134002 27 #[.int .i64 a0_0, .int .i64 a0_1, .int .i64 a0_2, .slice Ao10 y134006.length co10] (0, 0) _ rfl (by (with_reducible repeat (first | refine blk_drewN ?_ _ | refine blk_drew ?_ | refine blk_alloc ?_ _)); refine blk_put (cs := #[.int .i64 a0_0, .int .i64 a0_1, .int .i64 a0_2, .slice none 0 0]) ?_ 3 _ rfl; (with_reducible repeat (first | refine blk_drewN ?_ _ | refine blk_drew ?_ | refine blk_alloc ?_ _)); refine blk_put (cs := #[.int .i64 a0_0, .int .i64 a0_1, .int .i64 0, .slice none 0 0]) ?_ 2 _ rfl; (with_reducible repeat (first | refine blk_drewN ?_ _ | refine blk_drew ?_ | refine blk_alloc ?_ _)); refine blk_put (cs := #[.int .i64 a0_0, .int .i64 0, .int .i64 0, .slice none 0 0]) ?_ 1 _ rfl; (with_reducible repeat (first | refine blk_drewN ?_ _ | refine blk_drew ?_ | refine blk_alloc ?_ _)); refine blk_put (cs := #[.int .i64 0, .int .i64 0, .int .i64 0, .slice none 0 0]) ?_ 0 _ rfl; (with_reducible repeat (first | refine blk_drewN ?_ _ | refine blk_drew ?_ | refine blk_alloc ?_ _)); refine blk_far ?_ NB134002_134001.out _; (with_reducible repeat (first | refine blk_drewN ?_ _ | refine blk_drew ?_ | refine blk_alloc ?_ _)); exact BK134002.out) Try.underlying27 rfl (by kernel_rfl)) rfl ?_
    exact ⟨_, by first | rfl | (simp [errW_none, errW_some] <;> rfl) | (simp [*, errW_none, errW_some] <;> rfl), by (with_reducible repeat (first | apply Kd.R_alloc | apply Kd.R_drewN | apply Kd.R_drew)); exact Kd.R_mono (Kd.R_far (p := ⟨gb134002, 3, none⟩) (Kd.R_far (p := ⟨gb134002, 2, none⟩) (Kd.R_far (p := ⟨gb134002, 1, none⟩) (Kd.R_far (p := ⟨gb134002, 0, none⟩) (Kd.R_far (p := ⟨gb134001, 3, none⟩) (Kd.R_types (Kd.R_types HO134008.out BK134001.out (by decide)) BK134002.out (by decide)) (fun _ hk => hk.1.2) (.slice Ao10 y134006.length co10)) (fun _ hk => hk.2) (.int .i64 a0_0)) (fun _ hk => hk.2) (.int .i64 a0_1)) (fun _ hk => hk.2) (.int .i64 a0_2)) (fun _ hk => hk.2) (.slice Ao10 y134006.length co10)) (fun _ hk => trivial), by repeat (first | (with_reducible first | exact HB.out | apply below_alloc | apply pw_below_drewN | apply below_drew1 | refine below_set ?_ GE134001.out | refine below_set ?_ GE134002.out) | exact HB.out)⟩
  · rw [if_neg c2] at H
    exact absurd H (by simp)

end Go.Proofs.Ytnofkbbcbpjhfaa.Q

/- Plain words: numbers that do not wrap, elements of lists, rounds that are enough. -/
namespace Go.Proofs.Ytnofkbbcbpjhfaa.Pure
open Go.RowKit Go.Proofs.Ytnofkbbcbpjhfaa.Q Go.Proofs.YtnofkbbcbpjhfaaW.PrintWords Go.Proofs.YtnofkbbcbpjhfaaW.PrintLast Go.Proofs.YtnofkbbcbpjhfaaW.PrintMore
set_option linter.unusedVariables false
set_option linter.unusedSimpArgs false

theorem w64 {x : Int} (h1 : -9223372036854775808 ≤ x) (h2 : x ≤ 9223372036854775807) : wrap64 x = x := by unfold wrap64; omega
theorem w64n (n : Nat) (h : n < 9223372036854775807) : wrap64 ((n : Int) + 1) = ((n + 1 : Nat) : Int) := by unfold wrap64; omega
theorem rd_nat (l : List Int) (i : Nat) (h : i < l.length) : rd l (i : Int) = l[i] := by simp [rd, h]
theorem tdiv_nn (a b : Int) (h : 0 ≤ a) : Int.tdiv a b = a / b := Int.tdiv_eq_ediv_of_nonneg h
theorem tmod_nn (a b : Int) (h : 0 ≤ a) : Int.tmod a b = a % b := Int.tmod_eq_emod_of_nonneg h
/-- From K rounds on. -/
theorem ev_of {α : Type} {g : Nat → Option α} {r : α} (K : Nat) (h : ∀ k, K < k → g k = some r) : Ev g r := ⟨K + 1, fun k hk => h k (by omega)⟩
theorem ev_const {α : Type} {o : Option α} {r : α} (h : o = some r) : Ev (fun _ => o) r := ⟨0, fun _ _ => h⟩
theorem ev_bind {α β : Type} {g : Nat → Option α} {f : Nat → α → Option β} {a : α} {r : β} (h : Ev g a) (k : Ev (fun n => f n a) r) : Ev (fun n => (g n).bind (f n)) r := Ev.bind h k
theorem ev_now {α β : Type} {o : Option α} {f : Nat → α → Option β} {a : α} {r : β} (h : o = some a) (k : Ev (fun n => f n a) r) : Ev (fun n => o.bind (f n)) r := Ev.bind (ev_const h) k
theorem ev_pos {α : Type} {c : Prop} [Decidable c] {f g : Nat → Option α} {r : α} (h : c) (k : Ev f r) : Ev (fun n => if c then f n else g n) r := by
  simpa [h] using k
theorem ev_neg {α : Type} {c : Prop} [Decidable c] {f g : Nat → Option α} {r : α} (h : ¬ c) (k : Ev g r) : Ev (fun n => if c then f n else g n) r := by
  simpa [h] using k
/-- The same, from some number of rounds on: for loops in loops. -/
theorem ev_up {σ ρ : Type} (n : Nat) (L : Nat → Nat → σ → Option ρ) (Inv : Nat → σ → Prop) (F : Nat → σ → ρ)
    (step : ∀ i s, i < n → Inv i s → Ev (fun k => L k i s) (F i s) ∨ ∃ s', (∀ k, L (k + 1) i s = L k (i + 1) s') ∧ Inv (i + 1) s' ∧ F (i + 1) s' = F i s)
    (last : ∀ s, Inv n s → Ev (fun k => L k n s) (F n s)) :
    ∀ d i s, i + d = n → Inv i s → Ev (fun k => L k i s) (F i s) := by
  intro d
  induction d with
  | zero =>
    intro i s hi hinv
    have : i = n := by omega
    subst this
    exact last s hinv
  | succ d ih =>
    intro i s hi hinv
    rcases step i s (by omega) hinv with h | ⟨s', h, hi', hF⟩
    · exact h
    · rw [← hF]
      exact Ev.step h (ih (i + 1) s' (by omega) hi')
theorem take_set {α : Type} (s : List α) (i : Nat) (c : α) (h : i < s.length) : (s.set i c).take (i + 1) = s.take i ++ [c] := by
  rw [List.take_succ_eq_append_getElem (by simpa using h), List.take_set_of_le (Nat.le_refl i)]
  simp

/- Images: valid ones, as the program and the reference have it; copies of lists of numbers. -/

def byteI (n : Int) : Bool := decide (0 ≤ n) && decide (n ≤ 255)
def shapeI (w h p : Int) : Bool := decide (1 ≤ w ∧ w ≤ 16 ∧ 1 ≤ h ∧ h ≤ 16 ∧ 1 ≤ p ∧ p ≤ 4)
theorem shapeI_iff (w h p : Int) : shapeI w h p = true ↔ 1 ≤ w ∧ w ≤ 16 ∧ 1 ≤ h ∧ h ≤ 16 ∧ 1 ≤ p ∧ p ≤ 4 := by simp [shapeI]
def validI (w h p : Int) (d : List Int) : Bool := shapeI w h p && (decide ((d.length : Int) = w * h * p) && d.all byteI)
theorem validI_iff (w h p : Int) (d : List Int) : validI w h p d = true ↔ (1 ≤ w ∧ w ≤ 16 ∧ 1 ≤ h ∧ h ≤ 16 ∧ 1 ≤ p ∧ p ≤ 4) ∧ (d.length : Int) = w * h * p ∧ ∀ n ∈ d, 0 ≤ n ∧ n ≤ 255 := by
  simp [validI, shapeI_iff, byteI, and_assoc]
theorem shape_prod {w h p : Int} (hs : 1 ≤ w ∧ w ≤ 16 ∧ 1 ≤ h ∧ h ≤ 16 ∧ 1 ≤ p ∧ p ≤ 4) : 0 ≤ w * h ∧ w * h ≤ 256 ∧ 0 ≤ w * h * p ∧ w * h * p ≤ 1024 := by
  have h1 : 0 ≤ w * h := Int.mul_nonneg (by omega) (by omega)
  have h2 : w * h ≤ 16 * 16 := Int.mul_le_mul (by omega) (by omega) (by omega) (by omega)
  have h3 : 0 ≤ w * h * p := Int.mul_nonneg h1 (by omega)
  have h4 : w * h * p ≤ 256 * 4 := Int.mul_le_mul (by omega) (by omega) (by omega) (by omega)
  omega
theorem shape_wrap {w h p : Int} (hs : 1 ≤ w ∧ w ≤ 16 ∧ 1 ≤ h ∧ h ≤ 16 ∧ 1 ≤ p ∧ p ≤ 4) : wrap64 (wrap64 (w * h) * p) = w * h * p := by
  have := shape_prod hs
  rw [w64 (x := w * h) (by omega) (by omega), w64 (by omega) (by omega)]
theorem impl_isSide_eq (a : Int) : impl_isSide.f a = some (decide (1 ≤ a ∧ a ≤ 16)) := by
  unfold impl_isSide.f
  by_cases c : a ≥ 1
  · rw [if_pos c]; congr 1; rw [decide_eq_decide]; omega
  · rw [if_neg c, decide_eq_false (by omega)]
theorem impl_isShape_eq (w h p : Int) : impl_isShape.f w h p = some (shapeI w h p) := by
  unfold impl_isShape.f shapeI
  rw [impl_isSide_eq, impl_isSide_eq]
  simp only [Option.bind_some]
  by_cases c1 : 1 ≤ w ∧ w ≤ 16
  · rw [if_pos (by simpa using c1)]
    by_cases c2 : 1 ≤ h ∧ h ≤ 16
    · rw [if_pos (by simpa using c2)]
      by_cases c3 : p ≥ 1
      · rw [if_pos c3]; congr 1; rw [decide_eq_decide]; omega
      · rw [if_neg c3, decide_eq_false (by omega)]
    · rw [if_neg (by simpa using c2), decide_eq_false (by omega)]
  · rw [if_neg (by simpa using c1), decide_eq_false (by omega)]
theorem areBytesI_eq (l : List Int) : impl_areBytes.f l = some (l.all byteI) := by
  unfold impl_areBytes.f
  congr 1
  rw [List.not_any_eq_all_not]
  congr 1
  funext n
  unfold notByte byteI
  rw [Bool.eq_iff_iff]
  simp
theorem impl_isImage_eq (w h p : Int) (d : List Int) : impl_isImage.f w h p d = some (validI w h p d) := by
  unfold impl_isImage.f validI
  rw [impl_isShape_eq, areBytesI_eq]
  simp only [Option.bind_some]
  by_cases c : shapeI w h p = true
  · rw [if_pos c, shape_wrap ((shapeI_iff w h p).1 c), c]
    by_cases e : (d.length : Int) = w * h * p
    · rw [if_pos e, decide_eq_true e]; rfl
    · rw [if_neg e, decide_eq_false e]; rfl
  · rw [if_neg c, Bool.eq_false_iff.2 c]; rfl
theorem spec_inRangeI_eq (n a b : Int) : spec_inRange.f n a b = some (decide (a ≤ n) && decide (n ≤ b)) := by
  unfold spec_inRange.f
  by_cases c : a ≤ n
  · rw [if_pos c, decide_eq_true c, Bool.true_and]
  · rw [if_neg c, decide_eq_false c, Bool.false_and]
theorem spec_validShape_eq (w h p : Int) : spec_validShape.f w h p = some (shapeI w h p) := by
  unfold spec_validShape.f shapeI
  rw [spec_inRangeI_eq, spec_inRangeI_eq, spec_inRangeI_eq]
  simp only [Option.bind_some]
  by_cases c1 : 1 ≤ w ∧ w ≤ 16
  · rw [if_pos (by simpa using c1)]
    by_cases c2 : 1 ≤ h ∧ h ≤ 16
    · rw [if_pos (by simpa using c2)]; congr 1; rw [Bool.eq_iff_iff]; simp; omega
    · rw [if_neg (by simpa using c2), decide_eq_false (by omega)]
  · rw [if_neg (by simpa using c1), decide_eq_false (by omega)]
theorem spec_allInI_ev (l : List Int) (hl : l.length ≤ 1000000000000) : Ev (fun k => spec_allIn.f k l 0 255) (l.all byteI) := by
  have key := ev_up l.length (fun k i (_ : Unit) => spec_allIn.l0 k l 0 255 (i : Int)) (fun _ _ => True) (fun i _ => (l.drop i).all byteI)
    (by
      intro i s hi _
      have hd : (l.drop i).all byteI = (byteI l[i] && (l.drop (i + 1)).all byteI) := by rw [List.drop_eq_getElem_cons hi, List.all_cons]
      cases hb : byteI l[i] with
      | true =>
        right
        refine ⟨(), fun k => ?_, trivial, by rw [hd, hb, Bool.true_and]⟩
        simp only [spec_allIn.l0]
        rw [if_pos (by omega), if_pos (by omega), rd_nat l i hi, spec_inRangeI_eq]
        simp only [Option.bind_some]
        rw [if_pos (show (decide (0 ≤ l[i]) && decide (l[i] ≤ 255)) = true from hb), w64n i (by omega)]
      | false =>
        left
        rw [hd, hb, Bool.false_and]
        refine Ev.step (f := fun _ => some false) (fun k => ?_) (Ev.now false)
        simp only [spec_allIn.l0]
        rw [if_pos (by omega), if_pos (by omega), rd_nat l i hi, spec_inRangeI_eq]
        simp only [Option.bind_some]
        rw [if_neg (Bool.eq_false_iff.1 (show (decide (0 ≤ l[i]) && decide (l[i] ≤ 255)) = false from hb))])
    (by
      intro s _
      rw [List.drop_length]
      refine Ev.step (f := fun _ => some true) (fun k => ?_) (Ev.now true)
      simp only [spec_allIn.l0]
      rw [if_neg (by omega)])
    l.length 0 () (by omega) trivial
  unfold spec_allIn.f
  simpa using key
theorem spec_validImage_ev (w h p : Int) (d : List Int) (hl : d.length ≤ 1000000000000) : Ev (fun k => spec_validImage.f k w h p d) (validI w h p d) := by
  unfold spec_validImage.f validI
  refine ev_now (spec_validShape_eq w h p) ?_
  by_cases c : shapeI w h p = true
  · refine ev_pos c ?_
    rw [shape_wrap ((shapeI_iff w h p).1 c), c, Bool.true_and]
    by_cases e : (d.length : Int) = w * h * p
    · refine ev_pos e ?_
      rw [decide_eq_true e, Bool.true_and]
      exact ev_bind (spec_allInI_ev d hl) (Ev.now _)
    · refine ev_neg e ?_
      rw [decide_eq_false e]
      exact Ev.now _
  · refine ev_neg c ?_
    rw [Bool.eq_false_iff.2 c]
    exact Ev.now _
end Go.Proofs.Ytnofkbbcbpjhfaa.Pure
