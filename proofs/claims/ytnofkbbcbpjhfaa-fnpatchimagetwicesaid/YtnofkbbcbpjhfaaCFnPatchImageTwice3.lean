/- A part of the proof that the statement FnPatchImageTwiceSaid holds, under no condition of its own: A patch laid twice: the law FnPatchImageTwice over lists of numbers alone. -/
import Derived.Test.YtnofkbbcbpjhfaaCFnPatchImageTwice1
import Derived.Test.YtnofkbbcbpjhfaaCFnPatchImageTwice2
import Derived.Deep.WholeRow
import Derived.Deep.RegionWith
namespace Go.Proofs.Ytnofkbbcbpjhfaa.Q
open Go.RowKit Go.Proofs.YtnofkbbcbpjhfaaW.PrintWords Go.Proofs.YtnofkbbcbpjhfaaW.PrintLast Go.Proofs.YtnofkbbcbpjhfaaW.PrintMore
attribute [local go_sem] max2_int min2_int max_two min_two max_three min_three max_four min_four
set_option linter.unusedVariables false
set_option linter.unusedSimpArgs false
open Go.Proofs.YtnofkbbcbpjhfaaW.PrintWords.Aside0 (mk)
set_option maxHeartbeats 12000000
set_option maxRecDepth 100000
mutual
def spec_twoImages.l0 : Nat → Int → List Int → Int → Int → Int → Int → List Int → Int → Int → Int → List Int → Option (Int × Int × Int × List Int × Int × Int × Int × List Int × Int)
 | 0, _, _, _, _, _, _, _, _, _, _, _ => none
 | k + 1, x6, x1000, x1001, xz3, xz4, xz5, xz6, xz7, xz8, xz9, xz2 => if x6 > 0 then (spec_twoImages.j1 k x6 (decide ((xz2.length : Int) > 0)) x1000 x1001 xz3 xz4 xz5 xz6 xz7 xz8 xz9 xz2) else (spec_twoImages.j1 k x6 false x1000 x1001 xz3 xz4 xz5 xz6 xz7 xz8 xz9 xz2)
def spec_twoImages.j1 : Nat → Int → Bool → List Int → Int → Int → Int → Int → List Int → Int → Int → Int → List Int → Option (Int × Int × Int × List Int × Int × Int × Int × List Int × Int)
 | 0, _, _, _, _, _, _, _, _, _, _, _, _ => none
 | k + 1, x6, x28, x1000, x1001, xz3, xz4, xz5, xz6, xz7, xz8, xz9, xz2 => if x28 = true then ((spec_reader_pick.f k x1000 x1001 (xz2.length : Int)).bind fun btz3 => ((spec_reader_pick.f k x1000 btz3.2 256).bind fun btz4 => (if 0 ≤ btz3.1 then (if btz3.1 < (xz2.length : Int) then (spec_twoImages.l0 k (wrap64 (x6 - 1)) x1000 btz4.2 xz3 xz4 xz5 xz6 xz7 xz8 xz9 (xz2.set (btz3.1 : Int).toNat btz4.1)) else none) else none))) else ((spec_reader_pick.f k x1000 x1001 16).bind fun btz5 => (if btz5.1 = 0 then ((spec_anyImage.f k x1000 btz5.2).bind fun btz1 => (some (xz3, xz4, xz5, xz6, btz1.1, btz1.2.1, btz1.2.2.1, btz1.2.2.2.1, btz1.2.2.2.2))) else (some (xz3, xz4, xz5, xz6, xz7, xz8, xz9, xz2, btz5.2))))
end
def spec_twoImages.f (k : Nat) (s0_0 : List Int) (s0_1 : Int) : Option (Int × Int × Int × List Int × Int × Int × Int × List Int × Int) := (spec_anyImage.f k s0_0 s0_1).bind fun btz0 => ((spec_copyInts.f btz0.2.2.2.1).bind fun tz8 => ((spec_reader_pick.f k s0_0 btz0.2.2.2.2 6).bind fun btz2 => (spec_twoImages.l0 k btz2.1 s0_0 btz2.2 btz0.1 btz0.2.1 btz0.2.2.1 btz0.2.2.2.1 btz0.1 btz0.2.1 btz0.2.2.1 tz8)))
def spec_twoImages.T2 : Bool × List (List Nat × List Nat) := (true, [([], []), ([0], [0]), ([], []), ([2], [2]), ([], []), ([4], [4]), ([], []), ([6], [6]), ([7], [7]), ([1, 3, 5, 8], [1, 3, 5, 8]), ([], []), ([10, 9, 8, 0, 1, 2, 3, 4, 5, 6, 7, 8, 9, 10], [9, 10])])
def spec_twoImages.B2 : List Nat := [0, 1, 0, 4, 0, 16, 0, 64, 192, 511, 0, 2047]
theorem spec_twoImages.tab2 : rtab .any (opsOf Try.f85 2) = spec_twoImages.T2 := by kernel_rfl
theorem spec_twoImages.bits2 : waitsOk spec_twoImages.T2.2 spec_twoImages.B2 = true := by kernel_rfl
def spec_twoImages.T6 : Bool × List (List Nat × List Nat) := (true, [([], []), ([0], [0]), ([], []), ([], []), ([3], [3]), ([4], [4]), ([2, 5], [2, 5]), ([], []), ([7, 6], [7]), ([1, 6, 0, 1, 2, 3, 4, 5, 6, 7, 8], [1, 6]), ([9, 8, 8, 0, 1, 2, 3, 4, 5, 6, 7, 8], [8, 9])])
def spec_twoImages.B6 : List Nat := [0, 1, 0, 0, 8, 24, 60, 0, 252, 511, 1023]
theorem spec_twoImages.tab6 : rtab .any (opsOf Try.f85 6) = spec_twoImages.T6 := by kernel_rfl
theorem spec_twoImages.bits6 : waitsOk spec_twoImages.T6.2 spec_twoImages.B6 = true := by kernel_rfl
theorem spec_twoImages.calls (k : Nat) (g : Nat) (s0_0 : List Int) (s0_1 : Int) (r1 : Int) (r2 : Int) (r3 : Int) (r4 : List Int) (r5 : Int) (r6 : Int) (r7 : Int) (r8 : List Int) (r9 : Int) (w0 w : World) (hI : IsS144 w0 w g s0_0 s0_1) (hB : Below w0.heap.size w0 w) (h : spec_twoImages.f k s0_0 s0_1 = some (r1, r2, r3, r4, r5, r6, r7, r8, r9)) :
  Calls Try.prog 85 #[.pointer (some ⟨g, 0, none⟩)] w fun e w' => ∃ v3_ v7_ : Value, e = .returned (.tuple #[.agg #[.int .i64 r1, .int .i64 r2, .int .i64 r3, v3_], .agg #[.int .i64 r5, .int .i64 r6, .int .i64 r7, v7_]]) ∧ Kd.Q (Kd.int .i64) 3 w' w.heap.size (fun k_ => some k_ ≠ (v7_ : Value).ownBlock) v3_ r4 ∧ Kd.Q (Kd.int .i64) 3 w' w.heap.size (fun k_ => some k_ ≠ (v3_ : Value).ownBlock) v7_ r8 ∧ IsS144 w0 w' g s0_0 r9 ∧ Below w0.heap.size w0 w' ∧ KeepBut w w' g none := by
 have hu27 := Try.underlying27
 have HI0 := mk hI
 have HK := mk (KeepBut.refl w g none)
 have HL := mk hB.size
 clear hI
 have HW0 := mk hB.size
 have HB := mk hB
 clear hB
 have H : ((spec_anyImage.f k s0_0 s0_1).bind fun btz0 => ((spec_copyInts.f btz0.2.2.2.1).bind fun tz8 => ((spec_reader_pick.f k s0_0 btz0.2.2.2.2 6).bind fun btz2 => (spec_twoImages.l0 k btz2.1 s0_0 btz2.2 btz0.1 btz0.2.1 btz0.2.2.1 btz0.2.2.2.1 btz0.1 btz0.2.1 btz0.2.2.1 tz8)))) = some (r1, r2, r3, r4, r5, r6, r7, r8, r9) := h
 clear h
 replace H := Option.bind_eq_some_iff.mp H
 obtain ⟨⟨tz0, tz1, tz2, tz3, tz10⟩, A20, H⟩ := H
 replace H : ((spec_copyInts.f tz3).bind fun tz8 => ((spec_reader_pick.f k s0_0 tz10 6).bind fun btz2 => (spec_twoImages.l0 k btz2.1 s0_0 btz2.2 tz0 tz1 tz2 tz3 tz0 tz1 tz2 tz8))) = some (r1, r2, r3, r4, r5, r6, r7, r8, r9) := H
 have A2 := mk A20
 clear A20
 replace H := Option.bind_eq_some_iff.mp H
 obtain ⟨tz8, A30, H⟩ := H
 replace H : ((spec_reader_pick.f k s0_0 tz10 6).bind fun btz2 => (spec_twoImages.l0 k btz2.1 s0_0 btz2.2 tz0 tz1 tz2 tz3 tz0 tz1 tz2 tz8)) = some (r1, r2, r3, r4, r5, r6, r7, r8, r9) := H
 have A3 := mk A30
 clear A30
 replace H := Option.bind_eq_some_iff.mp H
 obtain ⟨⟨tz16, tz17⟩, A40, H⟩ := H
 replace H : (spec_twoImages.l0 k tz16 s0_0 tz17 tz0 tz1 tz2 tz3 tz0 tz1 tz2 tz8) = some (r1, r2, r3, r4, r5, r6, r7, r8, r9) := H
 have A4 := mk A40
 clear A40
 have H' := mk H
 clear H
 go_enter Try.func85, Try.ntmps85
 try go_wp2_with (first | ((with_reducible refine gate_dst (N := 2) rfl ?_); (try (refine gate_guard (by rfl) ?_; dsimp only)); refine box_event (by rfl) (N := 2) (by rfl) (cs := #[.int .i64 0, .int .i64 0, .int .i64 0, .slice none 0 0]) (t := 27) (by go_simp; done) ?_; intro gbz1 hg w5 hbox hb; replace HB := mk (below_step HB.out hb); have BKz1 := mk (hbox); have GWz1 := mk ((by rw [hg]; exact (keep_size (w := w) (g := g) (row := none) HK.out) : w.heap.size ≤ gbz1)); have GEz1 := mk ((Nat.le_trans HW0.out (by rw [hg]; exact (keep_size (w := w) (g := g) (row := none) HK.out) : w.heap.size ≤ gbz1) : w0.heap.size ≤ gbz1)); replace HK := mk (KeepBut.trans HK.out (KeepBut.of_below hb g none) (.inl rfl)); have NBz17 := mk ((by rw [hg]; exact Nat.ne_of_lt (IsS144.lt (show IsS144 w0 _ g s0_0 s0_1 from by exact HI0.out)) : g ≠ gbz1)); have NBz14 := mk ((by rw [hg]; exact Nat.ne_of_gt (IsS144.lt (show IsS144 w0 _ g s0_0 s0_1 from by exact HI0.out)) : gbz1 ≠ g)); replace HI0 := mk (IsS144.below HI0.out hb); clear hb hbox hg) | ((with_reducible refine gate_dst (N := 3) rfl ?_); (try (refine gate_guard (by rfl) ?_; dsimp only)); refine box_event (by rfl) (N := 3) (by rfl) (cs := #[.int .i64 0, .int .i64 0, .int .i64 0, .slice none 0 0]) (t := 27) (by go_simp; done) ?_; intro gbz2 hg w6 hbox hb; replace HB := mk (below_step HB.out hb); have BKz2 := mk (hbox); have GWz2 := mk ((by rw [hg]; exact (keep_size (w := w) (g := g) (row := none) HK.out) : w.heap.size ≤ gbz2)); have GEz2 := mk ((Nat.le_trans HW0.out (by rw [hg]; exact (keep_size (w := w) (g := g) (row := none) HK.out) : w.heap.size ≤ gbz2) : w0.heap.size ≤ gbz2)); replace HK := mk (KeepBut.trans HK.out (KeepBut.of_below hb g none) (.inl rfl)); have NBz5 := mk ((by rw [hg]; exact Nat.ne_of_lt (blk_lt BKz1.out) : gbz1 ≠ gbz2)); have NBz6 := mk ((by rw [hg]; exact Nat.ne_of_gt (blk_lt BKz1.out) : gbz2 ≠ gbz1)); replace BKz1 := mk (blk_below BKz1.out hb); have NBz18 := mk ((by rw [hg]; exact Nat.ne_of_lt (IsS144.lt (show IsS144 w0 _ g s0_0 s0_1 from by exact HI0.out)) : g ≠ gbz2)); have NBz15 := mk ((by rw [hg]; exact Nat.ne_of_gt (IsS144.lt (show IsS144 w0 _ g s0_0 s0_1 from by exact HI0.out)) : gbz2 ≠ g)); replace HI0 := mk (IsS144.below HI0.out hb); clear hb hbox hg) | ((with_reducible refine gate_callee (f := 94) rfl ?_); refine goesL_ (some 8) rfl rfl Try.func94 (by kernel_rfl) rfl #[.pointer (some ⟨g, 0, none⟩)] rfl (by (try simp only [bitvec_to_nat]); rfl) ?_; (with_reducible refine (spec_anyImage.calls k g s0_0 s0_1 tz0 tz1 tz2 tz3 tz10 w0 _ ?side1 ?side2 A2.out).mono ?_); (case side1 => repeat (with_reducible exact HI0.out)); (case side2 => repeat (with_reducible exact HB.out)); rintro e w7 ⟨vz1, rfl, ho0, hi, hb, hk⟩; refine ⟨_, rfl, ?_⟩; replace BKz1 := mk (KeepBut.blk hk (g' := gbz1) (o := .cells #[.int .i64 0, .int .i64 0, .int .i64 0, .slice none 0 0] 27 (0, 0)) BKz1.out NBz14.out (by simp)); replace BKz2 := mk (KeepBut.blk hk (g' := gbz2) (o := .cells #[.int .i64 0, .int .i64 0, .int .i64 0, .slice none 0 0] 27 (0, 0)) BKz2.out NBz15.out (by simp)); have HOz2 := mk (Kd.Q_lower ho0 (keep_size (w := w) (g := g) (row := none) HK.out)); replace HK := mk (KeepBut.trans HK.out hk (.inl rfl)); replace HB := mk (hb); replace HI0 := mk (hi); (try clear hb); (try clear hk); (try clear hi); (try clear ho0)) | ((with_reducible refine gate_dst (N := 4) rfl ?_); (try (refine gate_guard (by rfl) ?_; dsimp only)); refine box_event (by rfl) (N := 4) (by rfl) (cs := #[.int .i64 0, .int .i64 0, .int .i64 0, .slice none 0 0]) (t := 27) (by go_simp; done) ?_; intro gbz3 hg w8 hbox hb; replace HOz2 := mk (Kd.Q_below HOz2.out hb); replace HB := mk (below_step HB.out hb); have BKz0 := mk (hbox); have GWz3 := mk ((by rw [hg]; exact (keep_size (w := w) (g := g) (row := none) HK.out) : w.heap.size ≤ gbz3)); have GEz3 := mk ((Nat.le_trans HW0.out (by rw [hg]; exact (keep_size (w := w) (g := g) (row := none) HK.out) : w.heap.size ≤ gbz3) : w0.heap.size ≤ gbz3)); replace HK := mk (KeepBut.trans HK.out (KeepBut.of_below hb g none) (.inl rfl)); have NBz9 := mk ((by rw [hg]; exact Nat.ne_of_lt (blk_lt BKz1.out) : gbz1 ≠ gbz3)); have NBz2 := mk ((by rw [hg]; exact Nat.ne_of_gt (blk_lt BKz1.out) : gbz3 ≠ gbz1)); replace BKz1 := mk (blk_below BKz1.out hb); have NBz10 := mk ((by rw [hg]; exact Nat.ne_of_lt (blk_lt BKz2.out) : gbz2 ≠ gbz3)); have NBz3 := mk ((by rw [hg]; exact Nat.ne_of_gt (blk_lt BKz2.out) : gbz3 ≠ gbz2)); replace BKz2 := mk (blk_below BKz2.out hb); have NBz19 := mk ((by rw [hg]; exact Nat.ne_of_lt (IsS144.lt (show IsS144 w0 _ g s0_0 tz10 from by exact HI0.out)) : g ≠ gbz3)); have NBz16 := mk ((by rw [hg]; exact Nat.ne_of_gt (IsS144.lt (show IsS144 w0 _ g s0_0 tz10 from by exact HI0.out)) : gbz3 ≠ g)); replace HI0 := mk (IsS144.below HI0.out hb); clear hb hbox hg; obtain ⟨hcz12_0, hcz12_1, hcz12_2, hcz12_3, hfz12_0, hfz12_1, hfz12_2, hfz12_3⟩ := c4 BKz0.out; obtain ⟨Ao13, co13, eo13, _⟩ := Kd.Q_slice HOz2.out; subst eo13))
 have n0_ : Aside0 (Kd.Q (Kd.int .i64) 3 ((((w8.setCell ⟨gbz3, 0, none⟩ (.int .i64 tz0)).setCell ⟨gbz3, 1, none⟩ (.int .i64 tz1)).setCell ⟨gbz3, 2, none⟩ (.int .i64 tz2)).setCell ⟨gbz3, 3, none⟩ (.slice Ao13 tz3.length co13)) w.heap.size (fun _ => True) (.slice Ao13 tz3.length co13) tz3) := ⟨by exact Kd.Q_mono (Kd.Q_far (p := ⟨gbz3, 3, none⟩) (Kd.Q_far (p := ⟨gbz3, 2, none⟩) (Kd.Q_far (p := ⟨gbz3, 1, none⟩) (Kd.Q_far (p := ⟨gbz3, 0, none⟩) (Kd.Q_types HOz2.out BKz0.out (by decide)) (fun _ hk => hk.2) (.int .i64 tz0)) (fun _ hk => hk.2) (.int .i64 tz1)) (fun _ hk => hk.2) (.int .i64 tz2)) (fun _ hk => hk.2) (.slice Ao13 tz3.length co13)) (fun _ hk => trivial)⟩
 have n1_ : Aside0 (((((w8.setCell ⟨gbz3, 0, none⟩ (.int .i64 tz0)).setCell ⟨gbz3, 1, none⟩ (.int .i64 tz1)).setCell ⟨gbz3, 2, none⟩ (.int .i64 tz2)).setCell ⟨gbz3, 3, none⟩ (.slice Ao13 tz3.length co13)).heap[gbz1]? = some (.cells #[.int .i64 0, .int .i64 0, .int .i64 0, .slice none 0 0] 27 (0, 0))) := ⟨by refine blk_far ?_ NBz9.out _; refine blk_far ?_ NBz9.out _; refine blk_far ?_ NBz9.out _; refine blk_far ?_ NBz9.out _; exact BKz1.out⟩
 have n2_ : Aside0 (((((w8.setCell ⟨gbz3, 0, none⟩ (.int .i64 tz0)).setCell ⟨gbz3, 1, none⟩ (.int .i64 tz1)).setCell ⟨gbz3, 2, none⟩ (.int .i64 tz2)).setCell ⟨gbz3, 3, none⟩ (.slice Ao13 tz3.length co13)).heap[gbz2]? = some (.cells #[.int .i64 0, .int .i64 0, .int .i64 0, .slice none 0 0] 27 (0, 0))) := ⟨by refine blk_far ?_ NBz10.out _; refine blk_far ?_ NBz10.out _; refine blk_far ?_ NBz10.out _; refine blk_far ?_ NBz10.out _; exact BKz2.out⟩
 have n3_ : Aside0 (((((w8.setCell ⟨gbz3, 0, none⟩ (.int .i64 tz0)).setCell ⟨gbz3, 1, none⟩ (.int .i64 tz1)).setCell ⟨gbz3, 2, none⟩ (.int .i64 tz2)).setCell ⟨gbz3, 3, none⟩ (.slice Ao13 tz3.length co13)).heap[gbz3]? = some (.cells #[.int .i64 tz0, .int .i64 tz1, .int .i64 tz2, .slice Ao13 tz3.length co13] 27 (0, 0))) := ⟨by refine blk_put (cs := #[.int .i64 tz0, .int .i64 tz1, .int .i64 tz2, .slice none 0 0]) ?_ 3 _ rfl; refine blk_put (cs := #[.int .i64 tz0, .int .i64 tz1, .int .i64 0, .slice none 0 0]) ?_ 2 _ rfl; refine blk_put (cs := #[.int .i64 tz0, .int .i64 0, .int .i64 0, .slice none 0 0]) ?_ 1 _ rfl; refine blk_put (cs := #[.int .i64 0, .int .i64 0, .int .i64 0, .slice none 0 0]) ?_ 0 _ rfl; exact BKz0.out⟩
 have n4_ : Aside0 (IsS144 w0 ((((w8.setCell ⟨gbz3, 0, none⟩ (.int .i64 tz0)).setCell ⟨gbz3, 1, none⟩ (.int .i64 tz1)).setCell ⟨gbz3, 2, none⟩ (.int .i64 tz2)).setCell ⟨gbz3, 3, none⟩ (.slice Ao13 tz3.length co13)) g s0_0 tz10) := ⟨by repeat (with_reducible first | exact HI0.out | refine IsS144.far ?_ NBz19.out _)⟩
 have n5_ : Aside0 (KeepBut w ((((w8.setCell ⟨gbz3, 0, none⟩ (.int .i64 tz0)).setCell ⟨gbz3, 1, none⟩ (.int .i64 tz1)).setCell ⟨gbz3, 2, none⟩ (.int .i64 tz2)).setCell ⟨gbz3, 3, none⟩ (.slice Ao13 tz3.length co13)) g none) := ⟨by repeat (with_reducible first | exact HK.out | refine keep_far ?_ GWz3.out _)⟩
 have n6_ : Aside0 (Below w0.heap.size w0 ((((w8.setCell ⟨gbz3, 0, none⟩ (.int .i64 tz0)).setCell ⟨gbz3, 1, none⟩ (.int .i64 tz1)).setCell ⟨gbz3, 2, none⟩ (.int .i64 tz2)).setCell ⟨gbz3, 3, none⟩ (.slice Ao13 tz3.length co13))) := ⟨by repeat (with_reducible first | exact HB.out | refine below_set ?_ GEz3.out)⟩
 (try clear HOz2)
 (try clear BKz1)
 (try clear BKz2)
 (try clear BKz0)
 (try clear HI0)
 (try clear HK)
 (try clear HB)
 generalize ((((w8.setCell ⟨gbz3, 0, none⟩ (.int .i64 tz0)).setCell ⟨gbz3, 1, none⟩ (.int .i64 tz1)).setCell ⟨gbz3, 2, none⟩ (.int .i64 tz2)).setCell ⟨gbz3, 3, none⟩ (.slice Ao13 tz3.length co13)) = w14 at n0_ n1_ n2_ n3_ n4_ n5_ n6_ ⊢
 revert n0_ n1_ n2_ n3_ n4_ n5_ n6_; intro HOz2 BKz1 BKz2 BKz0 HI0 HK HB
 replace HOz2 := mk (Kd.Q_drew HOz2.out)
 replace BKz1 := mk (blk_drew BKz1.out)
 replace BKz2 := mk (blk_drew BKz2.out)
 replace BKz0 := mk (blk_drew BKz0.out)
 replace HI0 := mk (IsS144.drew HI0.out)
 replace HK := mk (keep_drew HK.out)
 replace HB := mk (below_drew1 HB.out)
 refine start_ (n := 12) (S := fun w' => w'.cell? ⟨gbz3, 0, none⟩ = some (.int .i64 tz0) ∧ w'.cell? ⟨gbz3, 1, none⟩ = some (.int .i64 tz1) ∧ w'.cell? ⟨gbz3, 2, none⟩ = some (.int .i64 tz2) ∧ w'.cell? ⟨gbz3, 3, none⟩ = some (.slice Ao13 tz3.length co13)) (ds := []) #[false, false, false, false, false, false, false, false, false, false, false, false] (by kernel_rfl) rfl rfl ⟨blk_cell BKz0.out 0, blk_cell BKz0.out 1, blk_cell BKz0.out 2, blk_cell BKz0.out 3⟩ (fun hHeld => ?_); refine with_tabW spec_twoImages.tab2 spec_twoImages.bits2 (fun HT_ HW_ => ?_)
 generalize w14.drew = w15 at HOz2 BKz1 BKz2 BKz0 HI0 HK HB hHeld ⊢
 refine pu 0 9 ?_ ?_ rfl rfl (any_of HT_.out (by kernel_rfl)) (Or.inl ⟨by rfl, ?_⟩) ?_ ?_
 rotate_left 2
 ·intro w'
  go_simp
  with_reducible rfl
 ·simp only [seval]
  rfl
 refine pu 2 11 ?_ ?_ rfl rfl (any_of HT_.out (by kernel_rfl)) (Or.inl ⟨by rfl, ?_⟩) ?_ ?_
 rotate_left 2
 ·intro w'
  go_simp
  with_reducible rfl
 ·simp only [seval]
  rfl
 refine pu 4 13 ?_ ?_ rfl rfl (any_of HT_.out (by kernel_rfl)) (Or.inl ⟨by rfl, ?_⟩) ?_ ?_
 rotate_left 2
 ·intro w'
  go_simp
  with_reducible rfl
 ·simp only [seval]
  rfl
 refine pu 6 15 ?_ ?_ rfl rfl (any_of HT_.out (by kernel_rfl)) (Or.inl ⟨by rfl, ?_⟩) ?_ ?_
 rotate_left 2
 ·intro w'
  go_simp
  with_reducible rfl
 ·simp only [seval]
  rfl
 refine tk 1 10 ?_ ?_ rfl rfl (take_ofW HT_.out HW_.out (by kernel_rfl)) (Or.inl ⟨by rfl, ?_⟩) hHeld ?_ ?_
 rotate_left 2
 ·rintro w' ⟨s0, s1, s2, s3⟩
  go_simp
  with_reducible rfl
 ·simp only [seval]
  rfl
 refine tk 3 12 ?_ ?_ rfl rfl (take_ofW HT_.out HW_.out (by kernel_rfl)) (Or.inl ⟨by rfl, ?_⟩) hHeld ?_ ?_
 rotate_left 2
 ·rintro w' ⟨s0, s1, s2, s3⟩
  go_simp
  with_reducible rfl
 ·simp only [seval]
  rfl
 refine tk 5 14 ?_ ?_ rfl rfl (take_ofW HT_.out HW_.out (by kernel_rfl)) (Or.inl ⟨by rfl, ?_⟩) hHeld ?_ ?_
 rotate_left 2
 ·rintro w' ⟨s0, s1, s2, s3⟩
  go_simp
  with_reducible rfl
 ·simp only [seval]
  rfl
 refine tk 7 16 ?_ ?_ rfl rfl (take_ofW HT_.out HW_.out (by kernel_rfl)) (Or.inl ⟨by rfl, ?_⟩) hHeld ?_ ?_
 rotate_left 2
 ·rintro w' ⟨s0, s1, s2, s3⟩
  go_simp
  with_reducible rfl
 ·simp only [seval]
  rfl
 refine join_ (σ := Value × Nat) 1 #[true, true, true, true, true, true, true, true, true, true, true, false] (fun s_ => [(17, s_.1), (5, .pointer (some ⟨s_.2, 0, none⟩)), (18, .agg #[.int .i64 tz0, .int .i64 tz1, .int .i64 tz2, s_.1])]) (fun s_ w' => (w'.cell? ⟨gbz3, 0, none⟩ = some (.int .i64 tz0) ∧ w'.cell? ⟨gbz3, 1, none⟩ = some (.int .i64 tz1) ∧ w'.cell? ⟨gbz3, 2, none⟩ = some (.int .i64 tz2) ∧ w'.cell? ⟨gbz3, 3, none⟩ = some (.slice Ao13 tz3.length co13)) ∧ (Kd.Q (Kd.int .i64) 3 w' w.heap.size (fun k_ => some k_ ≠ (s_.1 : Value).ownBlock) (.slice Ao13 tz3.length co13) tz3) ∧ (Kd.R (Kd.int .i64) 3 w' w.heap.size (fun k_ => some k_ ≠ (.slice Ao13 tz3.length co13 : Value).ownBlock) s_.1 tz8) ∧ (w'.heap[gbz1]? = some (.cells #[.int .i64 0, .int .i64 0, .int .i64 0, .slice none 0 0] 27 (0, 0))) ∧ (w'.heap[gbz2]? = some (.cells #[.int .i64 0, .int .i64 0, .int .i64 0, .slice none 0 0] 27 (0, 0))) ∧ (w'.heap[gbz3]? = some (.cells #[.int .i64 tz0, .int .i64 tz1, .int .i64 tz2, .slice Ao13 tz3.length co13] 27 (0, 0))) ∧ (w'.heap[s_.2]? = some (.cells #[.int .i64 0, .int .i64 0, .int .i64 0, .slice none 0 0] 27 (0, 0))) ∧ (w.heap.size ≤ s_.2) ∧ (w0.heap.size ≤ s_.2) ∧ (g ≠ s_.2) ∧ (s_.2 ≠ g) ∧ (gbz1 ≠ s_.2) ∧ (s_.2 ≠ gbz1) ∧ (gbz2 ≠ s_.2) ∧ (s_.2 ≠ gbz2) ∧ (gbz3 ≠ s_.2) ∧ (s_.2 ≠ gbz3) ∧ (IsS144 w0 w' g s0_0 tz10) ∧ (KeepBut w w' g none) ∧ (Below w0.heap.size w0 w')) ?_ ?_
 rotate_left
 ·intro hCont
  refine two_ (i := 8) (j := 10) (Ni := some 17) (Nj := some 5) #[true, true, true, true, true, true, true, true, true, false, false, false] #[true, true, true, true, true, true, true, true, false, false, true, false] rfl rfl rfl rfl (two_of HT_.out (by kernel_rfl)) (by decide) (by decide) (fun K hK => ?_) (fun K hK => ?_)
  ·skip
   refine goes_ Try.func129 (by kernel_rfl) rfl #[.slice Ao13 tz3.length co13] (by rfl) rfl rfl (by (try simp only [bitvec_to_nat]); rfl) ?_
   with_reducible refine (spec_copyInts.calls _ _ tz3 tz8 _ ?side1 ?side2 A3.out).mono ?_
   (case side1 => repeat (exact (Kd.Q_reads' HOz2.out).2.2))
   (case side2 => exact (Kd.Q_reads' HOz2.out).2.1)
   rintro e w16 ⟨vz0, rfl, ho0, hb⟩
   refine ⟨_, rfl, ?_⟩
   have HOz3 := mk (Kd.R_lower (Kd.R_new' ho0 (Kd.Q_lt HOz2.out)) (keep_size (w := w) (g := g) (row := none) HK.out))
   replace HOz2 := mk (Kd.Q_elder' HOz2.out (Kd.R_base ho0) hb)
   replace HI0 := mk (IsS144.below HI0.out hb)
   replace BKz1 := mk (blk_below BKz1.out hb)
   replace BKz2 := mk (blk_below BKz2.out hb)
   replace BKz0 := mk (blk_below BKz0.out hb)
   replace HK := mk (KeepBut.trans HK.out (KeepBut.of_below hb g none) (.inl rfl))
   replace HB := mk (below_step HB.out hb)
   (try clear hb)
   (try clear ho0)
   obtain ⟨Ao17, co17, eo17⟩ := Kd.R_slice HOz3.out
   (subst eo17)
   refine hK.out _ _ ⟨blk_cell BKz0.out 0, blk_cell BKz0.out 1, blk_cell BKz0.out 2, blk_cell BKz0.out 3⟩ (fun hHeld => ?_)
   clear hK K
   refine norm_ (a' := ?_) ?_ ?_
   rotate_left
   ·show Act.put _ (some 17) _ = _
    simp only [seval]
    rfl
   refine pu 9 18 ?_ ?_ rfl rfl (any_of HT_.out (by kernel_rfl)) (Or.inl ⟨by rfl, ?_⟩) ?_ ?_
   rotate_left 2
   ·intro w'
    go_simp
    with_reducible rfl
   ·simp only [seval]
    rfl
   refine one_ (i := 10) (N := some 5) #[true, true, true, true, true, true, true, true, true, true, true, false] rfl rfl (one_of HT_.out (by kernel_rfl)) (by decide) (fun K hK => ?_)
   refine box_step ?hg (N := 5) ?hd (cs := #[.int .i64 0, .int .i64 0, .int .i64 0, .slice none 0 0]) (t := 27) ?hr ?_; (case hd => rfl); (case hg => rfl); (case hr => (go_simp; done))
   intro gbz0 hg w18 hbox hb
   replace HOz2 := mk (Kd.Q_below HOz2.out hb)
   replace HOz3 := mk (Kd.R_below HOz3.out hb)
   replace HB := mk (below_step HB.out hb)
   have BKz3 := mk (hbox)
   have GWz0 := mk ((by rw [hg]; exact (keep_size (w := w) (g := g) (row := none) HK.out) : w.heap.size ≤ gbz0))
   have GEz0 := mk ((Nat.le_trans HW0.out (by rw [hg]; exact (keep_size (w := w) (g := g) (row := none) HK.out) : w.heap.size ≤ gbz0) : w0.heap.size ≤ gbz0))
   replace HK := mk (KeepBut.trans HK.out (KeepBut.of_below hb g none) (.inl rfl))
   have NBz7 := mk ((by rw [hg]; exact Nat.ne_of_lt (blk_lt BKz1.out) : gbz1 ≠ gbz0))
   replace BKz1 := mk (blk_below BKz1.out hb)
   have NBz0 := mk NBz7.out.symm
   have NBz8 := mk ((by rw [hg]; exact Nat.ne_of_lt (blk_lt BKz2.out) : gbz2 ≠ gbz0))
   replace BKz2 := mk (blk_below BKz2.out hb)
   have NBz1 := mk NBz8.out.symm
   have NBz4 := mk ((by rw [hg]; exact Nat.ne_of_lt (blk_lt BKz0.out) : gbz3 ≠ gbz0))
   replace BKz0 := mk (blk_below BKz0.out hb)
   have NBz11 := mk NBz4.out.symm
   have NBz13 := mk ((by rw [hg]; exact Nat.ne_of_lt (IsS144.lt (show IsS144 w0 _ g s0_0 tz10 from by exact HI0.out)) : g ≠ gbz0))
   replace HI0 := mk (IsS144.below HI0.out hb)
   have NBz12 := mk NBz13.out.symm
   clear hb hbox hg
   refine hK.out _ _ ⟨blk_cell BKz0.out 0, blk_cell BKz0.out 1, blk_cell BKz0.out 2, blk_cell BKz0.out 3⟩ (fun hHeld => ?_)
   clear hK K
   refine norm_ (a' := ?_) ?_ ?_
   rotate_left
   ·show Act.put _ (some 5) _ = _
    simp only [seval]
    rfl
   exact norm_ (by simp only [putAll, Act.put, List.setIfInBounds_toArray, List.set_cons_zero, List.set_cons_succ]) (hCont (.slice Ao17 tz8.length co17, gbz0) _ ⟨hHeld, (by exact Kd.Q_mono HOz2.out (fun _ hk => hk.2)), (by exact Kd.R_mono HOz3.out (fun _ hk => hk.2)), BKz1.out, BKz2.out, BKz0.out, BKz3.out, GWz0.out, GEz0.out, NBz13.out, NBz12.out, NBz7.out, NBz0.out, NBz8.out, NBz1.out, NBz4.out, NBz11.out, (HI0.out), (HK.out), (HB.out)⟩)
  skip
  refine box_step ?hg (N := 5) ?hd (cs := #[.int .i64 0, .int .i64 0, .int .i64 0, .slice none 0 0]) (t := 27) ?hr ?_; (case hd => rfl); (case hg => rfl); (case hr => (go_simp; done))
  intro gbz0 hg w16 hbox hb
  replace HOz2 := mk (Kd.Q_below HOz2.out hb)
  replace HB := mk (below_step HB.out hb)
  have BKz3 := mk (hbox)
  have GWz0 := mk ((by rw [hg]; exact (keep_size (w := w) (g := g) (row := none) HK.out) : w.heap.size ≤ gbz0))
  have GEz0 := mk ((Nat.le_trans HW0.out (by rw [hg]; exact (keep_size (w := w) (g := g) (row := none) HK.out) : w.heap.size ≤ gbz0) : w0.heap.size ≤ gbz0))
  replace HK := mk (KeepBut.trans HK.out (KeepBut.of_below hb g none) (.inl rfl))
  have NBz7 := mk ((by rw [hg]; exact Nat.ne_of_lt (blk_lt BKz1.out) : gbz1 ≠ gbz0))
  replace BKz1 := mk (blk_below BKz1.out hb)
  have NBz0 := mk NBz7.out.symm
  have NBz8 := mk ((by rw [hg]; exact Nat.ne_of_lt (blk_lt BKz2.out) : gbz2 ≠ gbz0))
  replace BKz2 := mk (blk_below BKz2.out hb)
  have NBz1 := mk NBz8.out.symm
  have NBz4 := mk ((by rw [hg]; exact Nat.ne_of_lt (blk_lt BKz0.out) : gbz3 ≠ gbz0))
  replace BKz0 := mk (blk_below BKz0.out hb)
  have NBz11 := mk NBz4.out.symm
  have NBz13 := mk ((by rw [hg]; exact Nat.ne_of_lt (IsS144.lt (show IsS144 w0 _ g s0_0 tz10 from by exact HI0.out)) : g ≠ gbz0))
  replace HI0 := mk (IsS144.below HI0.out hb)
  have NBz12 := mk NBz13.out.symm
  clear hb hbox hg
  refine hK.out _ _ ⟨blk_cell BKz0.out 0, blk_cell BKz0.out 1, blk_cell BKz0.out 2, blk_cell BKz0.out 3⟩ (fun hHeld => ?_)
  clear hK K
  refine norm_ (a' := ?_) ?_ ?_
  rotate_left
  ·show Act.put _ (some 5) _ = _
   simp only [seval]
   rfl
  refine one_ (i := 8) (N := some 17) #[true, true, true, true, true, true, true, true, true, false, true, false] rfl rfl (one_of HT_.out (by kernel_rfl)) (by decide) (fun K hK => ?_)
  refine goes_ Try.func129 (by kernel_rfl) rfl #[.slice Ao13 tz3.length co13] (by rfl) rfl rfl (by (try simp only [bitvec_to_nat]); rfl) ?_
  with_reducible refine (spec_copyInts.calls _ _ tz3 tz8 _ ?side1 ?side2 A3.out).mono ?_
  (case side1 => repeat (exact (Kd.Q_reads' HOz2.out).2.2))
  (case side2 => exact (Kd.Q_reads' HOz2.out).2.1)
  rintro e w17 ⟨vz0, rfl, ho0, hb⟩
  refine ⟨_, rfl, ?_⟩
  have HOz3 := mk (Kd.R_lower (Kd.R_new' ho0 (Kd.Q_lt HOz2.out)) (keep_size (w := w) (g := g) (row := none) HK.out))
  replace HOz2 := mk (Kd.Q_elder' HOz2.out (Kd.R_base ho0) hb)
  replace HI0 := mk (IsS144.below HI0.out hb)
  replace BKz1 := mk (blk_below BKz1.out hb)
  replace BKz2 := mk (blk_below BKz2.out hb)
  replace BKz0 := mk (blk_below BKz0.out hb)
  replace BKz3 := mk (blk_below BKz3.out hb)
  replace HK := mk (KeepBut.trans HK.out (KeepBut.of_below hb g none) (.inl rfl))
  replace HB := mk (below_step HB.out hb)
  (try clear hb)
  (try clear ho0)
  obtain ⟨Ao18, co18, eo18⟩ := Kd.R_slice HOz3.out
  (subst eo18)
  refine hK.out _ _ ⟨blk_cell BKz0.out 0, blk_cell BKz0.out 1, blk_cell BKz0.out 2, blk_cell BKz0.out 3⟩ (fun hHeld => ?_)
  clear hK K
  refine norm_ (a' := ?_) ?_ ?_
  rotate_left
  ·show Act.put _ (some 17) _ = _
   simp only [seval]
   rfl
  refine pu 9 18 ?_ ?_ rfl rfl (any_of HT_.out (by kernel_rfl)) (Or.inl ⟨by rfl, ?_⟩) ?_ ?_
  rotate_left 2
  ·intro w'
   go_simp
   with_reducible rfl
  ·simp only [seval]
   rfl
  exact norm_ (by simp only [putAll, Act.put, List.setIfInBounds_toArray, List.set_cons_zero, List.set_cons_succ]) (hCont (.slice Ao18 tz8.length co18, gbz0) _ ⟨hHeld, (by exact Kd.Q_mono HOz2.out (fun _ hk => hk.2)), (by exact Kd.R_mono HOz3.out (fun _ hk => hk.2)), BKz1.out, BKz2.out, BKz0.out, BKz3.out, GWz0.out, GEz0.out, NBz13.out, NBz12.out, NBz7.out, NBz0.out, NBz8.out, NBz1.out, NBz4.out, NBz11.out, (HI0.out), (HK.out), (HB.out)⟩)
 rintro ⟨vz0, gbz0⟩ w19 ⟨hS_, h0_, h1_, h2_, h3_, h4_, h5_, h6_, h7_, h8_, h9_, h10_, h11_, h12_, h13_, h14_, h15_, h16_, h17_, h18_⟩
 have n0_ : Aside0 (Kd.Q (Kd.int .i64) 3 w19 w.heap.size (fun k_ => some k_ ≠ (vz0 : Value).ownBlock) (.slice Ao13 tz3.length co13) tz3) := ⟨h0_⟩
 have n1_ : Aside0 (Kd.R (Kd.int .i64) 3 w19 w.heap.size (fun k_ => some k_ ≠ (.slice Ao13 tz3.length co13 : Value).ownBlock) vz0 tz8) := ⟨h1_⟩
 have n2_ : Aside0 (w19.heap[gbz1]? = some (.cells #[.int .i64 0, .int .i64 0, .int .i64 0, .slice none 0 0] 27 (0, 0))) := ⟨h2_⟩
 have n3_ : Aside0 (w19.heap[gbz2]? = some (.cells #[.int .i64 0, .int .i64 0, .int .i64 0, .slice none 0 0] 27 (0, 0))) := ⟨h3_⟩
 have n4_ : Aside0 (w19.heap[gbz3]? = some (.cells #[.int .i64 tz0, .int .i64 tz1, .int .i64 tz2, .slice Ao13 tz3.length co13] 27 (0, 0))) := ⟨h4_⟩
 have n5_ : Aside0 (w19.heap[gbz0]? = some (.cells #[.int .i64 0, .int .i64 0, .int .i64 0, .slice none 0 0] 27 (0, 0))) := ⟨h5_⟩
 have n6_ : Aside0 (w.heap.size ≤ gbz0) := ⟨h6_⟩
 have n7_ : Aside0 (w0.heap.size ≤ gbz0) := ⟨h7_⟩
 have n8_ : Aside0 (g ≠ gbz0) := ⟨h8_⟩
 have n9_ : Aside0 (gbz0 ≠ g) := ⟨h9_⟩
 have n10_ : Aside0 (gbz1 ≠ gbz0) := ⟨h10_⟩
 have n11_ : Aside0 (gbz0 ≠ gbz1) := ⟨h11_⟩
 have n12_ : Aside0 (gbz2 ≠ gbz0) := ⟨h12_⟩
 have n13_ : Aside0 (gbz0 ≠ gbz2) := ⟨h13_⟩
 have n14_ : Aside0 (gbz3 ≠ gbz0) := ⟨h14_⟩
 have n15_ : Aside0 (gbz0 ≠ gbz3) := ⟨h15_⟩
 have n16_ : Aside0 (IsS144 w0 w19 g s0_0 tz10) := ⟨h16_⟩
 have n17_ : Aside0 (KeepBut w w19 g none) := ⟨h17_⟩
 have n18_ : Aside0 (Below w0.heap.size w0 w19) := ⟨h18_⟩
 clear HOz2 BKz1 BKz2 BKz0 HI0 HK HB h0_ h1_ h2_ h3_ h4_ h5_ h6_ h7_ h8_ h9_ h10_ h11_ h12_ h13_ h14_ h15_ h16_ h17_ h18_
 revert n0_ n1_ n2_ n3_ n4_ n5_ n6_ n7_ n8_ n9_ n10_ n11_ n12_ n13_ n14_ n15_ n16_ n17_ n18_; intro HOz2 HOz3 BKz1 BKz2 BKz0 BKz3 GWz0 GEz0 NBz13 NBz12 NBz7 NBz0 NBz8 NBz1 NBz4 NBz11 HI0 HK HB
 have hHeld : w19.cell? ⟨gbz3, 0, none⟩ = some (.int .i64 tz0) ∧ w19.cell? ⟨gbz3, 1, none⟩ = some (.int .i64 tz1) ∧ w19.cell? ⟨gbz3, 2, none⟩ = some (.int .i64 tz2) ∧ w19.cell? ⟨gbz3, 3, none⟩ = some (.slice Ao13 tz3.length co13) := hS_
 obtain ⟨Ao20, co20, eo20⟩ := Kd.R_slice HOz3.out
 (subst eo20)
 refine norm_ (a' := ?_) ?_ ?_
 rotate_left
 ·simp only [putAll, Act.put, List.setIfInBounds_toArray, List.set_cons_zero, List.set_cons_succ]
  rfl
 refine one_ (i := 11) (N := none) #[true, true, true, true, true, true, true, true, true, true, true, true] rfl rfl (one_of HT_.out (by kernel_rfl)) (by decide) (fun K hK => ?_)
 obtain ⟨hs21, -, -, -, hfs21, -⟩ := c4 BKz3.out
 have hns21_0 := NBz7.out
 have hns21_1 := NBz8.out
 have hns21_2 := NBz4.out
 have hms21_0 := NBz0.out
 have hms21_1 := NBz1.out
 have hms21_2 := NBz11.out
 obtain ⟨-, hs22, -, -, -, hfs22, -⟩ := c4 BKz3.out
 have hns22_0 := NBz7.out
 have hns22_1 := NBz8.out
 have hns22_2 := NBz4.out
 have hms22_0 := NBz0.out
 have hms22_1 := NBz1.out
 have hms22_2 := NBz11.out
 obtain ⟨-, -, hs23, -, -, -, hfs23, -⟩ := c4 BKz3.out
 have hns23_0 := NBz7.out
 have hns23_1 := NBz8.out
 have hns23_2 := NBz4.out
 have hms23_0 := NBz0.out
 have hms23_1 := NBz1.out
 have hms23_2 := NBz11.out
 obtain ⟨-, -, -, hs24, -, -, -, hfs24⟩ := c4 BKz3.out
 have hns24_0 := NBz7.out
 have hns24_1 := NBz8.out
 have hns24_2 := NBz4.out
 have hms24_0 := NBz0.out
 have hms24_1 := NBz1.out
 have hms24_2 := NBz11.out
 refine skip_ (w1 := ?_) (by rfl) rfl ?_ ?_
 rotate_left
 ·go_simp
  rfl
 refine hK.out _ _ ⟨((cell_far (p := ⟨gbz0, _, none⟩) NBz4.out _).trans (((cell_far (p := ⟨gbz0, _, none⟩) NBz4.out _).trans (((cell_far (p := ⟨gbz0, _, none⟩) NBz4.out _).trans (((cell_far (p := ⟨gbz0, _, none⟩) NBz4.out _).trans hHeld.1))))))), ((cell_far (p := ⟨gbz0, _, none⟩) NBz4.out _).trans (((cell_far (p := ⟨gbz0, _, none⟩) NBz4.out _).trans (((cell_far (p := ⟨gbz0, _, none⟩) NBz4.out _).trans (((cell_far (p := ⟨gbz0, _, none⟩) NBz4.out _).trans hHeld.2.1))))))), ((cell_far (p := ⟨gbz0, _, none⟩) NBz4.out _).trans (((cell_far (p := ⟨gbz0, _, none⟩) NBz4.out _).trans (((cell_far (p := ⟨gbz0, _, none⟩) NBz4.out _).trans (((cell_far (p := ⟨gbz0, _, none⟩) NBz4.out _).trans hHeld.2.2.1))))))), ((cell_far (p := ⟨gbz0, _, none⟩) NBz4.out _).trans (((cell_far (p := ⟨gbz0, _, none⟩) NBz4.out _).trans (((cell_far (p := ⟨gbz0, _, none⟩) NBz4.out _).trans (((cell_far (p := ⟨gbz0, _, none⟩) NBz4.out _).trans hHeld.2.2.2)))))))⟩ (fun hHeld => ?_)
 clear hK K
 refine done_ (done_of HT_.out (by kernel_rfl)) ?_
 try go_wp2_with (first | ((with_reducible refine gate_callee (f := 127) rfl ?_); refine goesL_ (some 20) rfl rfl Try.func127 (by kernel_rfl) rfl #[.pointer (some ⟨g, 0, none⟩), .int .i64 6] rfl (by (try simp only [bitvec_to_nat]); rfl) ?_; (with_reducible refine (spec_reader_pick.calls k g s0_0 tz10 6 tz16 tz17 w0 _ ?side1 ?side2 A4.out).mono ?_); (case side1 => repeat (with_reducible first | exact HI0.out | refine IsS144.far ?_ NBz13.out _)); (case side2 => repeat (with_reducible first | exact HB.out | refine below_set ?_ GEz0.out)); rintro e w25 ⟨rfl, hi, hb, hk⟩; refine ⟨_, rfl, ?_⟩; replace BKz1 := mk (KeepBut.blk hk (g' := gbz1) (o := .cells #[.int .i64 0, .int .i64 0, .int .i64 0, .slice none 0 0] 27 (0, 0)) (by refine blk_far ?_ NBz7.out _; refine blk_far ?_ NBz7.out _; refine blk_far ?_ NBz7.out _; refine blk_far ?_ NBz7.out _; exact BKz1.out) NBz14.out (by simp)); replace BKz2 := mk (KeepBut.blk hk (g' := gbz2) (o := .cells #[.int .i64 0, .int .i64 0, .int .i64 0, .slice none 0 0] 27 (0, 0)) (by refine blk_far ?_ NBz8.out _; refine blk_far ?_ NBz8.out _; refine blk_far ?_ NBz8.out _; refine blk_far ?_ NBz8.out _; exact BKz2.out) NBz15.out (by simp)); replace HOz2 := mk (Kd.Q_mono (Kd.Q_keep (IsS144.apartQ (show IsS144 w0 _ g s0_0 tz10 from by repeat (with_reducible first | exact HI0.out | refine IsS144.far ?_ NBz13.out _)) (by exact (Kd.Q_mono (Kd.Q_far (p := ⟨gbz0, 3, none⟩) (Kd.Q_far (p := ⟨gbz0, 2, none⟩) (Kd.Q_far (p := ⟨gbz0, 1, none⟩) (Kd.Q_far (p := ⟨gbz0, 0, none⟩) (Kd.Q_types HOz2.out BKz3.out (by decide)) (fun _ hk => hk.2) (.int .i64 tz0)) (fun _ hk => hk.2) (.int .i64 tz1)) (fun _ hk => hk.2) (.int .i64 tz2)) (fun _ hk => hk.2) (.slice Ao20 tz8.length co20)) (fun _ h_ => h_.1))) (by decide)) hk (fun _ h => h.2)) (fun _ h => h.1)); replace BKz0 := mk (KeepBut.blk hk (g' := gbz3) (o := .cells #[.int .i64 tz0, .int .i64 tz1, .int .i64 tz2, .slice Ao13 tz3.length co13] 27 (0, 0)) (by refine blk_far ?_ NBz4.out _; refine blk_far ?_ NBz4.out _; refine blk_far ?_ NBz4.out _; refine blk_far ?_ NBz4.out _; exact BKz0.out) NBz16.out (by simp)); replace HOz3 := mk (Kd.R_mono (Kd.R_keep (IsS144.apart (show IsS144 w0 _ g s0_0 tz10 from by repeat (with_reducible first | exact HI0.out | refine IsS144.far ?_ NBz13.out _)) (by exact (Kd.R_mono (Kd.R_far (p := ⟨gbz0, 3, none⟩) (Kd.R_far (p := ⟨gbz0, 2, none⟩) (Kd.R_far (p := ⟨gbz0, 1, none⟩) (Kd.R_far (p := ⟨gbz0, 0, none⟩) (Kd.R_types HOz3.out BKz3.out (by decide)) (fun _ hk => hk.2) (.int .i64 tz0)) (fun _ hk => hk.2) (.int .i64 tz1)) (fun _ hk => hk.2) (.int .i64 tz2)) (fun _ hk => hk.2) (.slice Ao20 tz8.length co20)) (fun _ h_ => h_.1))) (by decide)) hk (fun _ h => h.2)) (fun _ h => h.1)); replace BKz3 := mk (KeepBut.blk hk (g' := gbz0) (o := .cells #[.int .i64 tz0, .int .i64 tz1, .int .i64 tz2, .slice Ao20 tz8.length co20] 27 (0, 0)) (by refine blk_put (cs := #[.int .i64 tz0, .int .i64 tz1, .int .i64 tz2, .slice none 0 0]) ?_ 3 _ rfl; refine blk_put (cs := #[.int .i64 tz0, .int .i64 tz1, .int .i64 0, .slice none 0 0]) ?_ 2 _ rfl; refine blk_put (cs := #[.int .i64 tz0, .int .i64 0, .int .i64 0, .slice none 0 0]) ?_ 1 _ rfl; refine blk_put (cs := #[.int .i64 0, .int .i64 0, .int .i64 0, .slice none 0 0]) ?_ 0 _ rfl; exact BKz3.out) NBz12.out (by simp)); replace HK := mk (KeepBut.trans (by repeat (with_reducible first | exact HK.out | refine keep_far ?_ GWz0.out _)) hk (.inl rfl)); replace HB := mk (hb); replace HI0 := mk (hi); (try clear hb); (try clear hk); (try clear hi)))
 go_loopg [6] k (fun kq v6 w' => ∃ (x6_1 : Int) (x1001_1 : Int) (xz1 : List Int) (xz0 : List Int) (u86011003 : Value) (u86015003 : Value), v6 = .int .i64 x6_1 ∧ Aside0 (spec_twoImages.l0 kq x6_1 s0_0 x1001_1 tz0 tz1 tz2 xz1 tz0 tz1 tz2 xz0 = some (r1, r2, r3, r4, r5, r6, r7, r8, r9)) ∧ Aside0 (kq ≤ k) ∧ Aside0 (Kd.Q (Kd.int .i64) 3 w' w.heap.size (fun k_ => some k_ ≠ (u86015003 : Value).ownBlock) u86011003 xz1) ∧ Aside0 (Kd.Q (Kd.int .i64) 3 w' w.heap.size (fun k_ => some k_ ≠ (u86011003 : Value).ownBlock) u86015003 xz0) ∧ Aside0 (w'.heap[gbz1]? = some (.cells #[.int .i64 0, .int .i64 0, .int .i64 0, (.slice none 0 0)] 27 (0, 0))) ∧ Aside0 (w'.heap[gbz2]? = some (.cells #[.int .i64 0, .int .i64 0, .int .i64 0, (.slice none 0 0)] 27 (0, 0))) ∧ Aside0 (w'.heap[gbz3]? = some (.cells #[.int .i64 tz0, .int .i64 tz1, .int .i64 tz2, u86011003] 27 (0, 0))) ∧ Aside0 (w'.heap[gbz0]? = some (.cells #[.int .i64 tz0, .int .i64 tz1, .int .i64 tz2, u86015003] 27 (0, 0))) ∧ Aside0 (IsS144 w0 w' g s0_0 x1001_1) ∧ Aside0 (KeepBut w w' g none) ∧ Aside0 (Below w0.heap.size w0 w'))
 case atStart => exact ⟨(tz16), (tz17), (tz3), (tz8), (.slice Ao13 tz3.length co13), (.slice Ao20 tz8.length co20), (by rfl), H', ⟨Nat.le_refl _⟩, HOz2, ⟨Kd.Q_of_R HOz3.out⟩, BKz1, BKz2, BKz0, BKz3, HI0, HK, HB⟩
 case round =>
  clear H'
  obtain ⟨x6_1, x1001_1, xz1, xz0, u86011003, u86015003, rfl, HA, HK1, HOz1, HOz0, BKz1, BKz2, BKz0, BKz3, HI0, HK, HB⟩ := hrel
  cases gk with
  | zero => exact absurd HA.out (by simp [spec_twoImages.l0])
  | succ k1 =>
   have H := HA.out
   clear HA
   simp only [spec_twoImages.l0] at H
   have HC26 := mk H
   clear H
   go_upto_region 4 with (fail)
   go_cut [28] (fun v28 wc => ∃ (kq : Nat) (x28_25 : Bool), v28 = .bool x28_25 ∧ Aside0 (spec_twoImages.j1 kq x6_1 x28_25 s0_0 x1001_1 tz0 tz1 tz2 xz1 tz0 tz1 tz2 xz0 = some (r1, r2, r3, r4, r5, r6, r7, r8, r9)) ∧ Aside0 (kq ≤ k1) ∧ Aside0 (Kd.Q (Kd.int .i64) 3 wc w.heap.size (fun k_ => some k_ ≠ (u86015003 : Value).ownBlock) u86011003 xz1) ∧ Aside0 (Kd.Q (Kd.int .i64) 3 wc w.heap.size (fun k_ => some k_ ≠ (u86011003 : Value).ownBlock) u86015003 xz0) ∧ Aside0 (wc.heap[gbz1]? = some (.cells #[.int .i64 0, .int .i64 0, .int .i64 0, (.slice none 0 0)] 27 (0, 0))) ∧ Aside0 (wc.heap[gbz2]? = some (.cells #[.int .i64 0, .int .i64 0, .int .i64 0, (.slice none 0 0)] 27 (0, 0))) ∧ Aside0 (wc.heap[gbz3]? = some (.cells #[.int .i64 tz0, .int .i64 tz1, .int .i64 tz2, u86011003] 27 (0, 0))) ∧ Aside0 (wc.heap[gbz0]? = some (.cells #[.int .i64 tz0, .int .i64 tz1, .int .i64 tz2, u86015003] 27 (0, 0))) ∧ Aside0 (IsS144 w0 wc g s0_0 x1001_1) ∧ Aside0 (KeepBut w wc g none) ∧ Aside0 (Below w0.heap.size w0 wc))
   case first =>
    have H := HC26.out
    clear HC26
    by_cases c27 : x6_1 > 0
    ·rw [if_pos c27] at H
     have c27b0 : decide (0 < x6_1) = true := decide_eq_true c27
     clear c27
     (skip)
     have H' := mk H
     clear H
     have hcz32_3 : wr.cell? ⟨gbz0, 3, none⟩ = some u86015003 := (blk_cell BKz3.out 3).trans rfl
     obtain ⟨Ao33, co33, eo33, _⟩ := Kd.Q_slice HOz0.out
     subst eo33
     go_wp2
     go_meet
     case rel => exact ⟨_, (decide ((xz0.length : Int) > 0)), (by (simp; done)), H', ⟨by have := HK1.out; omega⟩, HOz1, HOz0, BKz1, BKz2, BKz0, BKz3, HI0, HK, HB⟩
    rw [if_neg c27] at H
    have c27b0 : decide (0 < x6_1) = false := decide_eq_false c27
    clear c27
    (skip)
    have H' := mk H
    clear H
    go_wp2
    go_meet
    case rel => exact ⟨_, (false), (by rfl), H', ⟨by have := HK1.out; omega⟩, HOz1, HOz0, BKz1, BKz2, BKz0, BKz3, HI0, HK, HB⟩
   case rest =>
    clear HC26
    obtain ⟨kq, x28_25, rfl, HA, HJ25, HOz1, HOz0, BKz1, BKz2, BKz0, BKz3, HI0, HK, HB⟩ := hcut
    cases kq with
    | zero => exact absurd HA.out (by simp [spec_twoImages.j1])
    | succ kj25 =>
     have H := HA.out
     clear HA
     simp only [spec_twoImages.j1] at H
     by_cases c34 : x28_25 = true
     ·subst c34
      have H1 : ((spec_reader_pick.f kj25 s0_0 x1001_1 (xz0.length : Int)).bind fun btz3 => ((spec_reader_pick.f kj25 s0_0 btz3.2 256).bind fun btz4 => (if 0 ≤ btz3.1 then (if btz3.1 < (xz0.length : Int) then (spec_twoImages.l0 kj25 (wrap64 (x6_1 - 1)) s0_0 btz4.2 tz0 tz1 tz2 xz1 tz0 tz1 tz2 (xz0.set (btz3.1 : Int).toNat btz4.1)) else none) else none))) = some (r1, r2, r3, r4, r5, r6, r7, r8, r9) := by rw [if_pos rfl] at H; exact H
      clear H
      have H := H1
      clear H1
      replace H := Option.bind_eq_some_iff.mp H
      obtain ⟨⟨tz9, tz13⟩, A350, H⟩ := H
      replace H : ((spec_reader_pick.f kj25 s0_0 tz13 256).bind fun btz4 => (if 0 ≤ tz9 then (if tz9 < (xz0.length : Int) then (spec_twoImages.l0 kj25 (wrap64 (x6_1 - 1)) s0_0 btz4.2 tz0 tz1 tz2 xz1 tz0 tz1 tz2 (xz0.set (tz9 : Int).toNat btz4.1)) else none) else none)) = some (r1, r2, r3, r4, r5, r6, r7, r8, r9) := H
      have A35 := mk A350
      clear A350
      replace H := Option.bind_eq_some_iff.mp H
      obtain ⟨⟨tz14, tz15⟩, A360, H⟩ := H
      replace H : (if 0 ≤ tz9 then (if tz9 < (xz0.length : Int) then (spec_twoImages.l0 kj25 (wrap64 (x6_1 - 1)) s0_0 tz15 tz0 tz1 tz2 xz1 tz0 tz1 tz2 (xz0.set (tz9 : Int).toNat tz14)) else none) else none) = some (r1, r2, r3, r4, r5, r6, r7, r8, r9) := H
      have A36 := mk A360
      clear A360
      by_cases c37 : 0 ≤ tz9
      ·rw [if_pos c37] at H
       have c37b0 : decide (0 ≤ tz9) = true := decide_eq_true c37
       clear c37
       by_cases c38 : tz9 < (xz0.length : Int)
       ·rw [if_pos c38] at H
        have c38b0 : decide (tz9 < (xz0.length : Int)) = true := decide_eq_true c38
        clear c38
        obtain ⟨yz0, hyz0⟩ : ∃ y_ : List Int, y_ = (xz0.set (tz9 : Int).toNat tz14) := ⟨_, rfl⟩
        replace H : (spec_twoImages.l0 kj25 (wrap64 (x6_1 - 1)) s0_0 tz15 tz0 tz1 tz2 xz1 tz0 tz1 tz2 yz0) = some (r1, r2, r3, r4, r5, r6, r7, r8, r9) := by (rw [hyz0]; with_reducible exact H)
        have Nyz0 := mk hyz0
        clear hyz0
        have H' := mk H
        clear H
        try go_wp2
        replace HOz1 := mk (Kd.Q_drew HOz1.out)
        replace HOz0 := mk (Kd.Q_drew HOz0.out)
        replace BKz1 := mk (blk_drew BKz1.out)
        replace BKz2 := mk (blk_drew BKz2.out)
        replace BKz0 := mk (blk_drew BKz0.out)
        replace BKz3 := mk (blk_drew BKz3.out)
        replace HI0 := mk (IsS144.drew HI0.out)
        replace HK := mk (keep_drew HK.out)
        replace HB := mk (below_drew1 HB.out)
        obtain ⟨Ao41, co41, eo41, _⟩ := Kd.Q_slice HOz0.out
        (subst eo41)
        refine start_ (n := 11) (S := fun w' => w'.cell? ⟨gbz0, 0, none⟩ = some (.int .i64 tz0) ∧ w'.cell? ⟨gbz0, 1, none⟩ = some (.int .i64 tz1) ∧ w'.cell? ⟨gbz0, 2, none⟩ = some (.int .i64 tz2) ∧ w'.cell? ⟨gbz0, 3, none⟩ = some (.slice Ao41 xz0.length co41)) (ds := [10]) #[false, false, false, false, false, false, false, false, false, false, false] (by kernel_rfl) rfl rfl ⟨blk_cell BKz3.out 0, blk_cell BKz3.out 1, blk_cell BKz3.out 2, blk_cell BKz3.out 3⟩ (fun hHeld => ?_); refine with_tabW spec_twoImages.tab6 spec_twoImages.bits6 (fun HT_ HW_ => ?_)
        generalize wc.drew = w40 at HOz1 HOz0 BKz1 BKz2 BKz0 BKz3 HI0 HK HB hHeld ⊢
        refine pu 0 31 ?_ ?_ rfl rfl (any_of HT_.out (by kernel_rfl)) (Or.inl ⟨by rfl, ?_⟩) ?_ ?_
        rotate_left 2
        ·intro w'
         go_simp
         with_reducible rfl
        ·simp only [seval]
         rfl
        refine pu 2 33 ?_ ?_ rfl rfl (any_of HT_.out (by kernel_rfl)) (Or.inl ⟨by rfl, ?_⟩) ?_ ?_
        rotate_left 2
        ·intro w'
         go_simp
         with_reducible rfl
        ·simp only [seval]
         rfl
        refine pu 3 34 ?_ ?_ rfl rfl (any_of HT_.out (by kernel_rfl)) (Or.inl ⟨by rfl, ?_⟩) ?_ ?_
        rotate_left 2
        ·intro w'
         go_simp
         with_reducible rfl
        ·simp only [seval]
         rfl
        refine pu 7 38 ?_ ?_ rfl rfl (any_of HT_.out (by kernel_rfl)) (Or.inl ⟨by rfl, ?_⟩) ?_ ?_
        rotate_left 2
        ·intro w'
         go_simp
         with_reducible rfl
        ·simp only [seval]
         rfl
        refine tk 1 32 ?_ ?_ rfl rfl (take_ofW HT_.out HW_.out (by kernel_rfl)) (Or.inl ⟨by rfl, ?_⟩) hHeld ?_ ?_
        rotate_left 2
        ·rintro w' ⟨s0, s1, s2, s3⟩
         go_simp
         with_reducible rfl
        ·simp only [seval]
         rfl
        refine tk 4 35 ?_ ?_ rfl rfl (take_ofW HT_.out HW_.out (by kernel_rfl)) (Or.inl ⟨by rfl, ?_⟩) hHeld ?_ ?_
        rotate_left 2
        ·rintro w' ⟨s0, s1, s2, s3⟩
         go_simp
         with_reducible rfl
        ·simp only [seval]
         rfl
        refine pu 5 36 ?_ ?_ rfl rfl (any_of HT_.out (by kernel_rfl)) (Or.inl ⟨by rfl, ?_⟩) ?_ ?_
        rotate_left 2
        ·intro w'
         go_simp
         with_reducible rfl
        ·simp only [seval]
         rfl
        refine one_ (i := 6) (N := some 37) #[true, true, true, true, true, true, true, true, false, false, false] rfl rfl (one_of HT_.out (by kernel_rfl)) (by decide) (fun K hK => ?_)
        refine goes_ Try.func127 (by kernel_rfl) rfl #[.pointer (some ⟨g, 0, none⟩), .int .i64 (xz0.length : Int)] (by rfl) rfl rfl (by (try simp only [bitvec_to_nat]); rfl) ?_
        with_reducible refine (spec_reader_pick.calls kj25 g s0_0 x1001_1 (xz0.length : Int) tz9 tz13 w0 _ ?side1 ?side2 A35.out).mono ?_
        (case side1 => repeat (with_reducible exact HI0.out))
        (case side2 => repeat (with_reducible exact HB.out))
        rintro e w42 ⟨rfl, hi, hb, hk⟩
        refine ⟨_, rfl, ?_⟩
        replace HOz1 := mk (Kd.Q_mono (Kd.Q_keep (IsS144.apartQ (show IsS144 w0 _ g s0_0 x1001_1 from by exact HI0.out) HOz1.out (by decide)) hk (fun _ h => h.2)) (fun _ h => h.1))
        replace HOz0 := mk (Kd.Q_mono (Kd.Q_keep (IsS144.apartQ (show IsS144 w0 _ g s0_0 x1001_1 from by exact HI0.out) HOz0.out (by decide)) hk (fun _ h => h.2)) (fun _ h => h.1))
        replace BKz1 := mk (KeepBut.blk hk (g' := gbz1) (o := .cells #[.int .i64 0, .int .i64 0, .int .i64 0, .slice none 0 0] 27 (0, 0)) BKz1.out NBz14.out (by simp))
        replace BKz2 := mk (KeepBut.blk hk (g' := gbz2) (o := .cells #[.int .i64 0, .int .i64 0, .int .i64 0, .slice none 0 0] 27 (0, 0)) BKz2.out NBz15.out (by simp))
        replace BKz0 := mk (KeepBut.blk hk (g' := gbz3) (o := .cells #[.int .i64 tz0, .int .i64 tz1, .int .i64 tz2, u86011003] 27 (0, 0)) BKz0.out NBz16.out (by simp))
        replace BKz3 := mk (KeepBut.blk hk (g' := gbz0) (o := .cells #[.int .i64 tz0, .int .i64 tz1, .int .i64 tz2, .slice Ao41 xz0.length co41] 27 (0, 0)) BKz3.out NBz12.out (by simp))
        replace HK := mk (KeepBut.trans HK.out hk (.inl rfl))
        replace HB := mk (hb)
        replace HI0 := mk (hi)
        (try clear hb)
        (try clear hk)
        (try clear hi)
        refine hK.out _ _ ⟨blk_cell BKz3.out 0, blk_cell BKz3.out 1, blk_cell BKz3.out 2, blk_cell BKz3.out 3⟩ (fun hHeld => ?_)
        clear hK K
        refine norm_ (a' := ?_) ?_ ?_
        rotate_left
        ·show Act.put _ (some 37) _ = _
         simp only [seval]
         rfl
        refine one_ (i := 8) (N := some 39) #[true, true, true, true, true, true, true, true, true, false, false] rfl rfl (one_of HT_.out (by kernel_rfl)) (by decide) (fun K hK => ?_)
        refine goes_ Try.func127 (by kernel_rfl) rfl #[.pointer (some ⟨g, 0, none⟩), .int .i64 256] (by rfl) rfl rfl (by (try simp only [bitvec_to_nat]); rfl) ?_
        with_reducible refine (spec_reader_pick.calls kj25 g s0_0 tz13 256 tz14 tz15 w0 _ ?side1 ?side2 A36.out).mono ?_
        (case side1 => repeat (with_reducible exact HI0.out))
        (case side2 => repeat (with_reducible exact HB.out))
        rintro e w43 ⟨rfl, hi, hb, hk⟩
        refine ⟨_, rfl, ?_⟩
        replace HOz1 := mk (Kd.Q_mono (Kd.Q_keep (IsS144.apartQ (show IsS144 w0 _ g s0_0 tz13 from by exact HI0.out) HOz1.out (by decide)) hk (fun _ h => h.2)) (fun _ h => h.1))
        replace HOz0 := mk (Kd.Q_mono (Kd.Q_keep (IsS144.apartQ (show IsS144 w0 _ g s0_0 tz13 from by exact HI0.out) HOz0.out (by decide)) hk (fun _ h => h.2)) (fun _ h => h.1))
        replace BKz1 := mk (KeepBut.blk hk (g' := gbz1) (o := .cells #[.int .i64 0, .int .i64 0, .int .i64 0, .slice none 0 0] 27 (0, 0)) BKz1.out NBz14.out (by simp))
        replace BKz2 := mk (KeepBut.blk hk (g' := gbz2) (o := .cells #[.int .i64 0, .int .i64 0, .int .i64 0, .slice none 0 0] 27 (0, 0)) BKz2.out NBz15.out (by simp))
        replace BKz0 := mk (KeepBut.blk hk (g' := gbz3) (o := .cells #[.int .i64 tz0, .int .i64 tz1, .int .i64 tz2, u86011003] 27 (0, 0)) BKz0.out NBz16.out (by simp))
        replace BKz3 := mk (KeepBut.blk hk (g' := gbz0) (o := .cells #[.int .i64 tz0, .int .i64 tz1, .int .i64 tz2, .slice Ao41 xz0.length co41] 27 (0, 0)) BKz3.out NBz12.out (by simp))
        replace HK := mk (KeepBut.trans HK.out hk (.inl rfl))
        replace HB := mk (hb)
        replace HI0 := mk (hi)
        (try clear hb)
        (try clear hk)
        (try clear hi)
        have p39 : 0 ≤ (tz9 : Int) := of_decide_eq_true (by (with_reducible assumption))
        have q39 : (tz9 : Int) < ((xz0.length : Int) : Int) := of_decide_eq_true (by (with_reducible assumption))
        obtain ⟨go39, oo39, co39, eo39, gb39, gl39, cl39, HG39⟩ := Kd.Q_form HOz0.out (by omega)
        (cases eo39)
        have GB39 := mk gb39
        have GG39 := mk HG39
        clear gb39 gl39 HG39
        obtain ⟨hx39_0, hf39_0⟩ := Kd.Q_cell 0 HOz0.out (tz9 : Int) p39 q39
        replace p39 := eq_true p39
        replace q39 := eq_true q39
        have HN0_go39 := mk (show g ≠ go39 from by have h_ := IsS144.own_neQ HI0.out HOz0.out (by decide); intro e_; exact h_ (by rw [e_]; rfl))
        have HP44 := (Kd.Q_putg HOz0.out (tz9 : Int) (of_decide_eq_true (by (with_reducible assumption))) (by have h_ : (tz9 : Int) < ((xz0.length : Int) : Int) := of_decide_eq_true (by (with_reducible assumption)); exact h_) tz14).1
        rw [← Nyz0.out] at HP44
        have HQ44 := mk HP44
        clear HP44
        refine hK.out _ _ ⟨blk_cell BKz3.out 0, blk_cell BKz3.out 1, blk_cell BKz3.out 2, blk_cell BKz3.out 3⟩ (fun hHeld => ?_)
        clear hK K
        refine norm_ (a' := ?_) ?_ ?_
        rotate_left
        ·show Act.put _ (some 39) _ = _
         simp only [seval]
         rfl
        refine pu 9 40 ?_ ?_ rfl rfl (any_of HT_.out (by kernel_rfl)) (Or.inl ⟨by rfl, ?_⟩) ?_ ?_
        rotate_left 2
        ·intro w'
         go_simp
         with_reducible rfl
        ·simp only [seval]
         rfl
        refine last_ (i := 10) (N := none) #[true, true, true, true, true, true, true, true, true, true, true] rfl rfl (one_of HT_.out (by kernel_rfl)) (by decide) (fun K hK => ?_)
        refine skip_ (w1 := ?_) (by rfl) rfl ?_ ?_
        rotate_left
        ·go_simp
         rfl
        refine hK.out _ _ ?_
        clear hK K
        refine done_ (done_of HT_.out (by kernel_rfl)) ?_
        try go_wp2
        go_roundg kj25
        case measure => have := HK1.out; have := HJ25.out; omega
        case rel => exact ⟨(wrap64 (x6_1 - 1)), (tz15), (xz1), (yz0), (u86011003), (.slice (some ⟨go39, oo39, none⟩) xz0.length co41), (by rfl), H', ⟨by have := HK1.out; have := HJ25.out; omega⟩, ⟨by exact Kd.Q_mono (Kd.Q_far (p := ⟨go39, oo39 + (tz9 : Int).toNat, none⟩) (Kd.Q_mono HOz1.out (fun k_ hk => (⟨hk, fun e_ => hk (by rw [e_]; rfl)⟩ : _ ∧ k_ ≠ go39))) (fun _ hk => hk.2) (.int .i64 tz14)) (fun _ hk => hk.1)⟩, HQ44, ⟨by refine blk_far ?_ (by have h_ := Kd.Q_ne HOz0.out BKz1.out (by decide); intro e_; exact h_ (by rw [e_]; rfl)) _; exact BKz1.out⟩, ⟨by refine blk_far ?_ (by have h_ := Kd.Q_ne HOz0.out BKz2.out (by decide); intro e_; exact h_ (by rw [e_]; rfl)) _; exact BKz2.out⟩, ⟨by refine blk_far ?_ (by have h_ := Kd.Q_ne HOz0.out BKz0.out (by decide); intro e_; exact h_ (by rw [e_]; rfl)) _; exact BKz0.out⟩, ⟨by refine blk_far ?_ (by have h_ := Kd.Q_ne HOz0.out BKz3.out (by decide); intro e_; exact h_ (by rw [e_]; rfl)) _; exact BKz3.out⟩, ⟨by repeat (with_reducible first | exact HI0.out | refine IsS144.far ?_ HN0_go39.out _)⟩, ⟨by repeat (with_reducible first | exact HK.out | refine keep_far ?_ GB39.out _)⟩, ⟨by repeat ((with_reducible first | exact HB.out | refine below_set ?_ (Nat.le_trans HL.out GB39.out)))⟩⟩
       rw [if_neg c38] at H
       exact absurd H (by simp)
      rw [if_neg c37] at H
      exact absurd H (by simp)
     replace c34 := Bool.eq_false_iff.mpr c34
     subst c34
     have H1 : ((spec_reader_pick.f kj25 s0_0 x1001_1 16).bind fun btz5 => (if btz5.1 = 0 then ((spec_anyImage.f kj25 s0_0 btz5.2).bind fun btz1 => (some (tz0, tz1, tz2, xz1, btz1.1, btz1.2.1, btz1.2.2.1, btz1.2.2.2.1, btz1.2.2.2.2))) else (some (tz0, tz1, tz2, xz1, tz0, tz1, tz2, xz0, btz5.2)))) = some (r1, r2, r3, r4, r5, r6, r7, r8, r9) := by rw [if_neg (show ¬ (false = true) by decide)] at H; exact H
     clear H
     have H := H1
     clear H1
     replace H := Option.bind_eq_some_iff.mp H
     obtain ⟨⟨tz11, tz12⟩, A450, H⟩ := H
     replace H : (if tz11 = 0 then ((spec_anyImage.f kj25 s0_0 tz12).bind fun btz1 => (some (tz0, tz1, tz2, xz1, btz1.1, btz1.2.1, btz1.2.2.1, btz1.2.2.2.1, btz1.2.2.2.2))) else (some (tz0, tz1, tz2, xz1, tz0, tz1, tz2, xz0, tz12))) = some (r1, r2, r3, r4, r5, r6, r7, r8, r9) := H
     have A45 := mk A450
     clear A450
     by_cases c46 : tz11 = 0
     ·rw [if_pos c46] at H
      have c46b0 : (tz11 == 0) = true := beq_iff_eq.mpr c46
      have c46b1 : (tz11 != 0) = false := bne_eq_false_iff_eq.mpr c46
      clear c46
      replace H := Option.bind_eq_some_iff.mp H
      obtain ⟨⟨tz4, tz5, tz7, tz6, tz18⟩, A470, H⟩ := H
      replace H : (some (tz0, tz1, tz2, xz1, tz4, tz5, tz7, tz6, tz18)) = some (r1, r2, r3, r4, r5, r6, r7, r8, r9) := H
      have A47 := mk A470
      clear A470
      simp only [Option.some.injEq, Prod.mk.injEq] at H
      obtain ⟨rfl, rfl, rfl, rfl, rfl, rfl, rfl, rfl, rfl⟩ := H
      try go_wp2_with (first | ((with_reducible refine gate_callee (f := 127) rfl ?_); refine goesL_ (some 42) rfl rfl Try.func127 (by kernel_rfl) rfl #[.pointer (some ⟨g, 0, none⟩), .int .i64 16] rfl (by (try simp only [bitvec_to_nat]); rfl) ?_; (with_reducible refine (spec_reader_pick.calls kj25 g s0_0 x1001_1 16 tz11 tz12 w0 _ ?side1 ?side2 A45.out).mono ?_); (case side1 => repeat (with_reducible exact HI0.out)); (case side2 => repeat (with_reducible exact HB.out)); rintro e w48 ⟨rfl, hi, hb, hk⟩; refine ⟨_, rfl, ?_⟩; replace HOz1 := mk (Kd.Q_mono (Kd.Q_keep (IsS144.apartQ (show IsS144 w0 _ g s0_0 x1001_1 from by exact HI0.out) HOz1.out (by decide)) hk (fun _ h => h.2)) (fun _ h => h.1)); replace HOz0 := mk (Kd.Q_mono (Kd.Q_keep (IsS144.apartQ (show IsS144 w0 _ g s0_0 x1001_1 from by exact HI0.out) HOz0.out (by decide)) hk (fun _ h => h.2)) (fun _ h => h.1)); replace BKz1 := mk (KeepBut.blk hk (g' := gbz1) (o := .cells #[.int .i64 0, .int .i64 0, .int .i64 0, .slice none 0 0] 27 (0, 0)) BKz1.out NBz14.out (by simp)); replace BKz2 := mk (KeepBut.blk hk (g' := gbz2) (o := .cells #[.int .i64 0, .int .i64 0, .int .i64 0, .slice none 0 0] 27 (0, 0)) BKz2.out NBz15.out (by simp)); replace BKz0 := mk (KeepBut.blk hk (g' := gbz3) (o := .cells #[.int .i64 tz0, .int .i64 tz1, .int .i64 tz2, u86011003] 27 (0, 0)) BKz0.out NBz16.out (by simp)); replace BKz3 := mk (KeepBut.blk hk (g' := gbz0) (o := .cells #[.int .i64 tz0, .int .i64 tz1, .int .i64 tz2, u86015003] 27 (0, 0)) BKz3.out NBz12.out (by simp)); replace HK := mk (KeepBut.trans HK.out hk (.inl rfl)); replace HB := mk (hb); replace HI0 := mk (hi); (try clear hb); (try clear hk); (try clear hi)) | ((with_reducible refine gate_callee (f := 94) rfl ?_); refine goesL_ (some 45) rfl rfl Try.func94 (by kernel_rfl) rfl #[.pointer (some ⟨g, 0, none⟩)] rfl (by (try simp only [bitvec_to_nat]); rfl) ?_; (with_reducible refine (spec_anyImage.calls kj25 g s0_0 tz12 tz4 tz5 tz7 tz6 tz18 w0 _ ?side1 ?side2 A47.out).mono ?_); (case side1 => repeat (with_reducible exact HI0.out)); (case side2 => repeat (with_reducible exact HB.out)); rintro e w49 ⟨vz2, rfl, ho0, hi, hb, hk⟩; refine ⟨_, rfl, ?_⟩; replace BKz1 := mk (KeepBut.blk hk (g' := gbz1) (o := .cells #[.int .i64 0, .int .i64 0, .int .i64 0, .slice none 0 0] 27 (0, 0)) BKz1.out NBz14.out (by simp)); replace BKz2 := mk (KeepBut.blk hk (g' := gbz2) (o := .cells #[.int .i64 0, .int .i64 0, .int .i64 0, .slice none 0 0] 27 (0, 0)) BKz2.out NBz15.out (by simp)); replace BKz0 := mk (KeepBut.blk hk (g' := gbz3) (o := .cells #[.int .i64 tz0, .int .i64 tz1, .int .i64 tz2, u86011003] 27 (0, 0)) BKz0.out NBz16.out (by simp)); replace BKz3 := mk (KeepBut.blk hk (g' := gbz0) (o := .cells #[.int .i64 tz0, .int .i64 tz1, .int .i64 tz2, u86015003] 27 (0, 0)) BKz3.out NBz12.out (by simp)); have HOz4 := mk (Kd.Q_lower (Kd.Q_new' (Kd.Q_new' ho0 (Kd.Q_lt HOz1.out)) (Kd.Q_lt HOz0.out)) (keep_size (w := w) (g := g) (row := none) HK.out)); replace HOz1 := mk (Kd.Q_mono (Kd.Q_told (Kd.Q_oldK (IsS144.apartQ (show IsS144 w0 _ g s0_0 tz12 from by exact HI0.out) HOz1.out (by decide)) hk) (Kd.Q_base ho0)) (fun _ h_ => h_.1)); replace HOz0 := mk (Kd.Q_mono (Kd.Q_told (Kd.Q_oldK (IsS144.apartQ (show IsS144 w0 _ g s0_0 tz12 from by exact HI0.out) HOz0.out (by decide)) hk) (Kd.Q_base ho0)) (fun _ h_ => h_.1)); replace HK := mk (KeepBut.trans HK.out hk (.inl rfl)); replace HB := mk (hb); replace HI0 := mk (hi); (try clear hb); (try clear hk); (try clear hi); (try clear ho0); obtain ⟨hcz54_0, hcz54_1, hcz54_2, -⟩ := c4 BKz3.out; have hcz54_3 : w49.cell? ⟨gbz0, 3, none⟩ = some u86015003 := (blk_cell BKz3.out 3).trans rfl; obtain ⟨-, -, -, -, hfz54_0, hfz54_1, hfz54_2, hfz54_3⟩ := c4 BKz3.out; obtain ⟨Ao55, co55, eo55, _⟩ := Kd.Q_slice HOz4.out; subst eo55))
      have n0_ : Aside0 (Kd.Q (Kd.int .i64) 3 ((((w49.setCell ⟨gbz0, 0, none⟩ (.int .i64 tz4)).setCell ⟨gbz0, 1, none⟩ (.int .i64 tz5)).setCell ⟨gbz0, 2, none⟩ (.int .i64 tz7)).setCell ⟨gbz0, 3, none⟩ (.slice Ao55 tz6.length co55)) w.heap.size (fun k_ => some k_ ≠ (u86015003 : Value).ownBlock ∧ some k_ ≠ (.slice Ao55 tz6.length co55 : Value).ownBlock) u86011003 xz1) := ⟨by exact Kd.Q_mono (Kd.Q_far (p := ⟨gbz0, 3, none⟩) (Kd.Q_far (p := ⟨gbz0, 2, none⟩) (Kd.Q_far (p := ⟨gbz0, 1, none⟩) (Kd.Q_far (p := ⟨gbz0, 0, none⟩) (Kd.Q_types HOz1.out BKz3.out (by decide)) (fun _ hk => hk.2) (.int .i64 tz4)) (fun _ hk => hk.2) (.int .i64 tz5)) (fun _ hk => hk.2) (.int .i64 tz7)) (fun _ hk => hk.2) (.slice Ao55 tz6.length co55)) (fun _ hk => ⟨hk.1.1, hk.1.2⟩)⟩
      have n1_ : Aside0 (Kd.Q (Kd.int .i64) 3 ((((w49.setCell ⟨gbz0, 0, none⟩ (.int .i64 tz4)).setCell ⟨gbz0, 1, none⟩ (.int .i64 tz5)).setCell ⟨gbz0, 2, none⟩ (.int .i64 tz7)).setCell ⟨gbz0, 3, none⟩ (.slice Ao55 tz6.length co55)) w.heap.size (fun k_ => some k_ ≠ (u86011003 : Value).ownBlock ∧ some k_ ≠ (.slice Ao55 tz6.length co55 : Value).ownBlock) u86015003 xz0) := ⟨by exact Kd.Q_mono (Kd.Q_far (p := ⟨gbz0, 3, none⟩) (Kd.Q_far (p := ⟨gbz0, 2, none⟩) (Kd.Q_far (p := ⟨gbz0, 1, none⟩) (Kd.Q_far (p := ⟨gbz0, 0, none⟩) (Kd.Q_types HOz0.out BKz3.out (by decide)) (fun _ hk => hk.2) (.int .i64 tz4)) (fun _ hk => hk.2) (.int .i64 tz5)) (fun _ hk => hk.2) (.int .i64 tz7)) (fun _ hk => hk.2) (.slice Ao55 tz6.length co55)) (fun _ hk => ⟨hk.1.1, hk.1.2⟩)⟩
      have n2_ : Aside0 (Kd.Q (Kd.int .i64) 3 ((((w49.setCell ⟨gbz0, 0, none⟩ (.int .i64 tz4)).setCell ⟨gbz0, 1, none⟩ (.int .i64 tz5)).setCell ⟨gbz0, 2, none⟩ (.int .i64 tz7)).setCell ⟨gbz0, 3, none⟩ (.slice Ao55 tz6.length co55)) w.heap.size (fun k_ => some k_ ≠ (u86011003 : Value).ownBlock ∧ some k_ ≠ (u86015003 : Value).ownBlock) (.slice Ao55 tz6.length co55) tz6) := ⟨by exact Kd.Q_mono (Kd.Q_far (p := ⟨gbz0, 3, none⟩) (Kd.Q_far (p := ⟨gbz0, 2, none⟩) (Kd.Q_far (p := ⟨gbz0, 1, none⟩) (Kd.Q_far (p := ⟨gbz0, 0, none⟩) (Kd.Q_types HOz4.out BKz3.out (by decide)) (fun _ hk => hk.2) (.int .i64 tz4)) (fun _ hk => hk.2) (.int .i64 tz5)) (fun _ hk => hk.2) (.int .i64 tz7)) (fun _ hk => hk.2) (.slice Ao55 tz6.length co55)) (fun _ hk => ⟨hk.1.1.2, hk.1.2⟩)⟩
      have n3_ : Aside0 (((((w49.setCell ⟨gbz0, 0, none⟩ (.int .i64 tz4)).setCell ⟨gbz0, 1, none⟩ (.int .i64 tz5)).setCell ⟨gbz0, 2, none⟩ (.int .i64 tz7)).setCell ⟨gbz0, 3, none⟩ (.slice Ao55 tz6.length co55)).heap[gbz1]? = some (.cells #[.int .i64 0, .int .i64 0, .int .i64 0, .slice none 0 0] 27 (0, 0))) := ⟨by refine blk_far ?_ NBz7.out _; refine blk_far ?_ NBz7.out _; refine blk_far ?_ NBz7.out _; refine blk_far ?_ NBz7.out _; exact BKz1.out⟩
      have n4_ : Aside0 (((((w49.setCell ⟨gbz0, 0, none⟩ (.int .i64 tz4)).setCell ⟨gbz0, 1, none⟩ (.int .i64 tz5)).setCell ⟨gbz0, 2, none⟩ (.int .i64 tz7)).setCell ⟨gbz0, 3, none⟩ (.slice Ao55 tz6.length co55)).heap[gbz2]? = some (.cells #[.int .i64 0, .int .i64 0, .int .i64 0, .slice none 0 0] 27 (0, 0))) := ⟨by refine blk_far ?_ NBz8.out _; refine blk_far ?_ NBz8.out _; refine blk_far ?_ NBz8.out _; refine blk_far ?_ NBz8.out _; exact BKz2.out⟩
      have n5_ : Aside0 (((((w49.setCell ⟨gbz0, 0, none⟩ (.int .i64 tz4)).setCell ⟨gbz0, 1, none⟩ (.int .i64 tz5)).setCell ⟨gbz0, 2, none⟩ (.int .i64 tz7)).setCell ⟨gbz0, 3, none⟩ (.slice Ao55 tz6.length co55)).heap[gbz3]? = some (.cells #[.int .i64 tz0, .int .i64 tz1, .int .i64 tz2, u86011003] 27 (0, 0))) := ⟨by refine blk_far ?_ NBz4.out _; refine blk_far ?_ NBz4.out _; refine blk_far ?_ NBz4.out _; refine blk_far ?_ NBz4.out _; exact BKz0.out⟩
      have n6_ : Aside0 (((((w49.setCell ⟨gbz0, 0, none⟩ (.int .i64 tz4)).setCell ⟨gbz0, 1, none⟩ (.int .i64 tz5)).setCell ⟨gbz0, 2, none⟩ (.int .i64 tz7)).setCell ⟨gbz0, 3, none⟩ (.slice Ao55 tz6.length co55)).heap[gbz0]? = some (.cells #[.int .i64 tz4, .int .i64 tz5, .int .i64 tz7, .slice Ao55 tz6.length co55] 27 (0, 0))) := ⟨by refine blk_put (cs := #[.int .i64 tz4, .int .i64 tz5, .int .i64 tz7, u86015003]) ?_ 3 _ rfl; refine blk_put (cs := #[.int .i64 tz4, .int .i64 tz5, .int .i64 tz2, u86015003]) ?_ 2 _ rfl; refine blk_put (cs := #[.int .i64 tz4, .int .i64 tz1, .int .i64 tz2, u86015003]) ?_ 1 _ rfl; refine blk_put (cs := #[.int .i64 tz0, .int .i64 tz1, .int .i64 tz2, u86015003]) ?_ 0 _ rfl; exact BKz3.out⟩
      have n7_ : Aside0 (IsS144 w0 ((((w49.setCell ⟨gbz0, 0, none⟩ (.int .i64 tz4)).setCell ⟨gbz0, 1, none⟩ (.int .i64 tz5)).setCell ⟨gbz0, 2, none⟩ (.int .i64 tz7)).setCell ⟨gbz0, 3, none⟩ (.slice Ao55 tz6.length co55)) g s0_0 tz18) := ⟨by repeat (with_reducible first | exact HI0.out | refine IsS144.far ?_ NBz13.out _)⟩
      have n8_ : Aside0 (KeepBut w ((((w49.setCell ⟨gbz0, 0, none⟩ (.int .i64 tz4)).setCell ⟨gbz0, 1, none⟩ (.int .i64 tz5)).setCell ⟨gbz0, 2, none⟩ (.int .i64 tz7)).setCell ⟨gbz0, 3, none⟩ (.slice Ao55 tz6.length co55)) g none) := ⟨by repeat (with_reducible first | exact HK.out | refine keep_far ?_ GWz0.out _)⟩
      have n9_ : Aside0 (Below w0.heap.size w0 ((((w49.setCell ⟨gbz0, 0, none⟩ (.int .i64 tz4)).setCell ⟨gbz0, 1, none⟩ (.int .i64 tz5)).setCell ⟨gbz0, 2, none⟩ (.int .i64 tz7)).setCell ⟨gbz0, 3, none⟩ (.slice Ao55 tz6.length co55))) := ⟨by repeat (with_reducible first | exact HB.out | refine below_set ?_ GEz0.out)⟩
      (try clear HOz1)
      (try clear HOz0)
      (try clear HOz4)
      (try clear BKz1)
      (try clear BKz2)
      (try clear BKz0)
      (try clear BKz3)
      (try clear HI0)
      (try clear HK)
      (try clear HB)
      generalize ((((w49.setCell ⟨gbz0, 0, none⟩ (.int .i64 tz4)).setCell ⟨gbz0, 1, none⟩ (.int .i64 tz5)).setCell ⟨gbz0, 2, none⟩ (.int .i64 tz7)).setCell ⟨gbz0, 3, none⟩ (.slice Ao55 tz6.length co55)) = w56 at n0_ n1_ n2_ n3_ n4_ n5_ n6_ n7_ n8_ n9_ ⊢
      revert n0_ n1_ n2_ n3_ n4_ n5_ n6_ n7_ n8_ n9_; intro HOz1 HOz0 HOz4 BKz1 BKz2 BKz0 BKz3 HI0 HK HB
      replace HOz1 := mk (Kd.Q_drew HOz1.out)
      replace HOz0 := mk (Kd.Q_drew HOz0.out)
      replace HOz4 := mk (Kd.Q_drew HOz4.out)
      replace BKz1 := mk (blk_drew BKz1.out)
      replace BKz2 := mk (blk_drew BKz2.out)
      replace BKz0 := mk (blk_drew BKz0.out)
      replace BKz3 := mk (blk_drew BKz3.out)
      replace HI0 := mk (IsS144.drew HI0.out)
      replace HK := mk (keep_drew HK.out)
      replace HB := mk (below_drew1 HB.out)
      obtain ⟨Ao61, co61, eo61, _⟩ := Kd.Q_slice HOz1.out
      (subst eo61)
      refine start_ (n := 4) (S := fun w' => w'.cell? ⟨gbz3, 0, none⟩ = some (.int .i64 tz0) ∧ w'.cell? ⟨gbz3, 1, none⟩ = some (.int .i64 tz1) ∧ w'.cell? ⟨gbz3, 2, none⟩ = some (.int .i64 tz2) ∧ w'.cell? ⟨gbz3, 3, none⟩ = some (.slice Ao61 xz1.length co61) ∧ w'.cell? ⟨gbz0, 0, none⟩ = some (.int .i64 tz4) ∧ w'.cell? ⟨gbz0, 1, none⟩ = some (.int .i64 tz5) ∧ w'.cell? ⟨gbz0, 2, none⟩ = some (.int .i64 tz7) ∧ w'.cell? ⟨gbz0, 3, none⟩ = some (.slice Ao55 tz6.length co55)) (ds := []) #[false, false, false, false] (by kernel_rfl) rfl rfl ⟨blk_cell BKz0.out 0, blk_cell BKz0.out 1, blk_cell BKz0.out 2, blk_cell BKz0.out 3, blk_cell BKz3.out 0, blk_cell BKz3.out 1, blk_cell BKz3.out 2, blk_cell BKz3.out 3⟩ (fun hHeld => ?_)
      generalize w56.drew = w57 at HOz1 HOz0 HOz4 BKz1 BKz2 BKz0 BKz3 HI0 HK HB hHeld ⊢
      refine tk 0 46 ?_ ?_ rfl rfl (by kernel_rfl) (Or.inl ⟨by rfl, ?_⟩) hHeld ?_ ?_
      rotate_left 2
      ·rintro w' ⟨s0, s1, s2, s3, s4, s5, s6, s7⟩
       go_simp
       with_reducible rfl
      ·simp only [seval]
       rfl
      refine tk 1 47 ?_ ?_ rfl rfl (by kernel_rfl) (Or.inl ⟨by rfl, ?_⟩) hHeld ?_ ?_
      rotate_left 2
      ·rintro w' ⟨s0, s1, s2, s3, s4, s5, s6, s7⟩
       go_simp
       with_reducible rfl
      ·simp only [seval]
       rfl
      refine one_ (i := 2) (N := none) #[true, true, true, false] rfl rfl (by kernel_rfl) (by decide) (fun K hK => ?_)
      obtain ⟨hs58, -, -, -, hfs58, -⟩ := c4 BKz1.out
      have hns58_1 := NBz6.out
      have hns58_2 := NBz2.out
      have hns58_3 := NBz0.out
      have hms58_1 := NBz5.out
      have hms58_2 := NBz9.out
      have hms58_3 := NBz7.out
      obtain ⟨-, hs59, -, -, -, hfs59, -⟩ := c4 BKz1.out
      have hns59_1 := NBz6.out
      have hns59_2 := NBz2.out
      have hns59_3 := NBz0.out
      have hms59_1 := NBz5.out
      have hms59_2 := NBz9.out
      have hms59_3 := NBz7.out
      obtain ⟨-, -, hs60, -, -, -, hfs60, -⟩ := c4 BKz1.out
      have hns60_1 := NBz6.out
      have hns60_2 := NBz2.out
      have hns60_3 := NBz0.out
      have hms60_1 := NBz5.out
      have hms60_2 := NBz9.out
      have hms60_3 := NBz7.out
      obtain ⟨-, -, -, hs62, -, -, -, hfs62⟩ := c4 BKz1.out
      have hns62_1 := NBz6.out
      have hns62_2 := NBz2.out
      have hns62_3 := NBz0.out
      have hms62_1 := NBz5.out
      have hms62_2 := NBz9.out
      have hms62_3 := NBz7.out
      refine skip_ (w1 := ?_) (by rfl) rfl ?_ ?_
      rotate_left
      ·go_simp
       rfl
      refine hK.out _ _ ⟨((cell_far (p := ⟨gbz1, _, none⟩) NBz2.out _).trans (((cell_far (p := ⟨gbz1, _, none⟩) NBz2.out _).trans (((cell_far (p := ⟨gbz1, _, none⟩) NBz2.out _).trans (((cell_far (p := ⟨gbz1, _, none⟩) NBz2.out _).trans hHeld.1))))))), ((cell_far (p := ⟨gbz1, _, none⟩) NBz2.out _).trans (((cell_far (p := ⟨gbz1, _, none⟩) NBz2.out _).trans (((cell_far (p := ⟨gbz1, _, none⟩) NBz2.out _).trans (((cell_far (p := ⟨gbz1, _, none⟩) NBz2.out _).trans hHeld.2.1))))))), ((cell_far (p := ⟨gbz1, _, none⟩) NBz2.out _).trans (((cell_far (p := ⟨gbz1, _, none⟩) NBz2.out _).trans (((cell_far (p := ⟨gbz1, _, none⟩) NBz2.out _).trans (((cell_far (p := ⟨gbz1, _, none⟩) NBz2.out _).trans hHeld.2.2.1))))))), ((cell_far (p := ⟨gbz1, _, none⟩) NBz2.out _).trans (((cell_far (p := ⟨gbz1, _, none⟩) NBz2.out _).trans (((cell_far (p := ⟨gbz1, _, none⟩) NBz2.out _).trans (((cell_far (p := ⟨gbz1, _, none⟩) NBz2.out _).trans hHeld.2.2.2.1))))))), ((cell_far (p := ⟨gbz1, _, none⟩) NBz0.out _).trans (((cell_far (p := ⟨gbz1, _, none⟩) NBz0.out _).trans (((cell_far (p := ⟨gbz1, _, none⟩) NBz0.out _).trans (((cell_far (p := ⟨gbz1, _, none⟩) NBz0.out _).trans hHeld.2.2.2.2.1))))))), ((cell_far (p := ⟨gbz1, _, none⟩) NBz0.out _).trans (((cell_far (p := ⟨gbz1, _, none⟩) NBz0.out _).trans (((cell_far (p := ⟨gbz1, _, none⟩) NBz0.out _).trans (((cell_far (p := ⟨gbz1, _, none⟩) NBz0.out _).trans hHeld.2.2.2.2.2.1))))))), ((cell_far (p := ⟨gbz1, _, none⟩) NBz0.out _).trans (((cell_far (p := ⟨gbz1, _, none⟩) NBz0.out _).trans (((cell_far (p := ⟨gbz1, _, none⟩) NBz0.out _).trans (((cell_far (p := ⟨gbz1, _, none⟩) NBz0.out _).trans hHeld.2.2.2.2.2.2.1))))))), ((cell_far (p := ⟨gbz1, _, none⟩) NBz0.out _).trans (((cell_far (p := ⟨gbz1, _, none⟩) NBz0.out _).trans (((cell_far (p := ⟨gbz1, _, none⟩) NBz0.out _).trans (((cell_far (p := ⟨gbz1, _, none⟩) NBz0.out _).trans hHeld.2.2.2.2.2.2.2)))))))⟩ (fun hHeld => ?_)
      clear hK K
      refine one_ (i := 3) (N := none) #[true, true, true, true] rfl rfl (by kernel_rfl) (by decide) (fun K hK => ?_)
      obtain ⟨hs63, -, -, -, hfs63, -⟩ := c4 BKz2.out
      have hns63_0 := NBz5.out
      have hns63_2 := NBz3.out
      have hns63_3 := NBz1.out
      have hms63_0 := NBz6.out
      have hms63_2 := NBz10.out
      have hms63_3 := NBz8.out
      obtain ⟨-, hs64, -, -, -, hfs64, -⟩ := c4 BKz2.out
      have hns64_0 := NBz5.out
      have hns64_2 := NBz3.out
      have hns64_3 := NBz1.out
      have hms64_0 := NBz6.out
      have hms64_2 := NBz10.out
      have hms64_3 := NBz8.out
      obtain ⟨-, -, hs65, -, -, -, hfs65, -⟩ := c4 BKz2.out
      have hns65_0 := NBz5.out
      have hns65_2 := NBz3.out
      have hns65_3 := NBz1.out
      have hms65_0 := NBz6.out
      have hms65_2 := NBz10.out
      have hms65_3 := NBz8.out
      obtain ⟨-, -, -, hs66, -, -, -, hfs66⟩ := c4 BKz2.out
      have hns66_0 := NBz5.out
      have hns66_2 := NBz3.out
      have hns66_3 := NBz1.out
      have hms66_0 := NBz6.out
      have hms66_2 := NBz10.out
      have hms66_3 := NBz8.out
      refine skip_ (w1 := ?_) (by rfl) rfl ?_ ?_
      rotate_left
      ·go_simp
       rfl
      refine hK.out _ _ ⟨((cell_far (p := ⟨gbz2, _, none⟩) NBz3.out _).trans (((cell_far (p := ⟨gbz2, _, none⟩) NBz3.out _).trans (((cell_far (p := ⟨gbz2, _, none⟩) NBz3.out _).trans (((cell_far (p := ⟨gbz2, _, none⟩) NBz3.out _).trans hHeld.1))))))), ((cell_far (p := ⟨gbz2, _, none⟩) NBz3.out _).trans (((cell_far (p := ⟨gbz2, _, none⟩) NBz3.out _).trans (((cell_far (p := ⟨gbz2, _, none⟩) NBz3.out _).trans (((cell_far (p := ⟨gbz2, _, none⟩) NBz3.out _).trans hHeld.2.1))))))), ((cell_far (p := ⟨gbz2, _, none⟩) NBz3.out _).trans (((cell_far (p := ⟨gbz2, _, none⟩) NBz3.out _).trans (((cell_far (p := ⟨gbz2, _, none⟩) NBz3.out _).trans (((cell_far (p := ⟨gbz2, _, none⟩) NBz3.out _).trans hHeld.2.2.1))))))), ((cell_far (p := ⟨gbz2, _, none⟩) NBz3.out _).trans (((cell_far (p := ⟨gbz2, _, none⟩) NBz3.out _).trans (((cell_far (p := ⟨gbz2, _, none⟩) NBz3.out _).trans (((cell_far (p := ⟨gbz2, _, none⟩) NBz3.out _).trans hHeld.2.2.2.1))))))), ((cell_far (p := ⟨gbz2, _, none⟩) NBz1.out _).trans (((cell_far (p := ⟨gbz2, _, none⟩) NBz1.out _).trans (((cell_far (p := ⟨gbz2, _, none⟩) NBz1.out _).trans (((cell_far (p := ⟨gbz2, _, none⟩) NBz1.out _).trans hHeld.2.2.2.2.1))))))), ((cell_far (p := ⟨gbz2, _, none⟩) NBz1.out _).trans (((cell_far (p := ⟨gbz2, _, none⟩) NBz1.out _).trans (((cell_far (p := ⟨gbz2, _, none⟩) NBz1.out _).trans (((cell_far (p := ⟨gbz2, _, none⟩) NBz1.out _).trans hHeld.2.2.2.2.2.1))))))), ((cell_far (p := ⟨gbz2, _, none⟩) NBz1.out _).trans (((cell_far (p := ⟨gbz2, _, none⟩) NBz1.out _).trans (((cell_far (p := ⟨gbz2, _, none⟩) NBz1.out _).trans (((cell_far (p := ⟨gbz2, _, none⟩) NBz1.out _).trans hHeld.2.2.2.2.2.2.1))))))), ((cell_far (p := ⟨gbz2, _, none⟩) NBz1.out _).trans (((cell_far (p := ⟨gbz2, _, none⟩) NBz1.out _).trans (((cell_far (p := ⟨gbz2, _, none⟩) NBz1.out _).trans (((cell_far (p := ⟨gbz2, _, none⟩) NBz1.out _).trans hHeld.2.2.2.2.2.2.2)))))))⟩ (fun hHeld => ?_)
      clear hK K
      refine done_ (by kernel_rfl) ?_
      try go_wp2
      refine bodyPost_ret (results_cc rfl _ _ gbz1 gbz2 27 27 #[.int .i64 tz0, .int .i64 tz1, .int .i64 tz2, .slice Ao61 xz1.length co61] #[.int .i64 tz4, .int .i64 tz5, .int .i64 tz7, .slice Ao55 tz6.length co55] (0, 0) (0, 0) _ _ rfl (by refine blk_far ?_ NBz5.out _; refine blk_far ?_ NBz5.out _; refine blk_far ?_ NBz5.out _; refine blk_far ?_ NBz5.out _; refine blk_put (cs := #[.int .i64 tz0, .int .i64 tz1, .int .i64 tz2, .slice none 0 0]) ?_ 3 _ rfl; refine blk_put (cs := #[.int .i64 tz0, .int .i64 tz1, .int .i64 0, .slice none 0 0]) ?_ 2 _ rfl; refine blk_put (cs := #[.int .i64 tz0, .int .i64 0, .int .i64 0, .slice none 0 0]) ?_ 1 _ rfl; refine blk_put (cs := #[.int .i64 0, .int .i64 0, .int .i64 0, .slice none 0 0]) ?_ 0 _ rfl; exact BKz1.out) Try.underlying27 rfl (by kernel_rfl) rfl (by refine blk_put (cs := #[.int .i64 tz4, .int .i64 tz5, .int .i64 tz7, .slice none 0 0]) ?_ 3 _ rfl; refine blk_put (cs := #[.int .i64 tz4, .int .i64 tz5, .int .i64 0, .slice none 0 0]) ?_ 2 _ rfl; refine blk_put (cs := #[.int .i64 tz4, .int .i64 0, .int .i64 0, .slice none 0 0]) ?_ 1 _ rfl; refine blk_put (cs := #[.int .i64 0, .int .i64 0, .int .i64 0, .slice none 0 0]) ?_ 0 _ rfl; refine blk_far ?_ NBz6.out _; refine blk_far ?_ NBz6.out _; refine blk_far ?_ NBz6.out _; refine blk_far ?_ NBz6.out _; exact BKz2.out) Try.underlying27 rfl (by kernel_rfl)) rfl ?_
      exact ⟨_, _, by rfl, by exact Kd.Q_mono (Kd.Q_far (p := ⟨gbz2, 3, none⟩) (Kd.Q_far (p := ⟨gbz2, 2, none⟩) (Kd.Q_far (p := ⟨gbz2, 1, none⟩) (Kd.Q_far (p := ⟨gbz2, 0, none⟩) (Kd.Q_far (p := ⟨gbz1, 3, none⟩) (Kd.Q_far (p := ⟨gbz1, 2, none⟩) (Kd.Q_far (p := ⟨gbz1, 1, none⟩) (Kd.Q_far (p := ⟨gbz1, 0, none⟩) (Kd.Q_types (Kd.Q_types HOz1.out BKz1.out (by decide)) BKz2.out (by decide)) (fun _ hk => hk.1.2) (.int .i64 tz0)) (fun _ hk => hk.1.2) (.int .i64 tz1)) (fun _ hk => hk.1.2) (.int .i64 tz2)) (fun _ hk => hk.1.2) (.slice Ao61 xz1.length co61)) (fun _ hk => hk.2) (.int .i64 tz4)) (fun _ hk => hk.2) (.int .i64 tz5)) (fun _ hk => hk.2) (.int .i64 tz7)) (fun _ hk => hk.2) (.slice Ao55 tz6.length co55)) (fun _ hk => hk.1.1.2), by exact Kd.Q_mono (Kd.Q_far (p := ⟨gbz2, 3, none⟩) (Kd.Q_far (p := ⟨gbz2, 2, none⟩) (Kd.Q_far (p := ⟨gbz2, 1, none⟩) (Kd.Q_far (p := ⟨gbz2, 0, none⟩) (Kd.Q_far (p := ⟨gbz1, 3, none⟩) (Kd.Q_far (p := ⟨gbz1, 2, none⟩) (Kd.Q_far (p := ⟨gbz1, 1, none⟩) (Kd.Q_far (p := ⟨gbz1, 0, none⟩) (Kd.Q_types (Kd.Q_types HOz4.out BKz1.out (by decide)) BKz2.out (by decide)) (fun _ hk => hk.1.2) (.int .i64 tz0)) (fun _ hk => hk.1.2) (.int .i64 tz1)) (fun _ hk => hk.1.2) (.int .i64 tz2)) (fun _ hk => hk.1.2) (.slice Ao61 xz1.length co61)) (fun _ hk => hk.2) (.int .i64 tz4)) (fun _ hk => hk.2) (.int .i64 tz5)) (fun _ hk => hk.2) (.int .i64 tz7)) (fun _ hk => hk.2) (.slice Ao55 tz6.length co55)) (fun _ hk => hk.1.1.1), by repeat (with_reducible first | exact HI0.out | refine IsS144.far ?_ NBz17.out _ | refine IsS144.far ?_ NBz18.out _), by repeat (with_reducible first | exact HB.out | refine below_set ?_ GEz1.out | refine below_set ?_ GEz2.out), by repeat (with_reducible first | exact HK.out | refine keep_far ?_ GWz1.out _ | refine keep_far ?_ GWz2.out _)⟩
     rw [if_neg c46] at H
     have c46b0 : (tz11 == 0) = false := beq_eq_false_iff_ne.mpr c46
     have c46b1 : (tz11 != 0) = true := bne_iff_ne.mpr c46
     simp only [Option.some.injEq, Prod.mk.injEq] at H
     obtain ⟨rfl, rfl, rfl, rfl, rfl, rfl, rfl, rfl, rfl⟩ := H
     try go_wp2_with (first | ((with_reducible refine gate_callee (f := 127) rfl ?_); refine goesL_ (some 42) rfl rfl Try.func127 (by kernel_rfl) rfl #[.pointer (some ⟨g, 0, none⟩), .int .i64 16] rfl (by (try simp only [bitvec_to_nat]); rfl) ?_; (with_reducible refine (spec_reader_pick.calls kj25 g s0_0 x1001_1 16 tz11 tz12 w0 _ ?side1 ?side2 A45.out).mono ?_); (case side1 => repeat (with_reducible exact HI0.out)); (case side2 => repeat (with_reducible exact HB.out)); rintro e w67 ⟨rfl, hi, hb, hk⟩; refine ⟨_, rfl, ?_⟩; replace HOz1 := mk (Kd.Q_mono (Kd.Q_keep (IsS144.apartQ (show IsS144 w0 _ g s0_0 x1001_1 from by exact HI0.out) HOz1.out (by decide)) hk (fun _ h => h.2)) (fun _ h => h.1)); replace HOz0 := mk (Kd.Q_mono (Kd.Q_keep (IsS144.apartQ (show IsS144 w0 _ g s0_0 x1001_1 from by exact HI0.out) HOz0.out (by decide)) hk (fun _ h => h.2)) (fun _ h => h.1)); replace BKz1 := mk (KeepBut.blk hk (g' := gbz1) (o := .cells #[.int .i64 0, .int .i64 0, .int .i64 0, .slice none 0 0] 27 (0, 0)) BKz1.out NBz14.out (by simp)); replace BKz2 := mk (KeepBut.blk hk (g' := gbz2) (o := .cells #[.int .i64 0, .int .i64 0, .int .i64 0, .slice none 0 0] 27 (0, 0)) BKz2.out NBz15.out (by simp)); replace BKz0 := mk (KeepBut.blk hk (g' := gbz3) (o := .cells #[.int .i64 tz0, .int .i64 tz1, .int .i64 tz2, u86011003] 27 (0, 0)) BKz0.out NBz16.out (by simp)); replace BKz3 := mk (KeepBut.blk hk (g' := gbz0) (o := .cells #[.int .i64 tz0, .int .i64 tz1, .int .i64 tz2, u86015003] 27 (0, 0)) BKz3.out NBz12.out (by simp)); replace HK := mk (KeepBut.trans HK.out hk (.inl rfl)); replace HB := mk (hb); replace HI0 := mk (hi); (try clear hb); (try clear hk); (try clear hi)))
     replace HOz1 := mk (Kd.Q_drew HOz1.out)
     replace HOz0 := mk (Kd.Q_drew HOz0.out)
     replace BKz1 := mk (blk_drew BKz1.out)
     replace BKz2 := mk (blk_drew BKz2.out)
     replace BKz0 := mk (blk_drew BKz0.out)
     replace BKz3 := mk (blk_drew BKz3.out)
     replace HI0 := mk (IsS144.drew HI0.out)
     replace HK := mk (keep_drew HK.out)
     replace HB := mk (below_drew1 HB.out)
     obtain ⟨Ao72, co72, eo72, _⟩ := Kd.Q_slice HOz1.out
     (subst eo72)
     obtain ⟨Ao77, co77, eo77, _⟩ := Kd.Q_slice HOz0.out
     (subst eo77)
     refine start_ (n := 4) (S := fun w' => w'.cell? ⟨gbz3, 0, none⟩ = some (.int .i64 tz0) ∧ w'.cell? ⟨gbz3, 1, none⟩ = some (.int .i64 tz1) ∧ w'.cell? ⟨gbz3, 2, none⟩ = some (.int .i64 tz2) ∧ w'.cell? ⟨gbz3, 3, none⟩ = some (.slice Ao72 xz1.length co72) ∧ w'.cell? ⟨gbz0, 0, none⟩ = some (.int .i64 tz0) ∧ w'.cell? ⟨gbz0, 1, none⟩ = some (.int .i64 tz1) ∧ w'.cell? ⟨gbz0, 2, none⟩ = some (.int .i64 tz2) ∧ w'.cell? ⟨gbz0, 3, none⟩ = some (.slice Ao77 xz0.length co77)) (ds := []) #[false, false, false, false] (by kernel_rfl) rfl rfl ⟨blk_cell BKz0.out 0, blk_cell BKz0.out 1, blk_cell BKz0.out 2, blk_cell BKz0.out 3, blk_cell BKz3.out 0, blk_cell BKz3.out 1, blk_cell BKz3.out 2, blk_cell BKz3.out 3⟩ (fun hHeld => ?_)
     generalize w67.drew = w68 at HOz1 HOz0 BKz1 BKz2 BKz0 BKz3 HI0 HK HB hHeld ⊢
     refine tk 0 46 ?_ ?_ rfl rfl (by kernel_rfl) (Or.inl ⟨by rfl, ?_⟩) hHeld ?_ ?_
     rotate_left 2
     ·rintro w' ⟨s0, s1, s2, s3, s4, s5, s6, s7⟩
      go_simp
      with_reducible rfl
     ·simp only [seval]
      rfl
     refine tk 1 47 ?_ ?_ rfl rfl (by kernel_rfl) (Or.inl ⟨by rfl, ?_⟩) hHeld ?_ ?_
     rotate_left 2
     ·rintro w' ⟨s0, s1, s2, s3, s4, s5, s6, s7⟩
      go_simp
      with_reducible rfl
     ·simp only [seval]
      rfl
     refine one_ (i := 2) (N := none) #[true, true, true, false] rfl rfl (by kernel_rfl) (by decide) (fun K hK => ?_)
     obtain ⟨hs69, -, -, -, hfs69, -⟩ := c4 BKz1.out
     have hns69_1 := NBz6.out
     have hns69_2 := NBz2.out
     have hns69_3 := NBz0.out
     have hms69_1 := NBz5.out
     have hms69_2 := NBz9.out
     have hms69_3 := NBz7.out
     obtain ⟨-, hs70, -, -, -, hfs70, -⟩ := c4 BKz1.out
     have hns70_1 := NBz6.out
     have hns70_2 := NBz2.out
     have hns70_3 := NBz0.out
     have hms70_1 := NBz5.out
     have hms70_2 := NBz9.out
     have hms70_3 := NBz7.out
     obtain ⟨-, -, hs71, -, -, -, hfs71, -⟩ := c4 BKz1.out
     have hns71_1 := NBz6.out
     have hns71_2 := NBz2.out
     have hns71_3 := NBz0.out
     have hms71_1 := NBz5.out
     have hms71_2 := NBz9.out
     have hms71_3 := NBz7.out
     obtain ⟨-, -, -, hs73, -, -, -, hfs73⟩ := c4 BKz1.out
     have hns73_1 := NBz6.out
     have hns73_2 := NBz2.out
     have hns73_3 := NBz0.out
     have hms73_1 := NBz5.out
     have hms73_2 := NBz9.out
     have hms73_3 := NBz7.out
     refine skip_ (w1 := ?_) (by rfl) rfl ?_ ?_
     rotate_left
     ·go_simp
      rfl
     refine hK.out _ _ ⟨((cell_far (p := ⟨gbz1, _, none⟩) NBz2.out _).trans (((cell_far (p := ⟨gbz1, _, none⟩) NBz2.out _).trans (((cell_far (p := ⟨gbz1, _, none⟩) NBz2.out _).trans (((cell_far (p := ⟨gbz1, _, none⟩) NBz2.out _).trans hHeld.1))))))), ((cell_far (p := ⟨gbz1, _, none⟩) NBz2.out _).trans (((cell_far (p := ⟨gbz1, _, none⟩) NBz2.out _).trans (((cell_far (p := ⟨gbz1, _, none⟩) NBz2.out _).trans (((cell_far (p := ⟨gbz1, _, none⟩) NBz2.out _).trans hHeld.2.1))))))), ((cell_far (p := ⟨gbz1, _, none⟩) NBz2.out _).trans (((cell_far (p := ⟨gbz1, _, none⟩) NBz2.out _).trans (((cell_far (p := ⟨gbz1, _, none⟩) NBz2.out _).trans (((cell_far (p := ⟨gbz1, _, none⟩) NBz2.out _).trans hHeld.2.2.1))))))), ((cell_far (p := ⟨gbz1, _, none⟩) NBz2.out _).trans (((cell_far (p := ⟨gbz1, _, none⟩) NBz2.out _).trans (((cell_far (p := ⟨gbz1, _, none⟩) NBz2.out _).trans (((cell_far (p := ⟨gbz1, _, none⟩) NBz2.out _).trans hHeld.2.2.2.1))))))), ((cell_far (p := ⟨gbz1, _, none⟩) NBz0.out _).trans (((cell_far (p := ⟨gbz1, _, none⟩) NBz0.out _).trans (((cell_far (p := ⟨gbz1, _, none⟩) NBz0.out _).trans (((cell_far (p := ⟨gbz1, _, none⟩) NBz0.out _).trans hHeld.2.2.2.2.1))))))), ((cell_far (p := ⟨gbz1, _, none⟩) NBz0.out _).trans (((cell_far (p := ⟨gbz1, _, none⟩) NBz0.out _).trans (((cell_far (p := ⟨gbz1, _, none⟩) NBz0.out _).trans (((cell_far (p := ⟨gbz1, _, none⟩) NBz0.out _).trans hHeld.2.2.2.2.2.1))))))), ((cell_far (p := ⟨gbz1, _, none⟩) NBz0.out _).trans (((cell_far (p := ⟨gbz1, _, none⟩) NBz0.out _).trans (((cell_far (p := ⟨gbz1, _, none⟩) NBz0.out _).trans (((cell_far (p := ⟨gbz1, _, none⟩) NBz0.out _).trans hHeld.2.2.2.2.2.2.1))))))), ((cell_far (p := ⟨gbz1, _, none⟩) NBz0.out _).trans (((cell_far (p := ⟨gbz1, _, none⟩) NBz0.out _).trans (((cell_far (p := ⟨gbz1, _, none⟩) NBz0.out _).trans (((cell_far (p := ⟨gbz1, _, none⟩) NBz0.out _).trans hHeld.2.2.2.2.2.2.2)))))))⟩ (fun hHeld => ?_)
     clear hK K
     refine one_ (i := 3) (N := none) #[true, true, true, true] rfl rfl (by kernel_rfl) (by decide) (fun K hK => ?_)
     obtain ⟨hs74, -, -, -, hfs74, -⟩ := c4 BKz2.out
     have hns74_0 := NBz5.out
     have hns74_2 := NBz3.out
     have hns74_3 := NBz1.out
     have hms74_0 := NBz6.out
     have hms74_2 := NBz10.out
     have hms74_3 := NBz8.out
     obtain ⟨-, hs75, -, -, -, hfs75, -⟩ := c4 BKz2.out
     have hns75_0 := NBz5.out
     have hns75_2 := NBz3.out
     have hns75_3 := NBz1.out
     have hms75_0 := NBz6.out
     have hms75_2 := NBz10.out
     have hms75_3 := NBz8.out
     obtain ⟨-, -, hs76, -, -, -, hfs76, -⟩ := c4 BKz2.out
     have hns76_0 := NBz5.out
     have hns76_2 := NBz3.out
     have hns76_3 := NBz1.out
     have hms76_0 := NBz6.out
     have hms76_2 := NBz10.out
     have hms76_3 := NBz8.out
     obtain ⟨-, -, -, hs78, -, -, -, hfs78⟩ := c4 BKz2.out
     have hns78_0 := NBz5.out
     have hns78_2 := NBz3.out
     have hns78_3 := NBz1.out
     have hms78_0 := NBz6.out
     have hms78_2 := NBz10.out
     have hms78_3 := NBz8.out
     refine skip_ (w1 := ?_) (by rfl) rfl ?_ ?_
     rotate_left
     ·go_simp
      rfl
     refine hK.out _ _ ⟨((cell_far (p := ⟨gbz2, _, none⟩) NBz3.out _).trans (((cell_far (p := ⟨gbz2, _, none⟩) NBz3.out _).trans (((cell_far (p := ⟨gbz2, _, none⟩) NBz3.out _).trans (((cell_far (p := ⟨gbz2, _, none⟩) NBz3.out _).trans hHeld.1))))))), ((cell_far (p := ⟨gbz2, _, none⟩) NBz3.out _).trans (((cell_far (p := ⟨gbz2, _, none⟩) NBz3.out _).trans (((cell_far (p := ⟨gbz2, _, none⟩) NBz3.out _).trans (((cell_far (p := ⟨gbz2, _, none⟩) NBz3.out _).trans hHeld.2.1))))))), ((cell_far (p := ⟨gbz2, _, none⟩) NBz3.out _).trans (((cell_far (p := ⟨gbz2, _, none⟩) NBz3.out _).trans (((cell_far (p := ⟨gbz2, _, none⟩) NBz3.out _).trans (((cell_far (p := ⟨gbz2, _, none⟩) NBz3.out _).trans hHeld.2.2.1))))))), ((cell_far (p := ⟨gbz2, _, none⟩) NBz3.out _).trans (((cell_far (p := ⟨gbz2, _, none⟩) NBz3.out _).trans (((cell_far (p := ⟨gbz2, _, none⟩) NBz3.out _).trans (((cell_far (p := ⟨gbz2, _, none⟩) NBz3.out _).trans hHeld.2.2.2.1))))))), ((cell_far (p := ⟨gbz2, _, none⟩) NBz1.out _).trans (((cell_far (p := ⟨gbz2, _, none⟩) NBz1.out _).trans (((cell_far (p := ⟨gbz2, _, none⟩) NBz1.out _).trans (((cell_far (p := ⟨gbz2, _, none⟩) NBz1.out _).trans hHeld.2.2.2.2.1))))))), ((cell_far (p := ⟨gbz2, _, none⟩) NBz1.out _).trans (((cell_far (p := ⟨gbz2, _, none⟩) NBz1.out _).trans (((cell_far (p := ⟨gbz2, _, none⟩) NBz1.out _).trans (((cell_far (p := ⟨gbz2, _, none⟩) NBz1.out _).trans hHeld.2.2.2.2.2.1))))))), ((cell_far (p := ⟨gbz2, _, none⟩) NBz1.out _).trans (((cell_far (p := ⟨gbz2, _, none⟩) NBz1.out _).trans (((cell_far (p := ⟨gbz2, _, none⟩) NBz1.out _).trans (((cell_far (p := ⟨gbz2, _, none⟩) NBz1.out _).trans hHeld.2.2.2.2.2.2.1))))))), ((cell_far (p := ⟨gbz2, _, none⟩) NBz1.out _).trans (((cell_far (p := ⟨gbz2, _, none⟩) NBz1.out _).trans (((cell_far (p := ⟨gbz2, _, none⟩) NBz1.out _).trans (((cell_far (p := ⟨gbz2, _, none⟩) NBz1.out _).trans hHeld.2.2.2.2.2.2.2)))))))⟩ (fun hHeld => ?_)
     clear hK K
     refine done_ (by kernel_rfl) ?_
     try go_wp2
     refine bodyPost_ret (results_cc rfl _ _ gbz1 gbz2 27 27 #[.int .i64 tz0, .int .i64 tz1, .int .i64 tz2, .slice Ao72 xz1.length co72] #[.int .i64 tz0, .int .i64 tz1, .int .i64 tz2, .slice Ao77 xz0.length co77] (0, 0) (0, 0) _ _ rfl (by refine blk_far ?_ NBz5.out _; refine blk_far ?_ NBz5.out _; refine blk_far ?_ NBz5.out _; refine blk_far ?_ NBz5.out _; refine blk_put (cs := #[.int .i64 tz0, .int .i64 tz1, .int .i64 tz2, .slice none 0 0]) ?_ 3 _ rfl; refine blk_put (cs := #[.int .i64 tz0, .int .i64 tz1, .int .i64 0, .slice none 0 0]) ?_ 2 _ rfl; refine blk_put (cs := #[.int .i64 tz0, .int .i64 0, .int .i64 0, .slice none 0 0]) ?_ 1 _ rfl; refine blk_put (cs := #[.int .i64 0, .int .i64 0, .int .i64 0, .slice none 0 0]) ?_ 0 _ rfl; exact BKz1.out) Try.underlying27 rfl (by kernel_rfl) rfl (by refine blk_put (cs := #[.int .i64 tz0, .int .i64 tz1, .int .i64 tz2, .slice none 0 0]) ?_ 3 _ rfl; refine blk_put (cs := #[.int .i64 tz0, .int .i64 tz1, .int .i64 0, .slice none 0 0]) ?_ 2 _ rfl; refine blk_put (cs := #[.int .i64 tz0, .int .i64 0, .int .i64 0, .slice none 0 0]) ?_ 1 _ rfl; refine blk_put (cs := #[.int .i64 0, .int .i64 0, .int .i64 0, .slice none 0 0]) ?_ 0 _ rfl; refine blk_far ?_ NBz6.out _; refine blk_far ?_ NBz6.out _; refine blk_far ?_ NBz6.out _; refine blk_far ?_ NBz6.out _; exact BKz2.out) Try.underlying27 rfl (by kernel_rfl)) rfl ?_
     exact ⟨_, _, by rfl, by exact Kd.Q_mono (Kd.Q_far (p := ⟨gbz2, 3, none⟩) (Kd.Q_far (p := ⟨gbz2, 2, none⟩) (Kd.Q_far (p := ⟨gbz2, 1, none⟩) (Kd.Q_far (p := ⟨gbz2, 0, none⟩) (Kd.Q_far (p := ⟨gbz1, 3, none⟩) (Kd.Q_far (p := ⟨gbz1, 2, none⟩) (Kd.Q_far (p := ⟨gbz1, 1, none⟩) (Kd.Q_far (p := ⟨gbz1, 0, none⟩) (Kd.Q_types (Kd.Q_types HOz1.out BKz1.out (by decide)) BKz2.out (by decide)) (fun _ hk => hk.1.2) (.int .i64 tz0)) (fun _ hk => hk.1.2) (.int .i64 tz1)) (fun _ hk => hk.1.2) (.int .i64 tz2)) (fun _ hk => hk.1.2) (.slice Ao72 xz1.length co72)) (fun _ hk => hk.2) (.int .i64 tz0)) (fun _ hk => hk.2) (.int .i64 tz1)) (fun _ hk => hk.2) (.int .i64 tz2)) (fun _ hk => hk.2) (.slice Ao77 xz0.length co77)) (fun _ hk => hk.1.1), by exact Kd.Q_mono (Kd.Q_far (p := ⟨gbz2, 3, none⟩) (Kd.Q_far (p := ⟨gbz2, 2, none⟩) (Kd.Q_far (p := ⟨gbz2, 1, none⟩) (Kd.Q_far (p := ⟨gbz2, 0, none⟩) (Kd.Q_far (p := ⟨gbz1, 3, none⟩) (Kd.Q_far (p := ⟨gbz1, 2, none⟩) (Kd.Q_far (p := ⟨gbz1, 1, none⟩) (Kd.Q_far (p := ⟨gbz1, 0, none⟩) (Kd.Q_types (Kd.Q_types HOz0.out BKz1.out (by decide)) BKz2.out (by decide)) (fun _ hk => hk.1.2) (.int .i64 tz0)) (fun _ hk => hk.1.2) (.int .i64 tz1)) (fun _ hk => hk.1.2) (.int .i64 tz2)) (fun _ hk => hk.1.2) (.slice Ao72 xz1.length co72)) (fun _ hk => hk.2) (.int .i64 tz0)) (fun _ hk => hk.2) (.int .i64 tz1)) (fun _ hk => hk.2) (.int .i64 tz2)) (fun _ hk => hk.2) (.slice Ao77 xz0.length co77)) (fun _ hk => hk.1.1), by repeat (with_reducible first | exact HI0.out | refine IsS144.far ?_ NBz17.out _ | refine IsS144.far ?_ NBz18.out _), by repeat (with_reducible first | exact HB.out | refine below_set ?_ GEz1.out | refine below_set ?_ GEz2.out), by repeat (with_reducible first | exact HK.out | refine keep_far ?_ GWz1.out _ | refine keep_far ?_ GWz2.out _)⟩


def spec_newReader.f (l0 : List Int) : Option (List Int × Int) := if (l0.length : Int) > 2000 then (if 2000 ≤ (l0.length : Int) then (some (l0.take 2000, 0)) else (none)) else (some (l0, 0))
theorem spec_newReader.calls (A0 : Option Addr) (c0 : Nat) (l0 : List Int) (r1 : List Int) (r2 : Int) (w0 w : World) (hB : Below w0.heap.size w0 w) (hr0 : Kd.C (Kd.int .u8) w0 A0 l0.length l0) (hc0 : l0.length ≤ c0) (h : spec_newReader.f l0 = some (r1, r2)) :
  Calls Try.prog 86 #[.slice A0 l0.length c0] w fun e w' => ∃ g_ : Nat, e = .returned (.pointer (some ⟨g_, 0, none⟩)) ∧ IsS144 w0 w' g_ r1 r2 ∧ Below w0.heap.size w0 w' ∧ Below w.heap.size w w' := by
 have hu144 := Try.underlying144
 have HR0 := mk hr0
 have HC0 := mk hc0
 clear hr0 hc0
 have HBW := mk (Below.refl w.heap.size w)
 have HW0 := mk hB.size
 have HB := mk hB
 clear hB
 have H : (if (l0.length : Int) > 2000 then (if 2000 ≤ (l0.length : Int) then (some (l0.take 2000, 0)) else (none)) else (some (l0, 0))) = some (r1, r2) := h
 clear h
 by_cases c2 : (l0.length : Int) > 2000
 ·rw [if_pos c2] at H
  have c2b0 : decide (2000 < (l0.length : Int)) = true := decide_eq_true c2
  have c2b1 : decide (2000 < l0.length) = true := decide_eq_true (by omega)
  clear c2
  by_cases c3 : 2000 ≤ (l0.length : Int)
  ·rw [if_pos c3] at H
   have c3b0 := eq_true c3
   have c3b1 : decide (2000 ≤ (l0.length : Int)) = true := decide_eq_true c3
   clear c3
   simp only [Option.some.injEq, Prod.mk.injEq] at H
   obtain ⟨rfl, rfl⟩ := H
   obtain ⟨i04, hi04, _, hsz4, _⟩ := info_parts info5
   obtain ⟨hcut4, hA4, hC4⟩ := print_take_of (P := Try.prog) (Value.int .u8) 0 31 5 .i64 Try.underlying31 hi04 hsz4 A0 c0 l0 2000 (by omega) (of_decide_eq_true (by first | (with_reducible assumption) | assumption)) HC0.out
   have HR87001 := mk (Kd.C_of_reads (h1 := fun _ => rfl) (hA4 _ (Kd.reads_of_C HR0.out)))
   have HC87001 := mk hC4
   clear hA4 hC4 hi04 hsz4
   go_enter Try.func86, Try.ntmps86
   go_wp2_with (first | ((with_reducible refine gate_dst (N := 10) rfl ?_); refine box_event ?hg (N := 10) ?hd (cs := #[.slice A0 (l0.take 2000).length c0, .int .i64 0]) (t := 144) ?hr ?_; (case hd => rfl); (case hg => rfl); (case hr => first | (go_simp; done) | (go_simp; rfl)); intro gb87002 hg w5 hbox hb; have n0_ := mk (below_step HBW.out hb); have n1_ := mk (below_step (by repeat (first | (with_reducible first | exact HB.out | apply below_alloc | apply pw_below_drewN | apply below_drew1) | exact HB.out)) hb); have n2_ := mk (hbox); have n3_ := mk ((by rw [hg]; exact (below_size (by repeat (first | (with_reducible first | exact HBW.out | apply below_alloc | apply pw_below_drewN | apply below_drew1) | exact HBW.out))) : w.heap.size ≤ gb87002)); have n4_ := mk ((Nat.le_trans HW0.out (by rw [hg]; exact (below_size (by repeat (first | (with_reducible first | exact HBW.out | apply below_alloc | apply pw_below_drewN | apply below_drew1) | exact HBW.out))) : w.heap.size ≤ gb87002) : w0.heap.size ≤ gb87002)); clear HBW; clear HB; have HBW := n0_; have HB := n1_; have BK87002 := n2_; have GW87002 := n3_; have GE87002 := n4_; clear n0_ n1_ n2_ n3_ n4_; clear hb hbox hg))
   go_ret
   exact ⟨_, rfl, (show IsS144 w0 _ gb87002 (l0.take 2000) 0 from ⟨_, _, by (with_reducible repeat (first | refine blk_drewN ?_ _ | refine blk_drew ?_ | refine blk_alloc ?_ _)); exact BK87002.out, GE87002.out, HR87001.out⟩), by repeat (first | (with_reducible first | exact HB.out | apply below_alloc | apply pw_below_drewN | apply below_drew1 | refine below_set ?_ GE87002.out) | exact HB.out), by repeat (first | (with_reducible first | exact HBW.out | apply below_alloc | apply pw_below_drewN | apply below_drew1 | refine below_set ?_ GW87002.out) | exact HBW.out)⟩
  ·rw [if_neg c3] at H
   exact absurd H (by simp)
 ·rw [if_neg c2] at H
  have c2b0 : decide (2000 < (l0.length : Int)) = false := decide_eq_false c2
  have c2b1 : decide (2000 < l0.length) = false := decide_eq_false (by omega)
  clear c2
  simp only [Option.some.injEq, Prod.mk.injEq] at H
  obtain ⟨rfl, rfl⟩ := H
  go_enter Try.func86, Try.ntmps86
  go_wp2_with (first | ((with_reducible refine gate_dst (N := 10) rfl ?_); refine box_event ?hg (N := 10) ?hd (cs := #[.slice A0 l0.length c0, .int .i64 0]) (t := 144) ?hr ?_; (case hd => rfl); (case hg => rfl); (case hr => first | (go_simp; done) | (go_simp; rfl)); intro gb87003 hg w6 hbox hb; have n0_ := mk (below_step HBW.out hb); have n1_ := mk (below_step (by repeat (first | (with_reducible first | exact HB.out | apply below_alloc | apply pw_below_drewN | apply below_drew1) | exact HB.out)) hb); have n2_ := mk (hbox); have n3_ := mk ((by rw [hg]; exact (below_size (by repeat (first | (with_reducible first | exact HBW.out | apply below_alloc | apply pw_below_drewN | apply below_drew1) | exact HBW.out))) : w.heap.size ≤ gb87003)); have n4_ := mk ((Nat.le_trans HW0.out (by rw [hg]; exact (below_size (by repeat (first | (with_reducible first | exact HBW.out | apply below_alloc | apply pw_below_drewN | apply below_drew1) | exact HBW.out))) : w.heap.size ≤ gb87003) : w0.heap.size ≤ gb87003)); clear HBW; clear HB; have HBW := n0_; have HB := n1_; have BK87003 := n2_; have GW87003 := n3_; have GE87003 := n4_; clear n0_ n1_ n2_ n3_ n4_; clear hb hbox hg))
  go_ret
  exact ⟨_, rfl, (show IsS144 w0 _ gb87003 l0 0 from ⟨_, _, by (with_reducible repeat (first | refine blk_drewN ?_ _ | refine blk_drew ?_ | refine blk_alloc ?_ _)); exact BK87003.out, GE87003.out, HR0.out⟩), by repeat (first | (with_reducible first | exact HB.out | apply below_alloc | apply pw_below_drewN | apply below_drew1 | refine below_set ?_ GE87003.out) | exact HB.out), by repeat (first | (with_reducible first | exact HBW.out | apply below_alloc | apply pw_below_drewN | apply below_drew1 | refine below_set ?_ GW87003.out) | exact HBW.out)⟩


mutual
def spec_gridOf.l0 : Nat → List S118 → List Bool → Int → Option (List Bool)
 | 0, _, _, _ => none
 | k + 1, x0, x3, x4 => if x4 < (x0.length : Int) then (if 0 ≤ x4 then (spec_gridOf.l1 k x0 x3 x4 ((rd_T118 x0 x4).f1)) else none) else (some x3)
def spec_gridOf.l1 : Nat → List S118 → List Bool → Int → Int → Option (List Bool)
 | 0, _, _, _, _ => none
 | k + 1, x0, x3, x4, x5 => if 0 ≤ x4 then (if x4 < (x0.length : Int) then (if x5 < ((rd_T118 x0 x4).f2) then (if 0 ≤ (wrap64 ((wrap64 (((rd_T118 x0 x4).f0) * 16)) + x5)) then (if (wrap64 ((wrap64 (((rd_T118 x0 x4).f0) * 16)) + x5)) < (x3.length : Int) then (spec_gridOf.l1 k x0 (x3.set ((wrap64 ((wrap64 (((rd_T118 x0 x4).f0) * 16)) + x5)) : Int).toNat true) x4 (wrap64 (x5 + 1))) else none) else none) else (spec_gridOf.l0 k x0 x3 (wrap64 (x4 + 1)))) else none) else (none)
end
def spec_gridOf.f (k : Nat) (l0 : List S118) : Option (List Bool) := if 256 ≤ 281474976710656 then (spec_gridOf.l0 k l0 (List.replicate 256 false) 0) else (none)
theorem spec_gridOf.calls (k : Nat) (A0 : Option Addr) (c0 : Nat) (l0 : List S118) (r : List Bool) (w : World) (hr0 : Kd.C k118 w A0 l0.length l0) (hc0 : l0.length ≤ c0) (h : spec_gridOf.f k l0 = some r) :
  Calls Try.prog 158 #[.slice A0 l0.length c0] w fun e w' => ∃ v0_ : Value, e = .returned v0_ ∧ Kd.R Kd.bool 4 w' w.heap.size (fun _ => True) v0_ r ∧ Below w.heap.size w w' := by
 have HR0 := mk hr0
 have HC0 := mk hc0
 clear hr0 hc0
 have HB := mk (Below.refl w.heap.size w)
 have H : (if 256 ≤ 281474976710656 then (spec_gridOf.l0 k l0 (List.replicate 256 false) 0) else none) = some r := h
 clear h
 by_cases c2 : 256 ≤ 281474976710656
 ·rw [if_pos c2] at H
  have c2b0 := eq_true c2
  have c2b1 : decide (256 ≤ 281474976710656) = true := decide_eq_true c2
  clear c2
  obtain ⟨yz1, hyz0⟩ : ∃ y_ : List Bool, y_ = (List.replicate 256 false) := ⟨_, rfl⟩
  replace H : (spec_gridOf.l0 k l0 yz1 0) = some r := by (rw [hyz0]; with_reducible exact H)
  have Nyz0 := mk hyz0
  clear hyz0
  have H' := mk H
  clear H
  go_enter Try.func158, Try.ntmps158
  go_wp2_with (first | ((with_reducible refine gate_dst (N := 6) rfl ?_); refine Kd.R_make Kd.bool _ 4 rfl (N := 6) rfl 162 _ _ rfl 256 rfl rfl Try.underlying162 (.bool false) 1 info4 rfl (by decide) (by omega) false (ok := fun _ => True) (okp := fun _ => True) rfl (fun _ hk => hk) trivial (by omega) (by omega) (Below.refl _ _) (Nat.le_refl _) ?_; intro vz0 w3 ho4 hb hg_ hnew_; clear hg_ hnew_; (simp only [Int.reduceToNat] at ho4; rw [← Nyz0.out] at ho4); have HOz0 := mk (Kd.R_lower ho4 (below_size HB.out)); replace HB := mk (below_step HB.out hb); clear hb ho4))
  go_loopg [4] k (fun kq v4 w' => ∃ (x3_1 : List Bool) (x4_1 : Int), v4 = .int .i64 x4_1 ∧ Aside0 (spec_gridOf.l0 kq l0 x3_1 x4_1 = some r) ∧ Aside0 (kq ≤ k) ∧ Aside0 (Kd.R Kd.bool 4 w' w.heap.size (fun _ => True) vz0 x3_1) ∧ Aside0 (Below w.heap.size w w'))
  case atStart => exact ⟨(yz1), (0), (by rfl), H', ⟨Nat.le_refl _⟩, HOz0, HB⟩
  case round =>
   clear H'
   obtain ⟨x3_1, x4_1, rfl, HA, HK1, HO_3, HB⟩ := hrel
   cases gk with
   | zero => exact absurd HA.out (by simp [spec_gridOf.l0])
   | succ k1 =>
    have H := HA.out
    clear HA
    simp only [spec_gridOf.l0] at H
    by_cases c5 : x4_1 < (l0.length : Int)
    ·rw [if_pos c5] at H
     have c5b0 : decide (x4_1 < (l0.length : Int)) = true := decide_eq_true c5
     clear c5
     by_cases c6 : 0 ≤ x4_1
     ·rw [if_pos c6] at H
      have c6b0 : decide (0 ≤ x4_1) = true := decide_eq_true c6
      clear c6
      have H' := mk H
      clear H
      have p159004 : 0 ≤ (x4_1 : Int) := of_decide_eq_true (by (with_reducible assumption))
      have q159004 : x4_1 < (l0.length : Int) := of_decide_eq_true (by (with_reducible assumption))
      obtain ⟨ad159004, e159004, hx159004_0, hx159004_1, hx159004_2⟩ := at_T118 HR0.out x4_1 p159004 q159004
      cases e159004
      replace hx159004_0 := bc HB.out hx159004_0
      replace hx159004_1 := bc HB.out hx159004_1
      replace hx159004_2 := bc HB.out hx159004_2
      replace p159004 := eq_true p159004
      replace q159004 := eq_true q159004
      go_wp2
      go_loopg [5] k1 (fun kq v5 w' => ∃ (x3_2 : List Bool) (x5_2 : Int), v5 = .int .i64 x5_2 ∧ Aside0 (spec_gridOf.l1 kq l0 x3_2 x4_1 x5_2 = some r) ∧ Aside0 (kq ≤ k1) ∧ Aside0 (Kd.R Kd.bool 4 w' w.heap.size (fun _ => True) vz0 x3_2) ∧ Aside0 (Below w.heap.size w w'))
      case atStart => exact ⟨(x3_1), ((rd_T118 l0 x4_1).f1), (by rfl), H', ⟨Nat.le_refl _⟩, HO_3, HB⟩
      case round =>
       clear H'
       obtain ⟨x3_2, x5_2, rfl, HA, HK2, HO_3, HB⟩ := hrel
       cases gk with
       | zero => exact absurd HA.out (by simp [spec_gridOf.l1])
       | succ k2 =>
        have H := HA.out
        clear HA
        simp only [spec_gridOf.l1] at H
        by_cases c7 : 0 ≤ x4_1
        ·rw [if_pos c7] at H
         have c7b0 : decide (0 ≤ x4_1) = true := decide_eq_true c7
         clear c7
         by_cases c8 : x4_1 < (l0.length : Int)
         ·rw [if_pos c8] at H
          have c8b0 : decide (x4_1 < (l0.length : Int)) = true := decide_eq_true c8
          clear c8
          by_cases c9 : x5_2 < ((rd_T118 l0 x4_1).f2)
          ·rw [if_pos c9] at H
           have c9b0 : decide (x5_2 < ((rd_T118 l0 x4_1).f2)) = true := decide_eq_true c9
           clear c9
           obtain ⟨ji10, hji10⟩ : ∃ j_ : Int, (wrap64 ((wrap64 (((rd_T118 l0 x4_1).f0) * 16)) + x5_2)) = j_ := ⟨_, rfl⟩
           replace H : (if 0 ≤ ji10 then (if ji10 < (x3_2.length : Int) then (spec_gridOf.l1 k2 l0 (x3_2.set (ji10 : Int).toNat true) x4_1 (wrap64 (x5_2 + 1))) else none) else none) = some r := by (rw [hji10] at H; exact H)
           have hji10w : (IntKind.i64.wrap ((wrap64 (((rd_T118 l0 x4_1).f0) * 16)) + x5_2)) = ji10 := (i64_w _).trans hji10
           by_cases c11 : 0 ≤ (ji10)
           ·rw [if_pos c11] at H
            have c11b0 : decide (0 ≤ ji10) = true := decide_eq_true c11
            clear c11
            by_cases c12 : ji10 < (x3_2.length : Int)
            ·rw [if_pos c12] at H
             have c12b0 : decide (ji10 < (x3_2.length : Int)) = true := decide_eq_true c12
             clear c12
             obtain ⟨yz0, hyz1⟩ : ∃ y_ : List Bool, y_ = (x3_2.set (ji10 : Int).toNat true) := ⟨_, rfl⟩
             replace H : (spec_gridOf.l1 k2 l0 yz0 x4_1 (wrap64 (x5_2 + 1))) = some r := by (rw [hyz1]; with_reducible exact H)
             have Nyz1 := mk hyz1
             clear hyz1
             have H' := mk H
             clear H
             have p159005 : 0 ≤ (x4_1 : Int) := of_decide_eq_true (by (with_reducible assumption))
             have q159005 : x4_1 < (l0.length : Int) := of_decide_eq_true (by (with_reducible assumption))
             obtain ⟨ad159005, e159005, hx159005_0, hx159005_1, hx159005_2⟩ := at_T118 HR0.out x4_1 p159005 q159005
             obtain rfl : ad159004 = ad159005 := (by injection e159005)
             replace hx159005_0 := bc HB.out hx159005_0
             replace hx159005_1 := bc HB.out hx159005_1
             replace hx159005_2 := bc HB.out hx159005_2
             replace p159005 := eq_true p159005
             replace q159005 := eq_true q159005
             have p159006 : 0 ≤ (x4_1 : Int) := of_decide_eq_true (by (with_reducible assumption))
             have q159006 : x4_1 < (l0.length : Int) := of_decide_eq_true (by (with_reducible assumption))
             obtain ⟨ad159006, e159006, hx159006_0, hx159006_1, hx159006_2⟩ := at_T118 HR0.out x4_1 p159006 q159006
             obtain rfl : ad159004 = ad159006 := (by injection e159006)
             replace hx159006_0 := bc HB.out hx159006_0
             replace hx159006_1 := bc HB.out hx159006_1
             replace hx159006_2 := bc HB.out hx159006_2
             replace p159006 := eq_true p159006
             replace q159006 := eq_true q159006
             have p13 : 0 ≤ (ji10 : Int) := of_decide_eq_true (by (with_reducible assumption))
             have q13 : (ji10 : Int) < ((x3_2.length : Int) : Int) := of_decide_eq_true (by (with_reducible assumption))
             obtain ⟨go13, co13, eo13, gb13, gl13, cl13, HG13⟩ := Kd.R_form HO_3.out (by omega)
             (cases eo13)
             have GB13 := mk gb13
             have GG13 := mk HG13
             clear gb13 gl13 HG13
             obtain ⟨hx13_0, hf13_0⟩ := Kd.R_celln false HO_3.out (ji10 : Int) p13 q13
             replace p13 := eq_true p13
             replace q13 := eq_true q13
             have HP14 := Kd.R_putg HO_3.out (ji10 : Int) true
             go_wp2_with (first | ((with_reducible refine gate_store (t := 4) (p := 36) rfl ?_); refine store_event (t := 4) (p := 36) (v := ?vo_w15) (w1 := (wr.setCell ⟨go13, (ji10 : Int).toNat, none⟩ (.bool true))) ?hg ?ho ?hn ?hr ?_; (case ho => rfl); (case hg => rfl); (case hn => rfl); (case hr => (go_simp; done)); intro w15 hw; have hg : wr.grownBy w15 (some go13) := (by rw [hw]; exact HP14.2); have hp_ : Kd.R Kd.bool 4 w15 w.heap.size (fun _ => True) (.slice (some ⟨go13, 0, none⟩) x3_2.length co13) yz0 := (by rw [hw, Nyz1.out]; exact HP14.1); clear HP14; replace HO_3 := mk (hp_); replace HB := mk ((by rw [hw]; exact below_set HB.out GB13.out : Below w.heap.size w w15)); clear hg hw hp_))
             go_roundg k2
             case measure => have := HK1.out; have := HK2.out; omega
             case rel => exact ⟨(yz0), (wrap64 (x5_2 + 1)), (by rfl), H', ⟨by have := HK1.out; have := HK2.out; omega⟩, HO_3, HB⟩
            rw [if_neg c12] at H
            exact absurd H (by simp)
           rw [if_neg c11] at H
           exact absurd H (by simp)
          rw [if_neg c9] at H
          have c9b0 : decide (x5_2 < ((rd_T118 l0 x4_1).f2)) = false := decide_eq_false c9
          clear c9
          have H' := mk H
          clear H
          have p159005 : 0 ≤ (x4_1 : Int) := of_decide_eq_true (by (with_reducible assumption))
          have q159005 : x4_1 < (l0.length : Int) := of_decide_eq_true (by (with_reducible assumption))
          obtain ⟨ad159005, e159005, hx159005_0, hx159005_1, hx159005_2⟩ := at_T118 HR0.out x4_1 p159005 q159005
          obtain rfl : ad159004 = ad159005 := (by injection e159005)
          replace hx159005_0 := bc HB.out hx159005_0
          replace hx159005_1 := bc HB.out hx159005_1
          replace hx159005_2 := bc HB.out hx159005_2
          replace p159005 := eq_true p159005
          replace q159005 := eq_true q159005
          go_wp2
          go_roundg k2
          case measure => have := HK1.out; have := HK2.out; omega
          case rel => exact ⟨(x3_2), (wrap64 (x4_1 + 1)), (by rfl), H', ⟨by have := HK1.out; have := HK2.out; omega⟩, HO_3, HB⟩
         rw [if_neg c8] at H
         exact absurd H (by simp)
        rw [if_neg c7] at H
        exact absurd H (by simp)
     rw [if_neg c6] at H
     exact absurd H (by simp)
    rw [if_neg c5] at H
    have c5b0 : decide (x4_1 < (l0.length : Int)) = false := decide_eq_false c5
    clear c5
    obtain rfl := Option.some.inj H
    go_wp2
    go_ret
    exact ⟨_, by rfl, by exact HO_3.out, by exact HB.out⟩
 rw [if_neg c2] at H
 exact absurd H (by simp)


/- Grids of pixels as the machine has them: 256 cells. -/

/-- The cells of a grid: pixel p is that in column p % 16 and row p / 16. -/
def gc (g : Nat → Bool) : Array Value := Array.ofFn (n := 256) fun i => .bool (g i.val)
theorem gc_size (g : Nat → Bool) : (gc g).size = 256 := by simp [gc]
theorem gc_get (g : Nat → Bool) (i : Nat) (h : i < 256) : (gc g)[i]? = some (.bool (g i)) := by simp [gc, h]
theorem gc_one (g : Nat → Bool) : (gc g).all (·.oneCell') = true := by
  rw [Array.all_eq_true]
  intro i hi
  simp [gc, Value.oneCell']
theorem gc_set (g : Nat → Bool) (i : Nat) (b : Bool) : (gc g).setIfInBounds i (.bool b) = gc (fun p => if p = i then b else g p) := by
  unfold gc
  apply Array.ext
  · simp
  · intro j h1 h2
    rw [Array.getElem_setIfInBounds (by simpa using h1)]
    simp only [Array.getElem_ofFn]
    by_cases e : i = j
    · subst e; simp
    · rw [if_neg e, if_neg (fun h => e h.symm)]
theorem gc_congr {g g' : Nat → Bool} (h : ∀ p, p < 256 → g p = g' p) : gc g = gc g' := by
  unfold gc
  congr 1
  funext i
  rw [h i.val i.isLt]
theorem zero66 : Try.zeroCells112 = gc (fun _ => false) := by kernel_rfl
theorem info66 : (Try.prog.info? 112).map (·.size) = some 256 := by kernel_rfl
/-- A world in which block B is a grid's. -/
def GridAt (W : World) (B : Nat) (g : Nat → Bool) : Prop := W.heap[B]? = some (.cells (gc g) 112 (0, 0))
theorem GridAt.cell {W : World} {B : Nat} {g : Nat → Bool} (h : GridAt W B g) (i : Nat) (hi : i < 256) : W.cell? ⟨B, i, none⟩ = some (.bool (g i)) := (blk_cell h i).trans (gc_get g i hi)
theorem GridAt.free {W : World} {B : Nat} {g : Nat → Bool} (h : GridAt W B g) (i : Nat) : W.frozen? ⟨B, i, none⟩ = false := blk_frozen h i
theorem GridAt.below {W W' : World} {B : Nat} {g : Nat → Bool} (h : GridAt W B g) (hb : Below W.heap.size W W') : GridAt W' B g := blk_below h hb
theorem GridAt.lt {W : World} {B : Nat} {g : Nat → Bool} (h : GridAt W B g) : B < W.heap.size := blk_lt h
theorem GridAt.set_ {W : World} {B : Nat} {g : Nat → Bool} (h : GridAt W B g) (i : Nat) (b : Bool) : GridAt (W.setCell ⟨B, i, none⟩ (.bool b)) B (fun p => if p = i then b else g p) := by
  have := blk_set h i (.bool b)
  rw [gc_set] at this
  exact this
theorem GridAt.new (W : World) (g : Nat → Bool) : GridAt (W.alloc (.cells (gc g) 112)) W.heap.size g := blk_new _ _
theorem GridAt.alloc {W : World} {B : Nat} {g : Nat → Bool} (h : GridAt W B g) (o : Obj) : GridAt (W.alloc o) B g := blk_alloc h o
theorem GridAt.congr {W : World} {B : Nat} {g g' : Nat → Bool} (h : GridAt W B g) (he : ∀ p, p < 256 → g p = g' p) : GridAt W B g' := by
  unfold GridAt at h ⊢
  rw [← gc_congr he]; exact h
theorem GridAt.load {W : World} {B : Nat} {g : Nat → Bool} (h : GridAt W B g) : (loadCellsFrom ⟨B, 0, none⟩ 0 256 #[]).run Try.prog W = .ok (gc g) W := by
  have := run_loadCells_list (P := Try.prog) W ⟨B, 0, none⟩ (gc g).toList (fun j v hv => by
    have hadd : (⟨B, 0, none⟩ : Addr).add j = ⟨B, j, none⟩ := by unfold Addr.add; split <;> simp_all
    rw [hadd, cell_of_row _ _ j _ 112 (0, 0) h]
    simpa using hv)
  simpa [loadCells, gc_size] using this
theorem GridAt.store {W : World} {B : Nat} {g : Nat → Bool} (h : GridAt W B g) (g' : Nat → Bool) : (storeCells ⟨B, 0, none⟩ (gc g').toList 0).run Try.prog W = .ok () (W.setRow B (gc g')) := by
  have := run_storeCells_from (P := Try.prog) B 112 (gc g').toList 0 (gc g) W h (by simp [gc_size]) (fun v hv => by
    have h1 := Array.all_eq_true_iff_forall_mem.1 (gc_one g') v (by simpa using hv)
    exact h1)
  simpa using this
theorem GridAt.setRow {W : World} {B : Nat} {g : Nat → Bool} (h : GridAt W B g) (g' : Nat → Bool) : GridAt (W.setRow B (gc g')) B g' := setRow_heap W B _ _ _ _ h
theorem below_setRow {B : Nat} {a w : World} (h : Below B a w) {g : Nat} (hg : B ≤ g) (cs : Array Value) : Below B a (w.setRow g cs) :=
  ⟨h.os, h.tape, h.output, by rw [setRow_size]; exact h.size, fun i hi => (setRow_other w g i cs (by omega)).trans (h.block i hi)⟩
theorem underlying66 : Try.prog.underlying 112 = some (.array 16 110) := Try.underlying112

/- impl.gridOf: the grid of runs that are in range. -/

def runIn (r : S118) (p : Nat) : Bool := decide (r.f0 = ((p / 16 : Nat) : Int)) && decide (r.f1 ≤ ((p % 16 : Nat) : Int)) && decide (((p % 16 : Nat) : Int) < r.f2)
def gridF (l : List S118) (p : Nat) : Bool := l.any fun r => runIn r p
theorem gridF_succ (l : List S118) (k : Nat) (h : k < l.length) (p : Nat) : gridF (l.take (k + 1)) p = (gridF (l.take k) p || runIn l[k] p) := by
 unfold gridF
 rw [List.take_succ_eq_append_getElem h, List.any_append]; simp
def runTo (r : S118) (x : Nat) (p : Nat) : Bool := decide (r.f0 = ((p / 16 : Nat) : Int)) && decide (r.f1 ≤ ((p % 16 : Nat) : Int)) && decide (p % 16 < x)
theorem runTo_step (r : S118) (Y x : Nat) (hY : r.f0 = (Y : Int)) (hx : x < 16) (hF : r.f1 ≤ (x : Int)) (g : Nat → Bool) (p : Nat) :
  (if p = Y * 16 + x then true else (g p || runTo r x p)) = (g p || runTo r (x + 1) p) := by
 unfold runTo
 by_cases e : p = Y * 16 + x
 ·rw [if_pos e]
  have h1 : p % 16 = x := by omega
  have h2 : p / 16 = Y := by omega
  rw [h1, h2, hY]
  simp [hF]
 ·rw [if_neg e]
  congr 1
  by_cases c1 : r.f0 = ((p / 16 : Nat) : Int)
  ·have : decide (p % 16 < x) = decide (p % 16 < x + 1) := by
    rw [decide_eq_decide]
    have : p % 16 ≠ x := by omega
    omega
   rw [this]
  ·rw [decide_eq_false c1, Bool.false_and, Bool.false_and, Bool.false_and]

theorem gridOf_calls (A0 : Option Addr) (c0 : Nat) (l0 : List S118) (w : World) (hr0 : Kd.C k118 w A0 l0.length l0) (hok : ∀ r ∈ l0, 0 ≤ r.f0 ∧ r.f0 < 16 ∧ 0 ≤ r.f1 ∧ r.f2 ≤ 16) :
  Calls Try.prog 139 #[.slice A0 l0.length c0] w fun e w' => e = .returned (.agg (gc (gridF l0))) ∧ Below w.heap.size w w' := by
 have hm : l0.length ≤ 9223372036854775807 := hr0.2.1
 have HR := Aside0.mk hr0
 have HOK := Aside0.mk hok
 clear hr0 hok
 have hu := Try.underlying118
 have z0 := zero66
 have hst := run_storeCells_new (P := Try.prog) (w.alloc (.cells (gc fun _ => false) 112)) 112 (gc fun _ => false) (gc fun _ => false) (by rw [gc_size]; exact info66) rfl (gc_one _)
 simp only [World.size_alloc] at hst
 go_enter Try.func139, Try.ntmps139
 go_wp2
 go_loopw [10] (fun v10 W => ∃ k : Nat, v10 = .int .i64 k ∧ k ≤ l0.length ∧ GridAt W (w.heap.size + 1) (gridF (l0.take k)) ∧ GridAt W w.heap.size (fun _ => false) ∧ Aside0 (Below w.heap.size w W)) (fun v10 _ => l0.length - (intOf v10).toNat)
 case atStart =>
  refine ⟨0, rfl, by omega, ?_, (GridAt.new _ _).alloc _, ⟨((Below.refl _ _).alloc (Nat.le_refl _) _).alloc (by simp) _⟩⟩
  have h := GridAt.new (w.alloc (.cells (gc fun _ => false) 112)) (fun _ => false)
  simp only [World.size_alloc] at h
  exact h.congr (fun p _ => by simp [gridF])
 case round =>
  obtain ⟨k, rfl, hk, hg, hg2, hb⟩ := hrel
  clear hst
  obtain ⟨wo, rfl⟩ : ∃ wo : World, wo = wr := ⟨_, rfl⟩
  by_cases hlt : k < l0.length
  ·have hdk : decide ((k : Int) < (l0.length : Int)) = true := by simp; omega
   obtain ⟨ad, e, hx0, hx1, hx2⟩ := at_T118 HR.out (k : Int) (by omega) (by omega)
   cases e
   have er : rd_T118 l0 (k : Int) = l0[k] := by simp [rd_T118, hlt]
   have ho := HOK.out l0[k] (List.getElem_mem hlt)
   have HGS := Aside0.mk (gridF_succ l0 k hlt)
   rw [er, Int.toNat_natCast] at hx0 hx1 hx2
   clear er
   generalize l0[k] = r at *
   obtain ⟨Y, hY⟩ := Int.eq_ofNat_of_zero_le ho.1
   obtain ⟨F, hF⟩ := Int.eq_ofNat_of_zero_le ho.2.2.1
   have ho2 := ho.2.1
   have ho4 := ho.2.2.2
   clear ho
   rw [hY] at hx0 ho2
   rw [hF] at hx1
   replace hx0 := (hb.out.cell (World.block_lt_of_cell? w _ hx0)).trans hx0
   replace hx1 := (hb.out.cell (World.block_lt_of_cell? w _ hx1)).trans hx1
   replace hx2 := (hb.out.cell (World.block_lt_of_cell? w _ hx2)).trans hx2
   have HY := Aside0.mk hY
   have HF := Aside0.mk hF
   clear hY hF
   go_wp2
   have hlt2 := hg.lt
   go_loopw [6] (fun v6 W => ∃ x : Nat, v6 = .int .i64 x ∧ F ≤ x ∧ ((x : Int) ≤ r.f2 ∨ x = F) ∧ GridAt W (w.heap.size + 1) (fun p => gridF (l0.take k) p || runTo r x p) ∧ GridAt W w.heap.size (fun _ => false) ∧ Aside0 (W.heap[wo.heap.size]? = some (.cells #[.int .i64 (Y : Int), .int .i64 (F : Int), .int .i64 r.f2] 118 (0, 0))) ∧ Aside0 (Below w.heap.size w W)) (fun v6 _ => 17 - (intOf v6).toNat + (r.f2 - (intOf v6)).toNat)
   case atStart =>
    refine ⟨F, rfl, Nat.le_refl _, .inr rfl, (hg.alloc _).congr (fun p _ => ?_), hg2.alloc _, ⟨blk_new _ _⟩, ⟨below_alloc hb.out _⟩⟩
    have : runTo r F p = false := by
     unfold runTo
     rw [HF.out]
     by_cases c : ((F : Nat) : Int) ≤ ((p % 16 : Nat) : Int)
     ·rw [decide_eq_false (show ¬ p % 16 < F by omega), Bool.and_false]
     ·rw [decide_eq_false c, Bool.and_false, Bool.false_and]
    rw [this, Bool.or_false]
   case round =>
    clear hg hg2 hb
    obtain ⟨x, rfl, hFx, hx, hg, hg2, hr, hb⟩ := hrel
    have hc0 : wr.cell? ⟨wo.heap.size, 0, none⟩ = some (.int .i64 (Y : Int)) := (blk_cell hr.out 0).trans rfl
    have hc2 : wr.cell? ⟨wo.heap.size, 2, none⟩ = some (.int .i64 r.f2) := (blk_cell hr.out 2).trans rfl
    by_cases hxt : (x : Int) < r.f2
    ·have hdx : decide ((x : Int) < r.f2) = true := by simpa using hxt
     have hcg := hg.cell (Y * 16 + x) (by omega)
     have hfg := hg.free (Y * 16 + x)
     have hx16 : x < 16 := by omega
     go_wp2
     go_roundw
     case rel => exact ⟨x + 1, by go_num, by omega, .inl (by omega), (hg.set_ (Y * 16 + x) true).congr (fun p _ => runTo_step r Y x HY.out hx16 (by rw [HF.out]; omega) _ p), blk_far hg2 (by simp) _, ⟨blk_far hr.out (by simp; omega) _⟩, ⟨below_set hb.out (by omega)⟩⟩
     case measure => simp [intOf]; omega
    ·have hdx : decide ((x : Int) < r.f2) = false := by simpa using hxt
     go_wp2
     go_roundw
     case rel =>
      refine ⟨k + 1, by go_num, by omega, hg.congr (fun p _ => ?_), hg2, hb⟩
      rw [HGS.out]
      congr 1
      unfold runTo runIn
      rw [HF.out]
      by_cases c : ((F : Nat) : Int) ≤ ((p % 16 : Nat) : Int)
      ·congr 1
       rw [decide_eq_decide]
       omega
      ·rw [decide_eq_false c, Bool.and_false, Bool.false_and, Bool.false_and]
     case measure => simp [intOf]; omega
  ·have hdk : decide ((k : Int) < (l0.length : Int)) = false := by simp; omega
   have hkl : k = l0.length := by omega
   subst hkl
   have hi : (Try.prog.info? 112).map (·.size) = some (gc (gridF l0)).size := by rw [gc_size]; exact info66
   have hold : (gc fun _ => false).size = (gc (gridF l0)).size := by rw [gc_size, gc_size]
   have h1 := gc_one (gridF l0)
   rw [List.take_length] at hg
   have hg' : wo.heap[w.heap.size + 1]? = some (.cells (gc (gridF l0)) 112 (0, 0)) := hg
   have hg2' : wo.heap[w.heap.size]? = some (.cells (gc fun _ => false) 112 (0, 0)) := hg2
   go_wp2_with (first
    | ((with_reducible refine gate_dst (N := 28) rfl ?_); refine wpList_load_row rfl 112 (.tmp 3) rfl (w.heap.size + 1) rfl 112 (gc (gridF l0)) (0, 0) (.array 16 110) hg' underlying66 rfl hi ?_)
    | ((with_reducible refine wpList_store_row rfl 112 (.tmp 2) (.tmp 28) rfl w.heap.size (gc (gridF l0)) ?hx ?hy 112 (gc fun _ => false) hg2' hi hold h1 ?_); (case hx => rfl); (case hy => rfl)))
   refine bodyPost_ret (results_cell_row rfl _ _ w.heap.size 112 (gc (gridF l0)) (0, 0) (.array 16 110) rfl (hg2.setRow (gridF l0)) underlying66 rfl hi) rfl ?_
   exact ⟨rfl, below_setRow hb.out (Nat.le_refl _) _⟩

/- (impl.grid).runs: the runs of a grid, row by row. -/

def endAt (g : Nat → Bool) (y : Nat) : Nat → Nat → Nat
 | 0, x => x
 | n + 1, x => if x < 16 ∧ g (y * 16 + x) = true then endAt g y n (x + 1) else x
theorem endAt_ge (g : Nat → Bool) (y n x : Nat) : x ≤ endAt g y n x := by
 induction n generalizing x with
 | zero => exact Nat.le_refl _
 | succ n ih =>
  unfold endAt
  split
  ·exact Nat.le_trans (Nat.le_succ x) (ih (x + 1))
  ·exact Nat.le_refl _
def scanRow (g : Nat → Bool) (y x : Nat) : List S118 :=
 if _h : x < 16 then
  if g (y * 16 + x) = true then ⟨(y : Int), (x : Int), (endAt g y (16 - x) x : Nat)⟩ :: scanRow g y (endAt g y (16 - x) x + 1)
  else scanRow g y (x + 1)
 else []
 termination_by 16 - x
 decreasing_by
  ·have := endAt_ge g y (16 - x) x; omega
  ·omega
def runsTo (g : Nat → Bool) (y : Nat) : List S118 := (List.range y).flatMap fun y => scanRow g y 0
def runsL (g : Nat → Bool) : List S118 := runsTo g 16
theorem runsTo_succ (g : Nat → Bool) (y : Nat) : runsTo g (y + 1) = runsTo g y ++ scanRow g y 0 := by
 simp [runsTo, List.range_succ]
theorem scan_true (g : Nat → Bool) (y x : Nat) (h : x < 16) (hg : g (y * 16 + x) = true) : scanRow g y x = ⟨(y : Int), (x : Int), (endAt g y (16 - x) x : Nat)⟩ :: scanRow g y (endAt g y (16 - x) x + 1) := by
 rw [scanRow, dif_pos h, if_pos hg]
theorem scan_false (g : Nat → Bool) (y x : Nat) (h : x < 16) (hg : g (y * 16 + x) = false) : scanRow g y x = scanRow g y (x + 1) := by
 rw [scanRow, dif_pos h, if_neg (by simp [hg])]
theorem scan_end (g : Nat → Bool) (y x : Nat) (h : 16 ≤ x) : scanRow g y x = [] := by
 rw [scanRow, dif_neg (by omega)]
theorem endAt_step (g : Nat → Bool) (y x : Nat) (h : x < 16) (hg : g (y * 16 + x) = true) : endAt g y (16 - x) x = endAt g y (16 - (x + 1)) (x + 1) := by
 rw [show 16 - x = (16 - (x + 1)) + 1 by omega]
 rw [endAt, if_pos ⟨h, hg⟩]
theorem endAt_stop (g : Nat → Bool) (y x : Nat) (h : 16 ≤ x ∨ g (y * 16 + x) = false) : endAt g y (16 - x) x = x := by
 cases hn : 16 - x with
 | zero => rfl
 | succ n => rw [endAt, if_neg (by rcases h with h | h; omega; simp [h])]

theorem runs_calls (g : Nat → Bool) (w : World) :
  Calls Try.prog 98 #[.agg (gc g)] w fun e w' => ∃ v0_ : Value, e = .returned v0_ ∧ Kd.R k118 118 w' w.heap.size (fun _ => True) v0_ (runsL g) ∧ Below w.heap.size w w' := by
 have hu := Try.underlying118
 have hgs := gc_size g
 go_enter Try.func98, Try.ntmps98
 go_wp2
 go_loopw [3, 8] (fun v3 v8 W => ∃ y : Nat, v8 = .int .i64 y ∧ y ≤ 16 ∧ Aside0 (Kd.R k118 118 W w.heap.size (fun _ => True) v3 (runsTo g y) ∧ (runsTo g y).length ≤ 17 * y) ∧ GridAt W w.heap.size g ∧ Aside0 (Below w.heap.size w W)) (fun _ v8 _ => 16 - (intOf v8).toNat)
 case atStart =>
  have h := R_empty k118 118 w.heap.size (w.alloc (.cells (gc g) 112)) (by simp)
  simp only [World.size_alloc] at h
  exact ⟨0, rfl, by omega, ⟨h, by simp [runsTo]⟩, (GridAt.new _ _).alloc _, ⟨((Below.refl _ _).alloc (Nat.le_refl _) _).alloc (by simp) _⟩⟩
 case round =>
  obtain ⟨y, rfl, hy, hR, hg, hb⟩ := hrel
  by_cases hlt : y < 16
  ·have hdy : decide ((y : Int) < 16) = true := by simp; omega
   go_wp2
   go_loopw [3, 5] (fun v3 v5 W => ∃ (x : Nat) (xs : List S118), v5 = .int .i64 x ∧ x ≤ 17 ∧ Aside0 (Kd.R k118 118 W w.heap.size (fun _ => True) v3 xs ∧ xs.length ≤ 17 * y + x ∧ xs ++ scanRow g y x = runsTo g (y + 1)) ∧ GridAt W w.heap.size g ∧ Aside0 (Below w.heap.size w W)) (fun _ v5 _ => 17 - (intOf v5).toNat)
   case atStart => exact ⟨0, _, rfl, by omega, ⟨hR.out.1, by have := hR.out.2; omega, (runsTo_succ g y).symm⟩, hg, hb⟩
   case round =>
    clear hR hg hb
    obtain ⟨x, xs, rfl, hx, hR, hg, hb⟩ := hrel
    by_cases hlx : x < 16
    ·have hdx : decide ((x : Int) < 16) = true := by simp; omega
     have hc := hg.cell (y * 16 + x) (by omega)
     by_cases hv : g (y * 16 + x) = true
     ·rw [hv] at hc
      have hs := scan_true g y x hlx hv
      have HS := mk hs
      clear hs
      go_wp2
      go_loop [5] (fun v5 => ∃ z : Nat, v5 = .int .i64 z ∧ x ≤ z ∧ z ≤ 16 ∧ Aside0 (endAt g y (16 - z) z = endAt g y (16 - x) x)) (fun v5 => 16 - (intOf v5).toNat)
      case atStart => exact ⟨x, rfl, by omega, by omega, ⟨rfl⟩⟩
      case round =>
       clear hc
       obtain ⟨z, rfl, hxz, hz, hE⟩ := hrel
       have hgz := hg.alloc (.cells #[.int .i64 (y : Int), .int .i64 (x : Int), .int .i64 0] 118)
       by_cases hz16 : z < 16 ∧ g (y * 16 + z) = true
       ·obtain ⟨hlz, hvz⟩ := hz16
        have hdz : decide ((z : Int) < 16) = true := by simp; omega
        have hc := hgz.cell (y * 16 + z) (by omega)
        rw [hvz] at hc
        have hE2 := mk ((endAt_step g y z hlz hvz).symm.trans hE.out)
        clear hvz hE
        go_wp2
        go_round
        case rel => exact ⟨z + 1, by go_num, by omega, by omega, hE2⟩
        case measure => simp [intOf]; omega
       ·have hz17 : 16 ≤ z ∨ g (y * 16 + z) = false := by
         by_cases h : z < 16
         ·right
          cases hgv : g (y * 16 + z) with
          | false => rfl
          | true => exact absurd ⟨h, hgv⟩ hz16
         ·left; omega
        have hstop := endAt_stop g y z hz17
        have hEZ := mk (hE.out.symm.trans hstop)
        have hl24 : xs.length + 1 ≤ 1000 := by have := hR.out.2.1; omega
        have hRB := mk (Kd.R_alloc hR.out.1 (.cells #[.int .i64 (y : Int), .int .i64 (x : Int), .int .i64 (z : Int)] 118))
        have hBB := mk (below_alloc hb.out (.cells #[.int .i64 (y : Int), .int .i64 (x : Int), .int .i64 (z : Int)] 118))
        have hGB := mk (blk_alloc hg (.cells #[.int .i64 (y : Int), .int .i64 (x : Int), .int .i64 (z : Int)] 118))
        have hNE := mk (Kd.R_ne hRB.out hGB.out (by decide))
        clear hstop hE hz16
        rcases hz17 with hz17 | hz17
        ·have hdz : decide ((z : Int) < 16) = false := by simp; omega
         go_wp2_with (first | ((with_reducible refine gate_builtin (b := .append) (xs := #[.tmp 37, .tmp 39]) rfl ?_); at_builtin; refine Kd.R_append k118 w.heap.size rfl (.tmp 37) (.tmp 39) 43 118 (.agg #[(.int .i64 0), (.int .i64 0), (.int .i64 0)]) 24 rfl Try.underlying43 info118 rfl (by decide) (by omega) u3 xs (⟨(y : Int), (x : Int), (z : Int)⟩ : S118) [.int .i64 (y : Int), .int .i64 (x : Int), .int .i64 (z : Int)] (fun _ => True) (fun _ => False) rfl ?aX ?aP (fun _ hk => hk.elim) (fun _ _ => trivial) hRB.out hBB.out ?aS ?aL ?_; (case aX => rw [World.size_alloc]; rfl); (case aP => exact k118_mkM _ _ _ (⟨(y : Int), (x : Int), (z : Int)⟩ : S118)); (case aS => exact hBB.out.size); (case aL => omega); intro v4 w4 ho hb4 hg4 hat4; have hG4 := mk (blk_grown hGB.out hg4 hNE.out); have hO4 := mk ho; have hB4 := mk hb4; clear ho hb4 hg4 hat4))
         go_roundw
         case rel =>
          refine ⟨z + 1, xs ++ [⟨(y : Int), (x : Int), (z : Int)⟩], by go_num, by omega, ⟨hO4.out, by have := hR.out.2.1; rw [List.length_append]; simp; omega, ?_⟩, hG4.out, hB4⟩
          have h1 := hR.out.2.2
          rw [HS.out, hEZ.out] at h1
          rw [List.append_assoc]; exact h1
         case measure => simp [intOf]; omega
        ·by_cases hlz : z < 16
         ·have hdz : decide ((z : Int) < 16) = true := by simp; omega
          have hc := hgz.cell (y * 16 + z) (by omega)
          rw [hz17] at hc
          go_wp2_with (first | ((with_reducible refine gate_builtin (b := .append) (xs := #[.tmp 37, .tmp 39]) rfl ?_); at_builtin; refine Kd.R_append k118 w.heap.size rfl (.tmp 37) (.tmp 39) 43 118 (.agg #[(.int .i64 0), (.int .i64 0), (.int .i64 0)]) 24 rfl Try.underlying43 info118 rfl (by decide) (by omega) u3 xs (⟨(y : Int), (x : Int), (z : Int)⟩ : S118) [.int .i64 (y : Int), .int .i64 (x : Int), .int .i64 (z : Int)] (fun _ => True) (fun _ => False) rfl ?aX ?aP (fun _ hk => hk.elim) (fun _ _ => trivial) hRB.out hBB.out ?aS ?aL ?_; (case aX => rw [World.size_alloc]; rfl); (case aP => exact k118_mkM _ _ _ (⟨(y : Int), (x : Int), (z : Int)⟩ : S118)); (case aS => exact hBB.out.size); (case aL => omega); intro v4 w4 ho hb4 hg4 hat4; have hG4 := mk (blk_grown hGB.out hg4 hNE.out); have hO4 := mk ho; have hB4 := mk hb4; clear ho hb4 hg4 hat4))
          go_roundw
          case rel =>
           refine ⟨z + 1, xs ++ [⟨(y : Int), (x : Int), (z : Int)⟩], by go_num, by omega, ⟨hO4.out, by have := hR.out.2.1; rw [List.length_append]; simp; omega, ?_⟩, hG4.out, hB4⟩
           have h1 := hR.out.2.2
           rw [HS.out, hEZ.out] at h1
           rw [List.append_assoc]; exact h1
          case measure => simp [intOf]; omega

         ·have hdz : decide ((z : Int) < 16) = false := by simp; omega
          go_wp2_with (first | ((with_reducible refine gate_builtin (b := .append) (xs := #[.tmp 37, .tmp 39]) rfl ?_); at_builtin; refine Kd.R_append k118 w.heap.size rfl (.tmp 37) (.tmp 39) 43 118 (.agg #[(.int .i64 0), (.int .i64 0), (.int .i64 0)]) 24 rfl Try.underlying43 info118 rfl (by decide) (by omega) u3 xs (⟨(y : Int), (x : Int), (z : Int)⟩ : S118) [.int .i64 (y : Int), .int .i64 (x : Int), .int .i64 (z : Int)] (fun _ => True) (fun _ => False) rfl ?aX ?aP (fun _ hk => hk.elim) (fun _ _ => trivial) hRB.out hBB.out ?aS ?aL ?_; (case aX => rw [World.size_alloc]; rfl); (case aP => exact k118_mkM _ _ _ (⟨(y : Int), (x : Int), (z : Int)⟩ : S118)); (case aS => exact hBB.out.size); (case aL => omega); intro v4 w4 ho hb4 hg4 hat4; have hG4 := mk (blk_grown hGB.out hg4 hNE.out); have hO4 := mk ho; have hB4 := mk hb4; clear ho hb4 hg4 hat4))
          go_roundw
          case rel =>
           refine ⟨z + 1, xs ++ [⟨(y : Int), (x : Int), (z : Int)⟩], by go_num, by omega, ⟨hO4.out, by have := hR.out.2.1; rw [List.length_append]; simp; omega, ?_⟩, hG4.out, hB4⟩
           have h1 := hR.out.2.2
           rw [HS.out, hEZ.out] at h1
           rw [List.append_assoc]; exact h1
          case measure => simp [intOf]; omega
     ·replace hv : g (y * 16 + x) = false := by simpa using hv
      rw [hv] at hc
      have hs := scan_false g y x hlx hv
      have HS := mk hs
      clear hs
      go_wp2
      go_roundw
      case rel => exact ⟨x + 1, xs, by go_num, by omega, ⟨hR.out.1, by have := hR.out.2.1; omega, by rw [← HS.out]; exact hR.out.2.2⟩, hg, hb⟩
      case measure => simp [intOf]; omega
    ·have hdx : decide ((x : Int) < 16) = false := by simp; omega
     have he := scan_end g y x (by omega)
     have HE := mk he
     clear he
     go_wp2
     go_roundw
     case rel =>
      have h1 := hR.out.2.2
      rw [HE.out, List.append_nil] at h1
      exact ⟨y + 1, by go_num, by omega, ⟨by rw [← h1]; exact hR.out.1, by rw [← h1]; have := hR.out.2.1; omega⟩, hg, hb⟩
     case measure => simp [intOf]; omega
  ·have hdy : decide ((y : Int) < 16) = false := by simp; omega
   have hy16 : y = 16 := by omega
   subst hy16
   go_wp2
   go_ret
   exact ⟨_, rfl, hR.out.1, hb.out⟩

mutual
def spec_runsOf.l0 : Nat → List Bool → List S118 → Int → Option ((List S118))
 | 0, _, _, _ => none
 | k + 1, x0, x3, x4 => if x4 < 16 then (spec_runsOf.l1 k x0 x3 x4 (-1) 0) else (some x3)
def spec_runsOf.l1 : Nat → List Bool → List S118 → Int → Int → Int → Option ((List S118))
 | 0, _, _, _, _, _ => none
 | k + 1, x0, x3, x4, x5, x6 => if x6 ≤ 16 then (if x6 < 16 then (if 0 ≤ (wrap64 ((wrap64 (x4 * 16)) + x6)) then (if (wrap64 ((wrap64 (x4 * 16)) + x6)) < (x0.length : Int) then (spec_runsOf.j2 k x0 x3 x4 x5 x6 (rdOf false x0 (wrap64 ((wrap64 (x4 * 16)) + x6)))) else none) else none) else (spec_runsOf.j2 k x0 x3 x4 x5 x6 false)) else (spec_runsOf.l0 k x0 x3 (wrap64 (x4 + 1)))
def spec_runsOf.j2 : Nat → List Bool → List S118 → Int → Int → Int → Bool → Option ((List S118))
 | 0, _, _, _, _, _, _ => none
 | k + 1, x0, x3, x4, x5, x6, x7 => if x7 = true then (spec_runsOf.j3 k x0 x3 x4 x5 x6 x7 (decide (x5 < 0))) else (spec_runsOf.j3 k x0 x3 x4 x5 x6 x7 false)
def spec_runsOf.j3 : Nat → List Bool → List S118 → Int → Int → Int → Bool → Bool → Option ((List S118))
 | 0, _, _, _, _, _, _, _ => none
 | k + 1, x0, x3, x4, x5, x6, x7, x32 => if x32 = true then (if x7 = true then (spec_runsOf.l1 k x0 x3 x4 x6 (wrap64 (x6 + 1))) else (if x6 ≥ 0 then (if x3.length < 5864062014805 then (spec_runsOf.l1 k x0 (x3 ++ [(⟨x4, x6, x6⟩ : S118)]) x4 (-1) (wrap64 (x6 + 1))) else none) else (spec_runsOf.l1 k x0 x3 x4 x6 (wrap64 (x6 + 1))))) else (if x7 = true then (spec_runsOf.l1 k x0 x3 x4 x5 (wrap64 (x6 + 1))) else (if x5 ≥ 0 then (if x3.length < 5864062014805 then (spec_runsOf.l1 k x0 (x3 ++ [(⟨x4, x5, x6⟩ : S118)]) x4 (-1) (wrap64 (x6 + 1))) else none) else (spec_runsOf.l1 k x0 x3 x4 x5 (wrap64 (x6 + 1)))))
end
def spec_runsOf.f (k : Nat) (l0 : List Bool) : Option ((List S118)) := spec_runsOf.l0 k l0 (([] : List S118)) 0
theorem spec_runsOf.calls (k : Nat) (A0 : Option Addr) (c0 : Nat) (l0 : List Bool) (r : List S118) (w : World) (hr0 : Kd.C Kd.bool w A0 l0.length l0) (hc0 : l0.length ≤ c0) (h : spec_runsOf.f k l0 = some r) :
  Calls Try.prog 160 #[.slice A0 l0.length c0] w fun e w' => ∃ v0_ : Value, e = .returned v0_ ∧ Kd.R k118 118 w' w.heap.size (fun _ => True) v0_ r ∧ Below w.heap.size w w' := by
 have hu118 := Try.underlying118
 have HR0 := mk hr0
 have HC0 := mk hc0
 clear hr0 hc0
 have HB := mk (Below.refl w.heap.size w)
 have H : (spec_runsOf.l0 k l0 (([] : List S118)) 0) = some r := h
 clear h
 obtain ⟨yz0, hyz0⟩ : ∃ y_ : List (S118), y_ = (([] : List S118)) := ⟨_, rfl⟩
 replace H : (spec_runsOf.l0 k l0 yz0 0) = some r := by (rw [hyz0]; with_reducible exact H)
 have Nyz0 := mk hyz0
 clear hyz0
 have H' := mk H
 clear H
 go_enter Try.func160, Try.ntmps160
 go_wp2_with (first | ((with_reducible refine gate_dst (N := 8) rfl ?_); refine Kd.R_lit k118 _ 118 ?hg (N := 8) ?hd (xs := ([] : List S118)) (inner := []) (ok := fun _ => True) (okp := fun _ => True) ?hr ?hp (fun _ hk => hk) trivial (Below.refl _ _) (Nat.le_refl _) (by simp) ?_; (case hd => rfl); (case hg => rfl); (case hr => (go_simp; done)); (case hp => exact (Reps.none _ _)); intro vz0 w2 ho3 hb hg_ hnew_; clear hg_ hnew_; (rw [← Nyz0.out] at ho3); have HOz0 := mk (Kd.R_lower ho3 (below_size HB.out)); replace HB := mk (below_step HB.out hb); clear hb ho3))
 go_loopg [3, 4] k (fun kq v3 v4 w' => ∃ (x3_1 : List S118) (x4_1 : Int), v4 = .int .i64 x4_1 ∧ Aside0 (spec_runsOf.l0 kq l0 x3_1 x4_1 = some r) ∧ Aside0 (kq ≤ k) ∧ Aside0 (Kd.R k118 118 w' w.heap.size (fun _ => True) v3 x3_1) ∧ Aside0 (Below w.heap.size w w'))
 case atStart => exact ⟨(yz0), (0), (by rfl), H', ⟨Nat.le_refl _⟩, HOz0, HB⟩
 case round =>
  clear H'
  obtain ⟨x3_1, x4_1, rfl, HA, HK1, HO_3, HB⟩ := hrel
  cases gk with
  | zero => exact absurd HA.out (by simp [spec_runsOf.l0])
  | succ k1 =>
   have H := HA.out
   clear HA
   simp only [spec_runsOf.l0] at H
   by_cases c4 : x4_1 < 16
   ·rw [if_pos c4] at H
    have c4b0 : decide (x4_1 < 16) = true := decide_eq_true c4
    clear c4
    have H' := mk H
    clear H
    go_wp2
    go_loopg [3, 5, 6] k1 (fun kq v3 v5 v6 w' => ∃ (x3_2 : List S118) (x5_2 : Int) (x6_2 : Int), v5 = .int .i64 x5_2 ∧ v6 = .int .i64 x6_2 ∧ Aside0 (spec_runsOf.l1 kq l0 x3_2 x4_1 x5_2 x6_2 = some r) ∧ Aside0 (kq ≤ k1) ∧ Aside0 (Kd.R k118 118 w' w.heap.size (fun _ => True) v3 x3_2) ∧ Aside0 (Below w.heap.size w w'))
    case atStart => exact ⟨(x3_1), (-1), (0), (by rfl), (by rfl), H', ⟨Nat.le_refl _⟩, HO_3, HB⟩
    case round =>
     clear H'
     obtain ⟨x3_2, x5_2, x6_2, rfl, rfl, HA, HK2, HO_3, HB⟩ := hrel
     cases gk with
     | zero => exact absurd HA.out (by simp [spec_runsOf.l1])
     | succ k2 =>
      have H := HA.out
      clear HA
      simp only [spec_runsOf.l1] at H
      by_cases c5 : x6_2 ≤ 16
      ·rw [if_pos c5] at H
       have c5b0 : decide (x6_2 ≤ 16) = true := decide_eq_true c5
       clear c5
       have HC6 := mk H
       clear H
       go_upto_region 9 with (fail)
       go_cut [7] (fun v7 wc => ∃ (kq : Nat) (x7_5 : Bool), v7 = .bool x7_5 ∧ Aside0 (spec_runsOf.j2 kq l0 x3_2 x4_1 x5_2 x6_2 x7_5 = some r) ∧ Aside0 (kq ≤ k2) ∧ Aside0 (Kd.R k118 118 wc w.heap.size (fun _ => True) u3 x3_2) ∧ Aside0 (Below w.heap.size w wc))
       case first =>
        have H := HC6.out
        clear HC6
        by_cases c7 : x6_2 < 16
        ·rw [if_pos c7] at H
         have c7b0 : decide (x6_2 < 16) = true := decide_eq_true c7
         clear c7
         (skip)
         obtain ⟨ji8, hji8⟩ : ∃ j_ : Int, (wrap64 ((wrap64 (x4_1 * 16)) + x6_2)) = j_ := ⟨_, rfl⟩
         replace H : (if 0 ≤ ji8 then (if ji8 < (l0.length : Int) then (spec_runsOf.j2 k2 l0 x3_2 x4_1 x5_2 x6_2 (rdOf false l0 ji8)) else none) else none) = some r := by (rw [hji8] at H; exact H)
         have hji8w : (IntKind.i64.wrap ((wrap64 (x4_1 * 16)) + x6_2)) = ji8 := (i64_w _).trans hji8
         by_cases c9 : 0 ≤ (ji8)
         ·rw [if_pos c9] at H
          have c9b0 : decide (0 ≤ ji8) = true := decide_eq_true c9
          clear c9
          by_cases c10 : ji8 < (l0.length : Int)
          ·rw [if_pos c10] at H
           have c10b0 : decide (ji8 < (l0.length : Int)) = true := decide_eq_true c10
           clear c10
           have H' := mk H
           clear H
           have p161004 : 0 ≤ (ji8 : Int) := of_decide_eq_true (by (with_reducible assumption))
           have q161004 : ji8 < (l0.length : Int) := of_decide_eq_true (by (with_reducible assumption))
           obtain ⟨ad161004, e161004, hx161004_0⟩ := Kd.at_bool HR0.out ji8 p161004 q161004
           cases e161004
           replace hx161004_0 := bc HB.out hx161004_0
           replace p161004 := eq_true p161004
           replace q161004 := eq_true q161004
           go_wp2
           go_meet
           case rel => exact ⟨_, (rdOf false l0 ji8), (by rfl), H', ⟨by have := HK1.out; have := HK2.out; omega⟩, HO_3, HB⟩
          rw [if_neg c10] at H
          exact absurd H (by simp)
         rw [if_neg c9] at H
         exact absurd H (by simp)
        rw [if_neg c7] at H
        have c7b0 : decide (x6_2 < 16) = false := decide_eq_false c7
        clear c7
        (skip)
        have H' := mk H
        clear H
        go_wp2
        go_meet
        case rel => exact ⟨_, (false), (by rfl), H', ⟨by have := HK1.out; have := HK2.out; omega⟩, HO_3, HB⟩
       case rest =>
        clear HC6
        obtain ⟨kq, x7_5, rfl, HA, HJ5, HO_3, HB⟩ := hcut
        cases kq with
        | zero => exact absurd HA.out (by simp [spec_runsOf.j2])
        | succ kj5 =>
         have H := HA.out
         clear HA
         simp only [spec_runsOf.j2] at H
         have HC11 := mk H
         clear H
         go_upto_region 10 with (fail)
         go_cut [32] (fun v32 wc => ∃ (kq : Nat) (x32_10 : Bool), v32 = .bool x32_10 ∧ Aside0 (spec_runsOf.j3 kq l0 x3_2 x4_1 x5_2 x6_2 x7_5 x32_10 = some r) ∧ Aside0 (kq ≤ kj5) ∧ Aside0 (Kd.R k118 118 wc w.heap.size (fun _ => True) u3 x3_2) ∧ Aside0 (Below w.heap.size w wc))
         case first =>
          have H := HC11.out
          clear HC11
          by_cases c12 : x7_5 = true
          ·subst c12
           have H1 : (spec_runsOf.j3 kj5 l0 x3_2 x4_1 x5_2 x6_2 true (decide (x5_2 < 0))) = some r := by rw [if_pos rfl] at H; exact H
           clear H
           have H := H1
           clear H1
           have H' := mk H
           clear H
           go_wp2
           go_meet
           case rel => exact ⟨_, (decide (x5_2 < 0)), (by rfl), H', ⟨by have := HK1.out; have := HK2.out; have := HJ5.out; omega⟩, HO_3, HB⟩
          replace c12 := Bool.eq_false_iff.mpr c12
          subst c12
          have H1 : (spec_runsOf.j3 kj5 l0 x3_2 x4_1 x5_2 x6_2 false false) = some r := by rw [if_neg (show ¬ (false = true) by decide)] at H; exact H
          clear H
          have H := H1
          clear H1
          have H' := mk H
          clear H
          go_wp2
          go_meet
          case rel => exact ⟨_, (false), (by rfl), H', ⟨by have := HK1.out; have := HK2.out; have := HJ5.out; omega⟩, HO_3, HB⟩
         case rest =>
          clear HC11
          obtain ⟨kq, x32_10, rfl, HA, HJ10, HO_3, HB⟩ := hcut
          cases kq with
          | zero => exact absurd HA.out (by simp [spec_runsOf.j3])
          | succ kj10 =>
           have H := HA.out
           clear HA
           simp only [spec_runsOf.j3] at H
           by_cases c13 : x32_10 = true
           ·subst c13
            have H1 : (if x7_5 = true then (spec_runsOf.l1 kj10 l0 x3_2 x4_1 x6_2 (wrap64 (x6_2 + 1))) else (if x6_2 ≥ 0 then (if x3_2.length < 5864062014805 then (spec_runsOf.l1 kj10 l0 (x3_2 ++ [(⟨x4_1, x6_2, x6_2⟩ : S118)]) x4_1 (-1) (wrap64 (x6_2 + 1))) else none) else (spec_runsOf.l1 kj10 l0 x3_2 x4_1 x6_2 (wrap64 (x6_2 + 1))))) = some r := by rw [if_pos rfl] at H; exact H
            clear H
            have H := H1
            clear H1
            by_cases c14 : x7_5 = true
            ·subst c14
             have H1 : (spec_runsOf.l1 kj10 l0 x3_2 x4_1 x6_2 (wrap64 (x6_2 + 1))) = some r := by rw [if_pos rfl] at H; exact H
             clear H
             have H := H1
             clear H1
             have H' := mk H
             clear H
             go_wp2
             go_roundg kj10
             case measure => have := HK1.out; have := HK2.out; have := HJ5.out; have := HJ10.out; omega
             case rel => exact ⟨(x3_2), (x6_2), (wrap64 (x6_2 + 1)), (by rfl), (by rfl), H', ⟨by have := HK1.out; have := HK2.out; have := HJ5.out; have := HJ10.out; omega⟩, HO_3, HB⟩
            replace c14 := Bool.eq_false_iff.mpr c14
            subst c14
            have H1 : (if x6_2 ≥ 0 then (if x3_2.length < 5864062014805 then (spec_runsOf.l1 kj10 l0 (x3_2 ++ [(⟨x4_1, x6_2, x6_2⟩ : S118)]) x4_1 (-1) (wrap64 (x6_2 + 1))) else none) else (spec_runsOf.l1 kj10 l0 x3_2 x4_1 x6_2 (wrap64 (x6_2 + 1)))) = some r := by rw [if_neg (show ¬ (false = true) by decide)] at H; exact H
            clear H
            have H := H1
            clear H1
            by_cases c15 : x6_2 ≥ 0
            ·rw [if_pos c15] at H
             have c15b0 : decide (0 ≤ x6_2) = true := decide_eq_true c15
             clear c15
             by_cases c16 : x3_2.length < 5864062014805
             ·rw [if_pos c16] at H
              have LMc16 := mk c16
              clear c16
              obtain ⟨yz1, hyz1⟩ : ∃ y_ : List (S118), y_ = (x3_2 ++ [(⟨x4_1, x6_2, x6_2⟩ : S118)]) := ⟨_, rfl⟩
              replace H : (spec_runsOf.l1 kj10 l0 yz1 x4_1 (-1) (wrap64 (x6_2 + 1))) = some r := by (rw [hyz1]; with_reducible exact H)
              have Nyz1 := mk hyz1
              clear hyz1
              have H' := mk H
              clear H
              go_wp2_with (first | ((with_reducible refine gate_builtin (b := .append) (xs := #[.tmp 40, .tmp 45]) rfl ?_); at_builtin; refine Kd.R_append k118 (w0 := w) w.heap.size rfl (.tmp 40) (.tmp 45) 43 118 (.agg #[(.int .i64 0), (.int .i64 0), (.int .i64 0)]) 24 rfl Try.underlying43 info118 rfl (by decide) (by omega) u3 x3_2 (⟨x4_1, x6_2, x6_2⟩ : S118) [.int .i64 x4_1, .int .i64 x6_2, .int .i64 x6_2] (fun _ => True) (fun _ => False) rfl rfl ?aP (fun _ hk => hk.elim) ?aF ?aO ?aB ?aS ?aL ?_; (case aP => exact k118_mkM _ _ _ (⟨x4_1, x6_2, x6_2⟩ : S118)); (case aB => exact HB.out); (case aF => exact (fun _ _ => trivial)); (case aO => exact HO_3.out); (case aS => exact (below_size HB.out)); (case aL => have := LMc16.out; omega); intro vz1 w17 ho hb hg hat; rw [← Nyz1.out] at ho; have n0_ := mk (hb); have n1_ := mk (ho); clear HB; clear HO_3; have HB := n0_; have HOz1 := n1_; clear ho hb hg hat))
              go_roundg kj10
              case measure => have := HK1.out; have := HK2.out; have := HJ5.out; have := HJ10.out; omega
              case rel => exact ⟨(yz1), (-1), (wrap64 (x6_2 + 1)), (by rfl), (by rfl), H', ⟨by have := HK1.out; have := HK2.out; have := HJ5.out; have := HJ10.out; omega⟩, HOz1, HB⟩
             rw [if_neg c16] at H
             exact absurd H (by simp)
            rw [if_neg c15] at H
            have c15b0 : decide (0 ≤ x6_2) = false := decide_eq_false c15
            clear c15
            have H' := mk H
            clear H
            go_wp2
            go_roundg kj10
            case measure => have := HK1.out; have := HK2.out; have := HJ5.out; have := HJ10.out; omega
            case rel => exact ⟨(x3_2), (x6_2), (wrap64 (x6_2 + 1)), (by rfl), (by rfl), H', ⟨by have := HK1.out; have := HK2.out; have := HJ5.out; have := HJ10.out; omega⟩, HO_3, HB⟩
           replace c13 := Bool.eq_false_iff.mpr c13
           subst c13
           have H1 : (if x7_5 = true then (spec_runsOf.l1 kj10 l0 x3_2 x4_1 x5_2 (wrap64 (x6_2 + 1))) else (if x5_2 ≥ 0 then (if x3_2.length < 5864062014805 then (spec_runsOf.l1 kj10 l0 (x3_2 ++ [(⟨x4_1, x5_2, x6_2⟩ : S118)]) x4_1 (-1) (wrap64 (x6_2 + 1))) else none) else (spec_runsOf.l1 kj10 l0 x3_2 x4_1 x5_2 (wrap64 (x6_2 + 1))))) = some r := by rw [if_neg (show ¬ (false = true) by decide)] at H; exact H
           clear H
           have H := H1
           clear H1
           by_cases c18 : x7_5 = true
           ·subst c18
            have H1 : (spec_runsOf.l1 kj10 l0 x3_2 x4_1 x5_2 (wrap64 (x6_2 + 1))) = some r := by rw [if_pos rfl] at H; exact H
            clear H
            have H := H1
            clear H1
            have H' := mk H
            clear H
            go_wp2
            go_roundg kj10
            case measure => have := HK1.out; have := HK2.out; have := HJ5.out; have := HJ10.out; omega
            case rel => exact ⟨(x3_2), (x5_2), (wrap64 (x6_2 + 1)), (by rfl), (by rfl), H', ⟨by have := HK1.out; have := HK2.out; have := HJ5.out; have := HJ10.out; omega⟩, HO_3, HB⟩
           replace c18 := Bool.eq_false_iff.mpr c18
           subst c18
           have H1 : (if x5_2 ≥ 0 then (if x3_2.length < 5864062014805 then (spec_runsOf.l1 kj10 l0 (x3_2 ++ [(⟨x4_1, x5_2, x6_2⟩ : S118)]) x4_1 (-1) (wrap64 (x6_2 + 1))) else none) else (spec_runsOf.l1 kj10 l0 x3_2 x4_1 x5_2 (wrap64 (x6_2 + 1)))) = some r := by rw [if_neg (show ¬ (false = true) by decide)] at H; exact H
           clear H
           have H := H1
           clear H1
           by_cases c19 : x5_2 ≥ 0
           ·rw [if_pos c19] at H
            have c19b0 : decide (0 ≤ x5_2) = true := decide_eq_true c19
            clear c19
            by_cases c20 : x3_2.length < 5864062014805
            ·rw [if_pos c20] at H
             have LMc20 := mk c20
             clear c20
             obtain ⟨yz2, hyz2⟩ : ∃ y_ : List (S118), y_ = (x3_2 ++ [(⟨x4_1, x5_2, x6_2⟩ : S118)]) := ⟨_, rfl⟩
             replace H : (spec_runsOf.l1 kj10 l0 yz2 x4_1 (-1) (wrap64 (x6_2 + 1))) = some r := by (rw [hyz2]; with_reducible exact H)
             have Nyz2 := mk hyz2
             clear hyz2
             have H' := mk H
             clear H
             go_wp2_with (first | ((with_reducible refine gate_builtin (b := .append) (xs := #[.tmp 40, .tmp 45]) rfl ?_); at_builtin; refine Kd.R_append k118 (w0 := w) w.heap.size rfl (.tmp 40) (.tmp 45) 43 118 (.agg #[(.int .i64 0), (.int .i64 0), (.int .i64 0)]) 24 rfl Try.underlying43 info118 rfl (by decide) (by omega) u3 x3_2 (⟨x4_1, x5_2, x6_2⟩ : S118) [.int .i64 x4_1, .int .i64 x5_2, .int .i64 x6_2] (fun _ => True) (fun _ => False) rfl rfl ?aP (fun _ hk => hk.elim) ?aF ?aO ?aB ?aS ?aL ?_; (case aP => exact k118_mkM _ _ _ (⟨x4_1, x5_2, x6_2⟩ : S118)); (case aB => exact HB.out); (case aF => exact (fun _ _ => trivial)); (case aO => exact HO_3.out); (case aS => exact (below_size HB.out)); (case aL => have := LMc20.out; omega); intro vz2 w21 ho hb hg hat; rw [← Nyz2.out] at ho; have n0_ := mk (hb); have n1_ := mk (ho); clear HB; clear HO_3; have HB := n0_; have HOz2 := n1_; clear ho hb hg hat))
             go_roundg kj10
             case measure => have := HK1.out; have := HK2.out; have := HJ5.out; have := HJ10.out; omega
             case rel => exact ⟨(yz2), (-1), (wrap64 (x6_2 + 1)), (by rfl), (by rfl), H', ⟨by have := HK1.out; have := HK2.out; have := HJ5.out; have := HJ10.out; omega⟩, HOz2, HB⟩
            rw [if_neg c20] at H
            exact absurd H (by simp)
           rw [if_neg c19] at H
           have c19b0 : decide (0 ≤ x5_2) = false := decide_eq_false c19
           clear c19
           have H' := mk H
           clear H
           go_wp2
           go_roundg kj10
           case measure => have := HK1.out; have := HK2.out; have := HJ5.out; have := HJ10.out; omega
           case rel => exact ⟨(x3_2), (x5_2), (wrap64 (x6_2 + 1)), (by rfl), (by rfl), H', ⟨by have := HK1.out; have := HK2.out; have := HJ5.out; have := HJ10.out; omega⟩, HO_3, HB⟩
      rw [if_neg c5] at H
      have c5b0 : decide (x6_2 ≤ 16) = false := decide_eq_false c5
      clear c5
      have H' := mk H
      clear H
      go_wp2
      go_roundg k2
      case measure => have := HK1.out; have := HK2.out; omega
      case rel => exact ⟨(x3_2), (wrap64 (x4_1 + 1)), (by rfl), H', ⟨by have := HK1.out; have := HK2.out; omega⟩, HO_3, HB⟩
   rw [if_neg c4] at H
   have c4b0 : decide (x4_1 < 16) = false := decide_eq_false c4
   clear c4
   obtain rfl := Option.some.inj H
   go_wp2
   go_ret
   exact ⟨_, by rfl, by exact HO_3.out, by exact HB.out⟩


/- Whether a pixel, which may be anywhere, is in a grid. -/

def hasP (g : Nat → Bool) (x y : Int) : Bool := decide (x ≥ 0) && decide (x < 16) && decide (y ≥ 0) && decide (y < 16) && g (y.toNat * 16 + x.toNat)

/- Pixels that are connected in a grid: what a search finds that begins at one of them. -/

/-- q and r are neighbours in a row or a column. -/
def Adj (q r : Nat) : Prop := (r = q + 1 ∧ q % 16 < 15) ∨ (q = r + 1 ∧ r % 16 < 15) ∨ r = q + 16 ∨ q = r + 16
inductive Reach (g : Nat → Bool) (s : Nat) : Nat → Prop
  | here : Reach g s s
  | step (q r : Nat) : Reach g s q → Adj q r → r < 256 → g r = true → Reach g s r
/-- The pixels that are connected with pixel s. -/
noncomputable def comp (g : Nat → Bool) (s q : Nat) : Bool := @decide (Reach g s q) (Classical.propDecidable _)
theorem comp_iff (g : Nat → Bool) (s q : Nat) : comp g s q = true ↔ Reach g s q := by
  unfold comp
  exact @decide_eq_true_iff _ (Classical.propDecidable _)
/-- A search from s: what has been seen, what is still to be looked at, and the neighbours of p that are still to be looked at. -/
structure Mid (g : Nat → Bool) (s : Nat) (out : Nat → Bool) (todo : List Nat) (p : Nat) (pend : List (Int × Int)) : Prop where
  start : out s = true
  reach : ∀ q, q < 256 → out q = true → Reach g s q
  todo_ok : ∀ q, q ∈ todo → q < 256 ∧ out q = true
  cur : p < 256 ∧ out p = true
  done : ∀ q r, q < 256 → r < 256 → out q = true → Adj q r → g r = true → out r = true ∨ q ∈ todo ∨ (q = p ∧ (((r % 16 : Nat) : Int), ((r / 16 : Nat) : Int)) ∈ pend)
theorem mid_init (g : Nat → Bool) (s : Nat) (hs : s < 256) : Mid g s (fun q => decide (q = s)) [s] s [] where
  start := by simp
  reach := fun q _ h => by
    have : q = s := by simpa using h
    subst this; exact .here
  todo_ok := fun q h => by
    have : q = s := by simpa using h
    subst this; exact ⟨hs, by simp⟩
  cur := ⟨hs, by simp⟩
  done := fun q r _ _ h _ _ => by
    have : q = s := by simpa using h
    right; left; simp [this]
theorem mid_pop {g : Nat → Bool} {s : Nat} {out : Nat → Bool} {todo todo' : List Nat} {p p0 : Nat} {pend : List (Int × Int)} (h : Mid g s out todo p0 []) (hp : p ∈ todo) (h1 : ∀ q, q ∈ todo → q = p ∨ q ∈ todo') (h2 : ∀ q, q ∈ todo' → q ∈ todo)
    (h3 : ∀ r, r < 256 → Adj p r → (((r % 16 : Nat) : Int), ((r / 16 : Nat) : Int)) ∈ pend) : Mid g s out todo' p pend where
  start := h.start
  reach := h.reach
  todo_ok := fun q hq => h.todo_ok q (h2 q hq)
  cur := h.todo_ok p hp
  done := fun q r hq hr ho ha hg => by
    rcases h.done q r hq hr ho ha hg with c | c | c
    · exact .inl c
    · rcases h1 q c with e | e
      · subst e; exact .inr (.inr ⟨rfl, h3 r hr ha⟩)
      · exact .inr (.inl e)
    · cases c.2
theorem hasP_iff (g : Nat → Bool) (x y : Int) : hasP g x y = true ↔ 0 ≤ x ∧ x < 16 ∧ 0 ≤ y ∧ y < 16 ∧ g (y.toNat * 16 + x.toNat) = true := by
  simp [hasP, and_assoc]
theorem hasP_nat (g : Nat → Bool) (r : Nat) (hr : r < 256) : hasP g ((r % 16 : Nat) : Int) ((r / 16 : Nat) : Int) = g r := by
  have e : r / 16 * 16 + r % 16 = r := by omega
  rw [Bool.eq_iff_iff, hasP_iff, Int.toNat_natCast, Int.toNat_natCast, e]
  constructor
  · intro h; exact h.2.2.2.2
  · intro h; exact ⟨by omega, by omega, by omega, by omega, h⟩
theorem mid_skip {g : Nat → Bool} {s : Nat} {out : Nat → Bool} {todo : List Nat} {p : Nat} {x y : Int} {pend : List (Int × Int)} (h : Mid g s out todo p ((x, y) :: pend)) (hc : hasP g x y = false ∨ out (y.toNat * 16 + x.toNat) = true) : Mid g s out todo p pend where
  start := h.start
  reach := h.reach
  todo_ok := h.todo_ok
  cur := h.cur
  done := fun q r hq hr ho ha hg => by
    rcases h.done q r hq hr ho ha hg with c | c | ⟨c1, c2⟩
    · exact .inl c
    · exact .inr (.inl c)
    · rcases List.mem_cons.1 c2 with e | e
      · injection e with e1 e2
        subst e1 e2
        rcases hc with hc | hc
        · rw [hasP_nat g r hr, hg] at hc; cases hc
        · rw [Int.toNat_natCast, Int.toNat_natCast, show r / 16 * 16 + r % 16 = r by omega] at hc
          exact .inl hc
      · exact .inr (.inr ⟨c1, e⟩)
theorem mid_push {g : Nat → Bool} {s : Nat} {out : Nat → Bool} {todo todo' : List Nat} {p : Nat} {x y : Int} {pend : List (Int × Int)} (h : Mid g s out todo p ((x, y) :: pend)) (hc : hasP g x y = true) (ha0 : Adj p (y.toNat * 16 + x.toNat))
    (h1 : ∀ q, q ∈ todo' → q = y.toNat * 16 + x.toNat ∨ q ∈ todo) (h2 : ∀ q, q ∈ todo → q ∈ todo') (h3 : y.toNat * 16 + x.toNat ∈ todo') : Mid g s (fun q => if q = y.toNat * 16 + x.toNat then true else out q) todo' p pend := by
  have hx := (hasP_iff g x y).1 hc
  refine ⟨?_, ?_, ?_, ?_, ?_⟩
  · show (if s = _ then true else out s) = true
    rw [h.start]; split <;> rfl
  · intro q hq ho
    by_cases e : q = y.toNat * 16 + x.toNat
    · subst e
      exact .step p _ (h.reach p h.cur.1 h.cur.2) ha0 hq hx.2.2.2.2
    · rw [if_neg e] at ho
      exact h.reach q hq ho
  · intro q hq
    rcases h1 q hq with e | e
    · subst e; exact ⟨by omega, by simp⟩
    · have := h.todo_ok q e
      refine ⟨this.1, ?_⟩
      rw [this.2]; split <;> rfl
  · refine ⟨h.cur.1, ?_⟩
    rw [h.cur.2]; split <;> rfl
  · intro q r hq hr ho ha hg
    by_cases e : q = y.toNat * 16 + x.toNat
    · subst e; exact .inr (.inl h3)
    · rw [if_neg e] at ho
      rcases h.done q r hq hr ho ha hg with c | c | ⟨c1, c2⟩
      · left; rw [c]; split <;> rfl
      · exact .inr (.inl (h2 q c))
      · rcases List.mem_cons.1 c2 with e | e
        · left
          injection e with e1 e2
          subst e1 e2
          rw [Int.toNat_natCast, Int.toNat_natCast, if_pos (by omega)]
        · exact .inr (.inr ⟨c1, e⟩)
theorem mid_end {g : Nat → Bool} {s : Nat} (hs : s < 256) {out : Nat → Bool} {p : Nat} (h : Mid g s out [] p []) (q : Nat) (hq : q < 256) : out q = comp g s q := by
  rw [Bool.eq_iff_iff, comp_iff]
  constructor
  · exact h.reach q hq
  · intro hr
    have key : ∀ q, Reach g s q → q < 256 ∧ out q = true := by
      intro q hr
      induction hr with
      | here => exact ⟨hs, h.start⟩
      | step q r _ ha hr hg ih =>
        refine ⟨hr, ?_⟩
        rcases h.done q r ih.1 hr ih.2 ha hg with c | c | ⟨_, c⟩
        · exact c
        · cases c
        · cases c
    exact (key q hr).2
/-- how much has not been seen -/
def unseen (out : Nat → Bool) : Nat := (List.range 256).countP fun q => !out q
theorem unseen_set (out : Nat → Bool) (p : Nat) (hp : p < 256) (h : out p = false) : unseen (fun q => if q = p then true else out q) + 1 = unseen out := by
  unfold unseen
  have key : ∀ (l : List Nat), l.Nodup → p ∈ l → l.countP (fun q => !(if q = p then true else out q)) + 1 = l.countP (fun q => !out q) := by
    intro l
    induction l with
    | nil => intro _ h; cases h
    | cons a l ih =>
      intro hn hm
      rw [List.countP_cons, List.countP_cons]
      by_cases e : a = p
      · subst e
        have hne : ∀ q ∈ l, (!(if q = a then true else out q)) = !out q := by
          intro q hq
          have : q ≠ a := fun e => (List.nodup_cons.1 hn).1 (e ▸ hq)
          rw [if_neg this]
        have hcc : l.countP (fun q => !(if q = a then true else out q)) = l.countP (fun q => !out q) := List.countP_congr (fun q hq => by rw [hne q hq])
        rw [hcc]
        simp [h]
      · have hm' : p ∈ l := by
          rcases List.mem_cons.1 hm with e' | e'
          · exact absurd e'.symm e
          · exact e'
        have := ih (List.nodup_cons.1 hn).2 hm'
        rw [if_neg e]
        omega
  exact key (List.range 256) List.nodup_range (by simpa using hp)
theorem nb_adj (p : Nat) (hp : p < 256) (x y : Int) (h0 : 0 ≤ x) (h1 : x < 16) (h2 : 0 ≤ y) (h3 : y < 16)
    (h : (x = ((p % 16 : Nat) : Int) - 1 ∧ y = ((p / 16 : Nat) : Int)) ∨ (x = ((p % 16 : Nat) : Int) + 1 ∧ y = ((p / 16 : Nat) : Int)) ∨ (x = ((p % 16 : Nat) : Int) ∧ y = ((p / 16 : Nat) : Int) - 1) ∨ (x = ((p % 16 : Nat) : Int) ∧ y = ((p / 16 : Nat) : Int) + 1)) :
    Adj p (y.toNat * 16 + x.toNat) := by
  unfold Adj
  omega
theorem adj_nb (p r : Nat) (hp : p < 256) (hr : r < 256) (h : Adj p r) :
    (((r % 16 : Nat) : Int) = ((p % 16 : Nat) : Int) - 1 ∧ ((r / 16 : Nat) : Int) = ((p / 16 : Nat) : Int)) ∨ (((r % 16 : Nat) : Int) = ((p % 16 : Nat) : Int) + 1 ∧ ((r / 16 : Nat) : Int) = ((p / 16 : Nat) : Int)) ∨ (((r % 16 : Nat) : Int) = ((p % 16 : Nat) : Int) ∧ ((r / 16 : Nat) : Int) = ((p / 16 : Nat) : Int) - 1) ∨ (((r % 16 : Nat) : Int) = ((p % 16 : Nat) : Int) ∧ ((r / 16 : Nat) : Int) = ((p / 16 : Nat) : Int) + 1) := by
  unfold Adj at h
  omega

/- impl.gridBy: the grid of the pixels for which a function value's answer is true. -/

def gso (so : Nat → Nat → Bool) (n : Nat) : Nat → Bool := fun p => decide (p < n) && so (p % 16) (p / 16)

theorem gso_step (so : Nat → Nat → Bool) (x y : Nat) (hx : x < 16) (p : Nat) : (if p = y * 16 + x then so x y else gso so (16 * y + x) p) = gso so (16 * y + (x + 1)) p := by
 unfold gso
 by_cases e : p = y * 16 + x
 ·rw [if_pos e]
  have h1 : p % 16 = x := by omega
  have h2 : p / 16 = y := by omega
  rw [h1, h2]
  simp; omega
 ·rw [if_neg e]
  congr 1
  rw [decide_eq_decide]
  omega
theorem gridBy_calls (q : Nat) (lb : Array Value) (so : Nat → Nat → Bool) (w : World)
  (eg : ∀ args W, (callFunc q args).run Try.prog W = .ok (.enter q args) W)
  (hp : ∀ (W : World) (x y : Nat), x < 16 → y < 16 → Below w.heap.size w W → Calls Try.prog q (#[.int .i64 (x : Int), .int .i64 (y : Int)] ++ lb) W fun e W' => e = .returned (.bool (so x y)) ∧ Below W.heap.size W W') :
  Calls Try.prog 95 #[.func (.func q) #[] lb] w fun e w' => e = .returned (.agg (gc (gso so 256))) ∧ Below w.heap.size w w' := by
 have HP := Aside0.mk hp
 clear hp
 have z0 := zero66
 have hst := run_storeCells_new (P := Try.prog) (w.alloc (.cells (gc fun _ => false) 112)) 112 (gc fun _ => false) (gc fun _ => false) (by rw [gc_size]; exact info66) rfl (gc_one _)
 simp only [World.size_alloc] at hst
 go_enter Try.func95, Try.ntmps95
 go_wp2
 go_loopw [7] (fun v7 W => ∃ y : Nat, v7 = .int .i64 y ∧ y ≤ 16 ∧ GridAt W (w.heap.size + 1) (gso so (16 * y)) ∧ GridAt W w.heap.size (fun _ => false) ∧ Aside0 (Below w.heap.size w W)) (fun v7 _ => 16 - (intOf v7).toNat)
 case atStart =>
  refine ⟨0, rfl, by omega, ?_, (GridAt.new _ _).alloc _, ⟨((Below.refl _ _).alloc (Nat.le_refl _) _).alloc (by simp) _⟩⟩
  have h := GridAt.new (w.alloc (.cells (gc fun _ => false) 112)) (fun _ => false)
  simp only [World.size_alloc] at h
  exact h.congr (fun p _ => by simp [gso])
 case round =>
  obtain ⟨y, rfl, hy, hg, hg2, hb⟩ := hrel
  clear hst
  by_cases hlt : y < 16
  ·have hdy : decide ((y : Int) < 16) = true := by simp; omega
   go_wp2
   go_loopw [10] (fun v10 W => ∃ x : Nat, v10 = .int .i64 x ∧ x ≤ 16 ∧ GridAt W (w.heap.size + 1) (gso so (16 * y + x)) ∧ GridAt W w.heap.size (fun _ => false) ∧ Aside0 (Below w.heap.size w W)) (fun v10 _ => 16 - (intOf v10).toNat)
   case atStart => exact ⟨0, rfl, by omega, hg, hg2, hb⟩
   case round =>
    clear hg hg2 hb
    obtain ⟨x, rfl, hx, hg, hg2, hb⟩ := hrel
    by_cases hlx : x < 16
    ·have hdx : decide ((x : Int) < 16) = true := by simp; omega
     go_wp2
     go_region_with (first | (go_at_fn q; refine (HP.out _ x y hlx hlt (by first | exact hb.out | exact below_drew hb.out | exact pw_below_drewN hb.out _)).mono ?_; rintro e w' ⟨rfl, hb2⟩; have hgn := Aside0.mk (blk_below (w := wr.drew) hg hb2); have hgn2 := Aside0.mk (blk_below (w := wr.drew) hg2 hb2); have hbn := Aside0.mk (below_then (below_drew hb.out) (below_drew hb.out).size hb2); have hc1 := GridAt.cell hgn.out (y * 16 + x) (by omega); have hf1 := GridAt.free hgn.out (y * 16 + x); clear hb2))
     all_goals
      go_wp2
      go_roundw
      case rel => exact ⟨x + 1, by go_num, by omega, (GridAt.set_ hgn.out (y * 16 + x) (so x y)).congr (fun p _ => gso_step so x y hlx p), blk_far hgn2.out (by simp) _, ⟨below_set hbn.out (by omega)⟩⟩
      case measure => simp [intOf]; omega
    ·have hdx : decide ((x : Int) < 16) = false := by simp; omega
     have hx16 : x = 16 := by omega
     subst hx16
     go_wp2
     go_roundw
     case rel => exact ⟨y + 1, by go_num, by omega, hg.congr (fun p _ => by rw [Nat.mul_add]), hg2, hb⟩
     case measure => simp [intOf]; omega
  ·have hdy : decide ((y : Int) < 16) = false := by simp; omega
   have hy16 : y = 16 := by omega
   subst hy16
   have hg' : wr.heap[w.heap.size + 1]? = some (.cells (gc (gso so 256)) 112 (0, 0)) := hg
   have hg2' : wr.heap[w.heap.size]? = some (.cells (gc fun _ => false) 112 (0, 0)) := hg2
   have hi : (Try.prog.info? 112).map (·.size) = some (gc (gso so 256)).size := by rw [gc_size]; exact info66
   have hold : (gc fun _ => false).size = (gc (gso so 256)).size := by rw [gc_size, gc_size]
   have h1 := gc_one (gso so 256)
   go_wp2_with (first
    | ((with_reducible refine gate_dst (N := 23) rfl ?_); refine wpList_load_row rfl 112 (.tmp 3) rfl (w.heap.size + 1) rfl 112 (gc (gso so 256)) (0, 0) (.array 16 110) hg' underlying66 rfl hi ?_)
    | ((with_reducible refine wpList_store_row rfl 112 (.tmp 2) (.tmp 23) rfl w.heap.size (gc (gso so 256)) ?hx ?hy 112 (gc fun _ => false) hg2' hi hold h1 ?_); (case hx => rfl); (case hy => rfl)))
   refine bodyPost_ret (results_cell_row rfl _ _ w.heap.size 112 (gc (gso so 256)) (0, 0) (.array 16 110) rfl (hg2.setRow (gso so 256)) underlying66 rfl hi) rfl ?_
   exact ⟨rfl, below_setRow hb.out (Nat.le_refl _) _⟩

def spec_equalInts.l0 : Nat → List Int → List Int → Int → Option (Bool)
 | 0, _, _, _ => none
 | k + 1, x0, x1, x5 => if x5 < (x0.length : Int) then (if 0 ≤ x5 then (if x5 < (x1.length : Int) then (if (rd x0 x5) = (rd x1 x5) then (spec_equalInts.l0 k x0 x1 (wrap64 (x5 + 1))) else (some false)) else (none)) else (none)) else (some true)
def spec_equalInts.f (k : Nat) (l0 : List Int) (l1 : List Int) : Option (Bool) := if (l0.length : Int) = (l1.length : Int) then (spec_equalInts.l0 k l0 l1 0) else (some false)
theorem spec_equalInts.calls (k : Nat) (A0 : Option Addr) (c0 : Nat) (l0 : List Int) (A1 : Option Addr) (c1 : Nat) (l1 : List Int) (r : Bool) (w : World) (hr0 : Kd.C (Kd.int .i64) w A0 l0.length l0) (hc0 : l0.length ≤ c0) (hr1 : Kd.C (Kd.int .i64) w A1 l1.length l1) (hc1 : l1.length ≤ c1) (h : spec_equalInts.f k l0 l1 = some r) :
  Calls Try.prog 161 #[.slice A0 l0.length c0, .slice A1 l1.length c1] w fun e w' => e = .returned (.bool r) ∧ Drawn0 w w' := by
 have HR0 := Aside0.mk hr0
 have HC0 := Aside0.mk hc0
 clear hr0 hc0
 have HR1 := Aside0.mk hr1
 have HC1 := Aside0.mk hc1
 clear hr1 hc1
 have H : (if (l0.length : Int) = (l1.length : Int) then (spec_equalInts.l0 k l0 l1 0) else (some false)) = some r := h
 clear h
 by_cases c3 : (l0.length : Int) = (l1.length : Int)
 ·rw [if_pos c3] at H
  have c3b0 : ((l0.length : Int) == (l1.length : Int)) = true := beq_iff_eq.mpr c3
  have c3b1 : ((l0.length : Int) != (l1.length : Int)) = false := bne_eq_false_iff_eq.mpr c3
  have c3b2 : (l0.length == l1.length) = true := by first | simpa using c3 | (simp at c3 ⊢; omega)
  clear c3
  have H' := Aside0.mk H
  clear H
  go_enter Try.func161, Try.ntmps161
  go_wp2
  repeat (go_quiet (fail); try go_wp2)
  go_loopg [5] k (fun kq v5 w' => ∃ (x5_1 : Int), v5 = .int .i64 x5_1 ∧ Aside0 (spec_equalInts.l0 kq l0 l1 x5_1 = some r) ∧ Aside0 (kq ≤ k) ∧ Drawn0 w w')
  case atStart => exact ⟨(0), (by first | rfl | (simp; done) | (simp [*]; done)), H', ⟨Nat.le_refl _⟩, by repeat (first | exact Drawn0.refl _ | apply Drawn0.step)⟩
  case round =>
   clear H'
   try clear c1
   try clear p2
   try clear c3
   try clear c3b0
   try clear c3b1
   try clear c3b2
   obtain ⟨x5_1, rfl, HA, HK1, ⟨m1, rfl⟩⟩ := hrel
   cases gk with
   | zero => exact absurd HA.out (by simp [spec_equalInts.l0])
   | succ k1 =>
    have H := HA.out
    clear HA
    simp only [spec_equalInts.l0] at H
    by_cases c4 : x5_1 < (l0.length : Int)
    ·rw [if_pos c4] at H
     have c4b0 : decide (x5_1 < (l0.length : Int)) = true := decide_eq_true c4
     clear c4
     by_cases c5 : 0 ≤ x5_1
     ·rw [if_pos c5] at H
      have c5b0 : decide (0 ≤ x5_1) = true := decide_eq_true c5
      clear c5
      by_cases c6 : x5_1 < (l1.length : Int)
      ·rw [if_pos c6] at H
       have c6b0 : decide (x5_1 < (l1.length : Int)) = true := decide_eq_true c6
       clear c6
       by_cases c7 : (rd l0 x5_1) = (rd l1 x5_1)
       ·rw [if_pos c7] at H
        have c7b0 : ((rd l0 x5_1) == (rd l1 x5_1)) = true := beq_iff_eq.mpr c7
        have c7b1 : ((rd l0 x5_1) != (rd l1 x5_1)) = false := bne_eq_false_iff_eq.mpr c7
        clear c7
        have H' := Aside0.mk H
        clear H
        have p162001 : 0 ≤ (x5_1 : Int) := of_decide_eq_true (by first | (with_reducible assumption) | assumption)
        have q162001 : x5_1 < (l0.length : Int) := of_decide_eq_true (by first | (with_reducible assumption) | assumption)
        obtain ⟨ad162001, e162001, hx162001_0⟩ := Kd.at_int HR0.out x5_1 p162001 q162001
        cases e162001
        replace p162001 := eq_true p162001
        replace q162001 := eq_true q162001
        have p162002 : 0 ≤ (x5_1 : Int) := of_decide_eq_true (by first | (with_reducible assumption) | assumption)
        have q162002 : x5_1 < (l1.length : Int) := of_decide_eq_true (by first | (with_reducible assumption) | assumption)
        obtain ⟨ad162002, e162002, hx162002_0⟩ := Kd.at_int HR1.out x5_1 p162002 q162002
        cases e162002
        replace p162002 := eq_true p162002
        replace q162002 := eq_true q162002
        go_wp2
        repeat (go_quiet (fail); try go_wp2)
        go_roundg k1
        case measure => have := HK1.out; omega
        case rel => exact ⟨(wrap64 (x5_1 + 1)), (by first | rfl | (simp; done) | (simp [*]; done)), H', ⟨by have := HK1.out; omega⟩, by repeat (first | exact Drawn0.refl _ | apply Drawn0.step)⟩
       ·rw [if_neg c7] at H
        have c7b0 : ((rd l0 x5_1) == (rd l1 x5_1)) = false := beq_eq_false_iff_ne.mpr c7
        have c7b1 : ((rd l0 x5_1) != (rd l1 x5_1)) = true := bne_iff_ne.mpr c7
        obtain rfl := Option.some.inj H
        have p162001 : 0 ≤ (x5_1 : Int) := of_decide_eq_true (by first | (with_reducible assumption) | assumption)
        have q162001 : x5_1 < (l0.length : Int) := of_decide_eq_true (by first | (with_reducible assumption) | assumption)
        obtain ⟨ad162001, e162001, hx162001_0⟩ := Kd.at_int HR0.out x5_1 p162001 q162001
        cases e162001
        replace p162001 := eq_true p162001
        replace q162001 := eq_true q162001
        have p162002 : 0 ≤ (x5_1 : Int) := of_decide_eq_true (by first | (with_reducible assumption) | assumption)
        have q162002 : x5_1 < (l1.length : Int) := of_decide_eq_true (by first | (with_reducible assumption) | assumption)
        obtain ⟨ad162002, e162002, hx162002_0⟩ := Kd.at_int HR1.out x5_1 p162002 q162002
        cases e162002
        replace p162002 := eq_true p162002
        replace q162002 := eq_true q162002
        go_wp2
        repeat (go_quiet (fail); try go_wp2)
        go_ret
        exact ⟨by first | rfl | (simp; done) | (simp [*]; done), by repeat (first | exact Drawn0.refl _ | apply Drawn0.step)⟩
      ·rw [if_neg c6] at H
       exact absurd H (by simp)
     ·rw [if_neg c5] at H
      exact absurd H (by simp)
    ·rw [if_neg c4] at H
     have c4b0 : decide (x5_1 < (l0.length : Int)) = false := decide_eq_false c4
     clear c4
     obtain rfl := Option.some.inj H
     go_wp2
     repeat (go_quiet (fail); try go_wp2)
     go_ret
     exact ⟨by first | rfl | (simp; done) | (simp [*]; done), by repeat (first | exact Drawn0.refl _ | apply Drawn0.step)⟩
 ·rw [if_neg c3] at H
  have c3b0 : ((l0.length : Int) == (l1.length : Int)) = false := beq_eq_false_iff_ne.mpr c3
  have c3b1 : ((l0.length : Int) != (l1.length : Int)) = true := bne_iff_ne.mpr c3
  have c3b2 : (l0.length == l1.length) = false := by first | simpa using c3 | (simp at c3 ⊢; omega)
  obtain rfl := Option.some.inj H
  go_enter Try.func161, Try.ntmps161
  go_wp2
  repeat (go_quiet (fail); try go_wp2)
  go_ret
  exact ⟨by first | rfl | (simp; done) | (simp [*]; done), by repeat (first | exact Drawn0.refl _ | apply Drawn0.step)⟩


mutual
def spec_changed.l0 : Nat → List Bool → Int → Int → Int → Int → List Int → Int → Int → Int → List Int → Option ((List S118))
 | 0, _, _, _, _, _, _, _, _, _, _ => none
 | k + 1, x5, x6, xz0, xz1, xz2, xz3, xz4, xz5, xz6, xz7 => if x6 < xz1 then (spec_changed.l1 k x5 x6 0 xz0 xz1 xz2 xz3 xz4 xz5 xz6 xz7) else ((spec_runsOf.f k x5).bind fun tz3 => (some tz3))
def spec_changed.l1 : Nat → List Bool → Int → Int → Int → Int → Int → List Int → Int → Int → Int → List Int → Option ((List S118))
 | 0, _, _, _, _, _, _, _, _, _, _, _ => none
 | k + 1, x5, x6, x7, xz0, xz1, xz2, xz3, xz4, xz5, xz6, xz7 => if x7 < xz0 then ((spec_pixelAt.f xz0 xz1 xz2 xz3 x7 x6).bind fun tz2 => ((spec_pixelAt.f xz4 xz5 xz6 xz7 x7 x6).bind fun tz1 => ((spec_equalInts.f k tz2 tz1).bind fun tz0 => (if 0 ≤ (wrap64 ((wrap64 (x6 * 16)) + x7)) then (if (wrap64 ((wrap64 (x6 * 16)) + x7)) < (x5.length : Int) then (spec_changed.l1 k (x5.set ((wrap64 ((wrap64 (x6 * 16)) + x7)) : Int).toNat (!tz0)) x6 (wrap64 (x7 + 1)) xz0 xz1 xz2 xz3 xz4 xz5 xz6 xz7) else none) else none)))) else (spec_changed.l0 k x5 (wrap64 (x6 + 1)) xz0 xz1 xz2 xz3 xz4 xz5 xz6 xz7)
end
def spec_changed.f (k : Nat) (a0_0 : Int) (a0_1 : Int) (a0_2 : Int) (l0_3 : List Int) (a1_0 : Int) (a1_1 : Int) (a1_2 : Int) (l1_3 : List Int) : Option ((List S118)) := if 256 ≤ 281474976710656 then (spec_changed.l0 k (List.replicate 256 false) 0 a0_0 a0_1 a0_2 l0_3 a1_0 a1_1 a1_2 l1_3) else (none)
def spec_changed.T8 : Bool × List (List Nat × List Nat) := (true, [([], []), ([], []), ([1], [1]), ([], []), ([2, 3], [2, 3]), ([], []), ([], []), ([], []), ([5, 6, 7], [5, 6, 7]), ([], []), ([], []), ([], []), ([9, 10, 11, 8], [9, 10, 11]), ([8, 12, 12], [8, 12]), ([13], [13]), ([0, 4, 0, 1, 2, 3, 4, 5, 6, 7, 8, 9, 10, 11, 12, 13, 14], [0, 4]), ([15, 14, 13, 0, 1, 2, 3, 4, 5, 6, 7, 8, 9, 10, 11, 12, 13, 14], [14, 15])])
def spec_changed.B8 : List Nat := [0, 0, 2, 0, 14, 0, 0, 0, 224, 0, 0, 0, 4064, 8160, 16352, 32767, 65535]
theorem spec_changed.tab8 : rtab .any (opsOf Try.f151 8) = spec_changed.T8 := by kernel_rfl
theorem spec_changed.bits8 : waitsOk spec_changed.T8.2 spec_changed.B8 = true := by kernel_rfl
theorem spec_changed.calls (k : Nat) (a0_0 : Int) (a0_1 : Int) (a0_2 : Int) (A0_3 : Option Addr) (c0_3 : Nat) (l0_3 : List Int) (a1_0 : Int) (a1_1 : Int) (a1_2 : Int) (A1_3 : Option Addr) (c1_3 : Nat) (l1_3 : List Int) (r : List S118) (w : World) (hr0_3 : Kd.C (Kd.int .i64) w A0_3 l0_3.length l0_3) (hc0_3 : l0_3.length ≤ c0_3) (hr1_3 : Kd.C (Kd.int .i64) w A1_3 l1_3.length l1_3) (hc1_3 : l1_3.length ≤ c1_3) (h : spec_changed.f k a0_0 a0_1 a0_2 l0_3 a1_0 a1_1 a1_2 l1_3 = some r) :
  Calls Try.prog 151 #[.agg #[.int .i64 a0_0, .int .i64 a0_1, .int .i64 a0_2, .slice A0_3 l0_3.length c0_3], .agg #[.int .i64 a1_0, .int .i64 a1_1, .int .i64 a1_2, .slice A1_3 l1_3.length c1_3]] w fun e w' => ∃ v0_ : Value, e = .returned v0_ ∧ Kd.R k118 118 w' w.heap.size (fun _ => True) v0_ r ∧ Below w.heap.size w w' := by
 have hu27 := Try.underlying27
 have HR0_3 := mk hr0_3
 have HC0_3 := mk hc0_3
 clear hr0_3 hc0_3
 have HR1_3 := mk hr1_3
 have HC1_3 := mk hc1_3
 clear hr1_3 hc1_3
 have HB := mk (Below.refl w.heap.size w)
 have H : (if 256 ≤ 281474976710656 then (spec_changed.l0 k (List.replicate 256 false) 0 a0_0 a0_1 a0_2 l0_3 a1_0 a1_1 a1_2 l1_3) else none) = some r := h
 clear h
 by_cases c3 : 256 ≤ 281474976710656
 ·rw [if_pos c3] at H
  have c3b0 := eq_true c3
  have c3b1 : decide (256 ≤ 281474976710656) = true := decide_eq_true c3
  clear c3
  obtain ⟨yz0, hyz0⟩ : ∃ y_ : List Bool, y_ = (List.replicate 256 false) := ⟨_, rfl⟩
  replace H : (spec_changed.l0 k yz0 0 a0_0 a0_1 a0_2 l0_3 a1_0 a1_1 a1_2 l1_3) = some r := by (rw [hyz0]; with_reducible exact H)
  have Nyz0 := mk hyz0
  clear hyz0
  have H' := mk H
  clear H
  go_enter Try.func151, Try.ntmps151
  go_wp2_with (first | ((with_reducible refine gate_dst (N := 2) rfl ?_); refine box_event (by rfl) (N := 2) (by rfl) (cs := #[.int .i64 a0_0, .int .i64 a0_1, .int .i64 a0_2, .slice A0_3 l0_3.length c0_3]) (t := 27) (by go_simp; done) ?_; intro gbz0 hg w4 hbox hb; replace HB := mk (below_step HB.out hb); have BKz0 := mk (hbox); clear hb hbox hg) | ((with_reducible refine gate_dst (N := 3) rfl ?_); refine box_event (by rfl) (N := 3) (by rfl) (cs := #[.int .i64 a1_0, .int .i64 a1_1, .int .i64 a1_2, .slice A1_3 l1_3.length c1_3]) (t := 27) (by go_simp; done) ?_; intro gbz1 hg w5 hbox hb; replace BKz0 := mk (blk_below BKz0.out hb); replace HB := mk (below_step HB.out hb); have BKz1 := mk (hbox); clear hb hbox hg) | ((with_reducible refine gate_dst (N := 8) rfl ?_); refine Kd.R_make Kd.bool _ 4 rfl (N := 8) rfl 162 _ _ rfl 256 rfl rfl Try.underlying162 (.bool false) 1 info4 rfl (by decide) (by omega) false (ok := fun _ => True) (okp := fun _ => True) rfl (fun _ hk => hk) trivial (by omega) (by omega) (Below.refl _ _) (Nat.le_refl _) ?_; intro vz0 w6 ho7 hb hg_ hnew_; clear hg_ hnew_; (simp only [Int.reduceToNat] at ho7; rw [← Nyz0.out] at ho7); have HOz2 := mk (Kd.R_lower ho7 (below_size HB.out)); replace BKz0 := mk (blk_below BKz0.out hb); replace BKz1 := mk (blk_below BKz1.out hb); replace HB := mk (below_step HB.out hb); clear hb ho7))
  go_loopg [6] k (fun kq v6 w' => ∃ (x5_1 : List Bool) (x6_1 : Int), v6 = .int .i64 x6_1 ∧ Aside0 (spec_changed.l0 kq x5_1 x6_1 a0_0 a0_1 a0_2 l0_3 a1_0 a1_1 a1_2 l1_3 = some r) ∧ Aside0 (kq ≤ k) ∧ Aside0 (Kd.R Kd.bool 4 w' w.heap.size (fun _ => True) vz0 x5_1) ∧ Aside0 (w'.heap[gbz0]? = some (.cells #[.int .i64 a0_0, .int .i64 a0_1, .int .i64 a0_2, (.slice A0_3 l0_3.length c0_3)] 27 (0, 0))) ∧ Aside0 (w'.heap[gbz1]? = some (.cells #[.int .i64 a1_0, .int .i64 a1_1, .int .i64 a1_2, (.slice A1_3 l1_3.length c1_3)] 27 (0, 0))) ∧ Aside0 (Below w.heap.size w w'))
  case atStart => exact ⟨(yz0), (0), (by rfl), H', ⟨Nat.le_refl _⟩, HOz2, BKz0, BKz1, HB⟩
  case round =>
   clear H'
   obtain ⟨x5_1, x6_1, rfl, HA, HK1, HO_5, BKz0, BKz1, HB⟩ := hrel
   cases gk with
   | zero => exact absurd HA.out (by simp [spec_changed.l0])
   | succ k1 =>
    have H := HA.out
    clear HA
    simp only [spec_changed.l0] at H
    by_cases c8 : x6_1 < a0_1
    ·rw [if_pos c8] at H
     have c8b0 : decide (x6_1 < a0_1) = true := decide_eq_true c8
     clear c8
     have H' := mk H
     clear H
     obtain ⟨hcz10_0, hcz10_1, hcz10_2, hcz10_3, hfz10_0, hfz10_1, hfz10_2, hfz10_3⟩ := c4 BKz0.out
     go_wp2
     go_loopg [7] k1 (fun kq v7 w' => ∃ (x5_2 : List Bool) (x7_2 : Int), v7 = .int .i64 x7_2 ∧ Aside0 (spec_changed.l1 kq x5_2 x6_1 x7_2 a0_0 a0_1 a0_2 l0_3 a1_0 a1_1 a1_2 l1_3 = some r) ∧ Aside0 (kq ≤ k1) ∧ Aside0 (Kd.R Kd.bool 4 w' w.heap.size (fun _ => True) vz0 x5_2) ∧ Aside0 (w'.heap[gbz0]? = some (.cells #[.int .i64 a0_0, .int .i64 a0_1, .int .i64 a0_2, (.slice A0_3 l0_3.length c0_3)] 27 (0, 0))) ∧ Aside0 (w'.heap[gbz1]? = some (.cells #[.int .i64 a1_0, .int .i64 a1_1, .int .i64 a1_2, (.slice A1_3 l1_3.length c1_3)] 27 (0, 0))) ∧ Aside0 (Below w.heap.size w w'))
     case atStart => exact ⟨(x5_1), (0), (by rfl), H', ⟨Nat.le_refl _⟩, HO_5, BKz0, BKz1, HB⟩
     case round =>
      clear H'
      obtain ⟨x5_2, x7_2, rfl, HA, HK2, HO_5, BKz0, BKz1, HB⟩ := hrel
      cases gk with
      | zero => exact absurd HA.out (by simp [spec_changed.l1])
      | succ k2 =>
       have H := HA.out
       clear HA
       simp only [spec_changed.l1] at H
       by_cases c11 : x7_2 < a0_0
       ·rw [if_pos c11] at H
        have c11b0 : decide (x7_2 < a0_0) = true := decide_eq_true c11
        clear c11
        replace H := Option.bind_eq_some_iff.mp H
        obtain ⟨tz2, A120, H⟩ := H
        replace H : ((spec_pixelAt.f a1_0 a1_1 a1_2 l1_3 x7_2 x6_1).bind fun tz1 => ((spec_equalInts.f k2 tz2 tz1).bind fun tz0 => (if 0 ≤ (wrap64 ((wrap64 (x6_1 * 16)) + x7_2)) then (if (wrap64 ((wrap64 (x6_1 * 16)) + x7_2)) < (x5_2.length : Int) then (spec_changed.l1 k2 (x5_2.set ((wrap64 ((wrap64 (x6_1 * 16)) + x7_2)) : Int).toNat (!tz0)) x6_1 (wrap64 (x7_2 + 1)) a0_0 a0_1 a0_2 l0_3 a1_0 a1_1 a1_2 l1_3) else none) else none))) = some r := H
        have A12 := mk A120
        clear A120
        replace H := Option.bind_eq_some_iff.mp H
        obtain ⟨tz1, A130, H⟩ := H
        replace H : ((spec_equalInts.f k2 tz2 tz1).bind fun tz0 => (if 0 ≤ (wrap64 ((wrap64 (x6_1 * 16)) + x7_2)) then (if (wrap64 ((wrap64 (x6_1 * 16)) + x7_2)) < (x5_2.length : Int) then (spec_changed.l1 k2 (x5_2.set ((wrap64 ((wrap64 (x6_1 * 16)) + x7_2)) : Int).toNat (!tz0)) x6_1 (wrap64 (x7_2 + 1)) a0_0 a0_1 a0_2 l0_3 a1_0 a1_1 a1_2 l1_3) else none) else none)) = some r := H
        have A13 := mk A130
        clear A130
        replace H := Option.bind_eq_some_iff.mp H
        obtain ⟨tz0, A140, H⟩ := H
        replace H : (if 0 ≤ (wrap64 ((wrap64 (x6_1 * 16)) + x7_2)) then (if (wrap64 ((wrap64 (x6_1 * 16)) + x7_2)) < (x5_2.length : Int) then (spec_changed.l1 k2 (x5_2.set ((wrap64 ((wrap64 (x6_1 * 16)) + x7_2)) : Int).toNat (!tz0)) x6_1 (wrap64 (x7_2 + 1)) a0_0 a0_1 a0_2 l0_3 a1_0 a1_1 a1_2 l1_3) else none) else none) = some r := H
        have A14 := mk A140
        clear A140
        obtain ⟨ji15, hji15⟩ : ∃ j_ : Int, (wrap64 ((wrap64 (x6_1 * 16)) + x7_2)) = j_ := ⟨_, rfl⟩
        replace H : (if 0 ≤ ji15 then (if ji15 < (x5_2.length : Int) then (spec_changed.l1 k2 (x5_2.set (ji15 : Int).toNat (!tz0)) x6_1 (wrap64 (x7_2 + 1)) a0_0 a0_1 a0_2 l0_3 a1_0 a1_1 a1_2 l1_3) else none) else none) = some r := by (rw [hji15] at H; exact H)
        have hji15w : (IntKind.i64.wrap ((wrap64 (x6_1 * 16)) + x7_2)) = ji15 := (i64_w _).trans hji15
        by_cases c16 : 0 ≤ (ji15)
        ·rw [if_pos c16] at H
         have c16b0 : decide (0 ≤ ji15) = true := decide_eq_true c16
         clear c16
         by_cases c17 : ji15 < (x5_2.length : Int)
         ·rw [if_pos c17] at H
          have c17b0 : decide (ji15 < (x5_2.length : Int)) = true := decide_eq_true c17
          clear c17
          obtain ⟨yz1, hyz1⟩ : ∃ y_ : List Bool, y_ = (x5_2.set (ji15 : Int).toNat (!tz0)) := ⟨_, rfl⟩
          replace H : (spec_changed.l1 k2 yz1 x6_1 (wrap64 (x7_2 + 1)) a0_0 a0_1 a0_2 l0_3 a1_0 a1_1 a1_2 l1_3) = some r := by (rw [hyz1]; with_reducible exact H)
          have Nyz1 := mk hyz1
          clear hyz1
          have H' := mk H
          clear H
          have hcz20_0 : wr.cell? ⟨gbz0, 0, none⟩ = some (.int .i64 a0_0) := (blk_cell BKz0.out 0).trans rfl
          try go_wp2
          replace HO_5 := mk (Kd.R_drew HO_5.out)
          replace BKz0 := mk (blk_drew BKz0.out)
          replace BKz1 := mk (blk_drew BKz1.out)
          replace HB := mk (below_drew1 HB.out)
          refine start_ (n := 17) (S := fun w' => w'.cell? ⟨gbz0, 0, none⟩ = some (.int .i64 a0_0) ∧ w'.cell? ⟨gbz0, 1, none⟩ = some (.int .i64 a0_1) ∧ w'.cell? ⟨gbz0, 2, none⟩ = some (.int .i64 a0_2) ∧ w'.cell? ⟨gbz0, 3, none⟩ = some (.slice A0_3 l0_3.length c0_3) ∧ w'.cell? ⟨gbz1, 0, none⟩ = some (.int .i64 a1_0) ∧ w'.cell? ⟨gbz1, 1, none⟩ = some (.int .i64 a1_1) ∧ w'.cell? ⟨gbz1, 2, none⟩ = some (.int .i64 a1_2) ∧ w'.cell? ⟨gbz1, 3, none⟩ = some (.slice A1_3 l1_3.length c1_3)) (ds := [16]) #[false, false, false, false, false, false, false, false, false, false, false, false, false, false, false, false, false] (by kernel_rfl) rfl rfl ⟨blk_cell BKz0.out 0, blk_cell BKz0.out 1, blk_cell BKz0.out 2, blk_cell BKz0.out 3, blk_cell BKz1.out 0, blk_cell BKz1.out 1, blk_cell BKz1.out 2, blk_cell BKz1.out 3⟩ (fun hHeld => ?_); refine with_tabW spec_changed.tab8 spec_changed.bits8 (fun HT_ HW_ => ?_)
          generalize wr.drew = w21 at HO_5 BKz0 BKz1 HB hHeld ⊢
          refine pu 0 21 ?_ ?_ rfl rfl (any_of HT_.out (by kernel_rfl)) (Or.inl ⟨by rfl, ?_⟩) ?_ ?_
          rotate_left 2
          ·intro w'
           go_simp
           with_reducible rfl
          ·simp only [seval]
           rfl
          refine pu 1 22 ?_ ?_ rfl rfl (any_of HT_.out (by kernel_rfl)) (Or.inl ⟨by rfl, ?_⟩) ?_ ?_
          rotate_left 2
          ·intro w'
           go_simp
           with_reducible rfl
          ·simp only [seval]
           rfl
          refine pu 2 23 ?_ ?_ rfl rfl (any_of HT_.out (by kernel_rfl)) (Or.inl ⟨by rfl, ?_⟩) ?_ ?_
          rotate_left 2
          ·intro w'
           go_simp
           with_reducible rfl
          ·simp only [seval]
           rfl
          refine pu 3 24 ?_ ?_ rfl rfl (any_of HT_.out (by kernel_rfl)) (Or.inl ⟨by rfl, ?_⟩) ?_ ?_
          rotate_left 2
          ·intro w'
           go_simp
           with_reducible rfl
          ·simp only [seval]
           rfl
          refine pu 4 25 ?_ ?_ rfl rfl (any_of HT_.out (by kernel_rfl)) (Or.inl ⟨by rfl, ?_⟩) ?_ ?_
          rotate_left 2
          ·intro w'
           go_simp
           with_reducible rfl
          ·simp only [seval]
           rfl
          refine pu 6 27 ?_ ?_ rfl rfl (any_of HT_.out (by kernel_rfl)) (Or.inl ⟨by rfl, ?_⟩) ?_ ?_
          rotate_left 2
          ·intro w'
           go_simp
           with_reducible rfl
          ·simp only [seval]
           rfl
          refine pu 7 28 ?_ ?_ rfl rfl (any_of HT_.out (by kernel_rfl)) (Or.inl ⟨by rfl, ?_⟩) ?_ ?_
          rotate_left 2
          ·intro w'
           go_simp
           with_reducible rfl
          ·simp only [seval]
           rfl
          refine pu 10 31 ?_ ?_ rfl rfl (any_of HT_.out (by kernel_rfl)) (Or.inl ⟨by rfl, ?_⟩) ?_ ?_
          rotate_left 2
          ·intro w'
           go_simp
           with_reducible rfl
          ·simp only [seval]
           rfl
          refine pu 11 32 ?_ ?_ rfl rfl (any_of HT_.out (by kernel_rfl)) (Or.inl ⟨by rfl, ?_⟩) ?_ ?_
          rotate_left 2
          ·intro w'
           go_simp
           with_reducible rfl
          ·simp only [seval]
           rfl
          refine tk 5 26 ?_ ?_ rfl rfl (take_ofW HT_.out HW_.out (by kernel_rfl)) (Or.inl ⟨by rfl, ?_⟩) hHeld ?_ ?_
          rotate_left 2
          ·rintro w' ⟨s0, s1, s2, s3, s4, s5, s6, s7⟩
           go_simp
           with_reducible rfl
          ·simp only [seval]
           rfl
          refine tk 9 30 ?_ ?_ rfl rfl (take_ofW HT_.out HW_.out (by kernel_rfl)) (Or.inl ⟨by rfl, ?_⟩) hHeld ?_ ?_
          rotate_left 2
          ·rintro w' ⟨s0, s1, s2, s3, s4, s5, s6, s7⟩
           go_simp
           with_reducible rfl
          ·simp only [seval]
           rfl
          refine one_ (i := 8) (N := some 29) #[true, true, true, true, true, true, true, true, true, true, true, true, false, false, false, false, false] rfl rfl (one_of HT_.out (by kernel_rfl)) (by decide) (fun K hK => ?_)
          refine goes_ Try.func149 (by kernel_rfl) rfl #[.agg #[.int .i64 a0_0, .int .i64 a0_1, .int .i64 a0_2, .slice A0_3 l0_3.length c0_3], .int .i64 x7_2, .int .i64 x6_1] (by rfl) rfl rfl (by (try simp only [bitvec_to_nat]); rfl) ?_
          with_reducible refine (spec_pixelAt.calls a0_0 a0_1 a0_2 _ _ l0_3 x7_2 x6_1 tz2 _ ?side1 ?side2 A12.out).mono ?_
          (case side1 => repeat (exact (Kd.C_below HR0_3.out HB.out)))
          (case side2 => exact HC0_3.out)
          rintro e w22 ⟨vz1, rfl, ho0, hb⟩
          refine ⟨_, rfl, ?_⟩
          replace HO_5 := mk (Kd.R_below HO_5.out hb)
          have HOz0 := mk (Kd.R_lower ho0 (below_size HB.out))
          replace BKz0 := mk (blk_below BKz0.out hb)
          replace BKz1 := mk (blk_below BKz1.out hb)
          replace HB := mk (below_step HB.out hb)
          (try clear hb)
          (try clear ho0)
          refine hK.out _ _ ⟨blk_cell BKz0.out 0, blk_cell BKz0.out 1, blk_cell BKz0.out 2, blk_cell BKz0.out 3, blk_cell BKz1.out 0, blk_cell BKz1.out 1, blk_cell BKz1.out 2, blk_cell BKz1.out 3⟩ (fun hHeld => ?_)
          clear hK K
          refine norm_ (a' := ?_) ?_ ?_
          rotate_left
          ·show Act.put _ (some 29) _ = _
           simp only [seval]
           rfl
          refine one_ (i := 12) (N := some 33) #[true, true, true, true, true, true, true, true, true, true, true, true, true, false, false, false, false] rfl rfl (one_of HT_.out (by kernel_rfl)) (by decide) (fun K hK => ?_)
          refine goes_ Try.func149 (by kernel_rfl) rfl #[.agg #[.int .i64 a1_0, .int .i64 a1_1, .int .i64 a1_2, .slice A1_3 l1_3.length c1_3], .int .i64 x7_2, .int .i64 x6_1] (by rfl) rfl rfl (by (try simp only [bitvec_to_nat]); rfl) ?_
          with_reducible refine (spec_pixelAt.calls a1_0 a1_1 a1_2 _ _ l1_3 x7_2 x6_1 tz1 _ ?side1 ?side2 A13.out).mono ?_
          (case side1 => repeat (exact (Kd.C_below HR1_3.out HB.out)))
          (case side2 => exact HC1_3.out)
          rintro e w23 ⟨vz2, rfl, ho0, hb⟩
          refine ⟨_, rfl, ?_⟩
          replace HO_5 := mk (Kd.R_below HO_5.out hb)
          have HOz1 := mk (Kd.R_lower (Kd.R_new' ho0 (Kd.R_lt HOz0.out)) (below_size HB.out))
          replace HOz0 := mk (Kd.R_elder' HOz0.out (Kd.R_base ho0) hb)
          replace BKz0 := mk (blk_below BKz0.out hb)
          replace BKz1 := mk (blk_below BKz1.out hb)
          replace HB := mk (below_step HB.out hb)
          (try clear hb)
          (try clear ho0)
          obtain ⟨Ao24, co24, eo24⟩ := Kd.R_slice HOz0.out
          (subst eo24)
          obtain ⟨Ao25, co25, eo25⟩ := Kd.R_slice HOz1.out
          (subst eo25)
          refine hK.out _ _ ⟨blk_cell BKz0.out 0, blk_cell BKz0.out 1, blk_cell BKz0.out 2, blk_cell BKz0.out 3, blk_cell BKz1.out 0, blk_cell BKz1.out 1, blk_cell BKz1.out 2, blk_cell BKz1.out 3⟩ (fun hHeld => ?_)
          clear hK K
          refine norm_ (a' := ?_) ?_ ?_
          rotate_left
          ·show Act.put _ (some 33) _ = _
           simp only [seval]
           rfl
          refine one_ (i := 13) (N := some 34) #[true, true, true, true, true, true, true, true, true, true, true, true, true, true, false, false, false] rfl rfl (one_of HT_.out (by kernel_rfl)) (by decide) (fun K hK => ?_)
          refine goes_ Try.func161 (by kernel_rfl) rfl #[.slice Ao24 tz2.length co24, .slice Ao25 tz1.length co25] (by rfl) rfl rfl (by (try simp only [bitvec_to_nat]); rfl) ?_
          with_reducible refine (spec_equalInts.calls k2 _ _ tz2 _ _ tz1 tz0 _ ?side1 ?side2 ?side3 ?side4 A14.out).mono ?_
          (case side1 => repeat (exact (Kd.R_reads' HOz0.out).2.2))
          (case side2 => exact (Kd.R_reads' HOz0.out).2.1)
          (case side3 => repeat (exact (Kd.R_reads' HOz1.out).2.2))
          (case side4 => exact (Kd.R_reads' HOz1.out).2.1)
          rintro e w' ⟨rfl, ⟨nd, rfl⟩⟩
          refine ⟨_, rfl, ?_⟩
          have p18 : 0 ≤ (ji15 : Int) := of_decide_eq_true (by (with_reducible assumption))
          have q18 : (ji15 : Int) < ((x5_2.length : Int) : Int) := of_decide_eq_true (by (with_reducible assumption))
          obtain ⟨go18, co18, eo18, gb18, gl18, cl18, HG18⟩ := Kd.R_form HO_5.out (by omega)
          (cases eo18)
          have GB18 := mk gb18
          have GG18 := mk HG18
          clear gb18 gl18 HG18
          obtain ⟨hx18_0, hf18_0⟩ := Kd.R_celln false HO_5.out (ji15 : Int) p18 q18
          replace p18 := eq_true p18
          replace q18 := eq_true q18
          have HP26 := Kd.R_putn HO_5.out (ji15 : Int) (!tz0)
          rw [← Nyz1.out] at HP26
          have HQ26 := mk HP26
          clear HP26
          refine hK.out _ _ ⟨blk_cell BKz0.out 0, blk_cell BKz0.out 1, blk_cell BKz0.out 2, blk_cell BKz0.out 3, blk_cell BKz1.out 0, blk_cell BKz1.out 1, blk_cell BKz1.out 2, blk_cell BKz1.out 3⟩ (fun hHeld => ?_)
          clear hK K
          refine norm_ (a' := ?_) ?_ ?_
          rotate_left
          ·show Act.put _ (some 34) _ = _
           simp only [seval]
           rfl
          refine pu 14 35 ?_ ?_ rfl rfl (any_of HT_.out (by kernel_rfl)) (Or.inl ⟨by rfl, ?_⟩) ?_ ?_
          rotate_left 2
          ·intro w'
           go_simp
           with_reducible rfl
          ·simp only [seval]
           rfl
          refine pu 15 36 ?_ ?_ rfl rfl (any_of HT_.out (by kernel_rfl)) (Or.inl ⟨by rfl, ?_⟩) ?_ ?_
          rotate_left 2
          ·intro w'
           go_simp
           with_reducible rfl
          ·simp only [seval]
           rfl
          refine last_ (i := 16) (N := none) #[true, true, true, true, true, true, true, true, true, true, true, true, true, true, true, true, true] rfl rfl (one_of HT_.out (by kernel_rfl)) (by decide) (fun K hK => ?_)
          refine skip_ (w1 := ?_) (by rfl) rfl ?_ ?_
          rotate_left
          ·go_simp
           rfl
          refine hK.out _ _ ?_
          clear hK K
          refine done_ (done_of HT_.out (by kernel_rfl)) ?_
          try go_wp2
          go_roundg k2
          case measure => have := HK1.out; have := HK2.out; omega
          case rel => exact ⟨(yz1), (wrap64 (x7_2 + 1)), (by rfl), H', ⟨by have := HK1.out; have := HK2.out; omega⟩, HQ26, ⟨by refine blk_far ?_ (by have h_ := Kd.R_ne HO_5.out BKz0.out (by decide); intro e_; exact h_ (by rw [e_]; rfl)) _; (with_reducible repeat (refine blk_drewN ?_ _)); exact BKz0.out⟩, ⟨by refine blk_far ?_ (by have h_ := Kd.R_ne HO_5.out BKz1.out (by decide); intro e_; exact h_ (by rw [e_]; rfl)) _; (with_reducible repeat (refine blk_drewN ?_ _)); exact BKz1.out⟩, ⟨by repeat (with_reducible first | exact HB.out | apply pw_below_drewN | refine below_set ?_ GB18.out)⟩⟩
         rw [if_neg c17] at H
         exact absurd H (by simp)
        rw [if_neg c16] at H
        exact absurd H (by simp)
       rw [if_neg c11] at H
       have c11b0 : decide (x7_2 < a0_0) = false := decide_eq_false c11
       clear c11
       have H' := mk H
       clear H
       have hcz28_0 : wr.cell? ⟨gbz0, 0, none⟩ = some (.int .i64 a0_0) := (blk_cell BKz0.out 0).trans rfl
       go_wp2
       go_roundg k2
       case measure => have := HK1.out; have := HK2.out; omega
       case rel => exact ⟨(x5_2), (wrap64 (x6_1 + 1)), (by rfl), H', ⟨by have := HK1.out; have := HK2.out; omega⟩, HO_5, BKz0, BKz1, HB⟩
    rw [if_neg c8] at H
    have c8b0 : decide (x6_1 < a0_1) = false := decide_eq_false c8
    clear c8
    replace H := Option.bind_eq_some_iff.mp H
    obtain ⟨tz3, A290, H⟩ := H
    replace H : (some tz3) = some r := H
    have A29 := mk A290
    clear A290
    obtain rfl := Option.some.inj H
    have hcz31_1 : wr.cell? ⟨gbz0, 1, none⟩ = some (.int .i64 a0_1) := (blk_cell BKz0.out 1).trans rfl
    obtain ⟨Ao32, co32, eo32⟩ := Kd.R_slice HO_5.out
    subst eo32
    go_wp2_with (first | ((with_reducible refine gate_callee (f := 160) rfl ?_); refine goesL_ (some 38) rfl rfl Try.func160 (by kernel_rfl) rfl #[.slice Ao32 x5_1.length co32] rfl (by (try simp only [bitvec_to_nat]); rfl) ?_; (with_reducible refine (spec_runsOf.calls k1 _ _ x5_1 tz3 _ ?side1 ?side2 A29.out).mono ?_); (case side1 => repeat (exact (Kd.R_reads' HO_5.out).2.2)); (case side2 => exact (Kd.R_reads' HO_5.out).2.1); rintro e w33 ⟨vz3, rfl, ho0, hb⟩; refine ⟨_, rfl, ?_⟩; have n1_ := mk (Kd.R_lower ho0 (below_size HB.out)); have n4_ := mk (below_step HB.out hb); clear HO_5; clear BKz0; clear BKz1; clear HB; have HOz3 := n1_; have HB := n4_; (try clear hb); (try clear ho0)))
    go_ret
    exact ⟨_, by rfl, by exact HOz3.out, by exact HB.out⟩
 rw [if_neg c3] at H
 exact absurd H (by simp)


def spec_boundsOf.l0 : Nat → List S118 → Int → Int → Int → Option (Int × Int × Int × Int)
 | 0, _, _, _, _ => none
 | k + 1, x0, x3, x4, x5 => if x5 < (x0.length : Int) then (if 0 ≤ x5 then (spec_boundsOf.l0 k x0 (mn x3 ((rd_T118 x0 x5).f1)) (mx x4 ((rd_T118 x0 x5).f2)) (wrap64 (x5 + 1))) else none) else (if 0 < (x0.length : Int) then (if 0 ≤ (wrap64 ((x0.length : Int) - 1)) then (if (wrap64 ((x0.length : Int) - 1)) < (x0.length : Int) then (some (x3, (rd_T118 x0 0).f0, wrap64 (x4 - x3), wrap64 ((wrap64 (((rd_T118 x0 (wrap64 ((x0.length : Int) - 1))).f0) - ((rd_T118 x0 0).f0))) + 1))) else none) else none) else none)
def spec_boundsOf.f (k : Nat) (l0 : List S118) : Option (Int × Int × Int × Int) := if 0 < (l0.length : Int) then (spec_boundsOf.l0 k l0 ((rd_T118 l0 0).f1) ((rd_T118 l0 0).f2) 0) else (none)
def spec_boundsOf.T8 : Bool × List (List Nat × List Nat) := (true, [([], []), ([], []), ([1], [1]), ([2], [2]), ([3], [3]), ([], []), ([], []), ([5, 6], [5, 6]), ([], []), ([], []), ([9], [9]), ([10], [10]), ([8, 11], [8, 11]), ([12], [12]), ([13], [13]), ([], []), ([15], [15]), ([16], [16]), ([17], [17]), ([14, 18], [14, 18]), ([19], [19]), ([0, 4, 7, 20], [0, 4, 7, 20]), ([21, 0, 1, 2, 3, 4, 5, 6, 7, 8, 9, 10, 11, 12, 13, 14, 15, 16, 17, 18, 19, 20, 21], [21])])
def spec_boundsOf.B8 : List Nat := [0, 0, 2, 6, 14, 0, 0, 96, 0, 0, 512, 1536, 3840, 7936, 16128, 0, 32768, 98304, 229376, 524032, 1048320, 2097151, 4194303]
theorem spec_boundsOf.tab8 : rtab .any (opsOf Try.f152 8) = spec_boundsOf.T8 := by kernel_rfl
theorem spec_boundsOf.bits8 : waitsOk spec_boundsOf.T8.2 spec_boundsOf.B8 = true := by kernel_rfl
theorem spec_boundsOf.calls (k : Nat) (A0 : Option Addr) (c0 : Nat) (l0 : List S118) (r1 : Int) (r2 : Int) (r3 : Int) (r4 : Int) (w : World) (hr0 : Kd.C k118 w A0 l0.length l0) (hc0 : l0.length ≤ c0) (h : spec_boundsOf.f k l0 = some (r1, r2, r3, r4)) :
  Calls Try.prog 152 #[.slice A0 l0.length c0] w fun e w' => e = .returned (.agg #[.int .i64 r1, .int .i64 r2, .int .i64 r3, .int .i64 r4]) ∧ Below w.heap.size w w' := by
 have hu47 := Try.underlying47
 have HR0 := Aside0.mk hr0
 have HC0 := Aside0.mk hc0
 clear hr0 hc0
 have HB := Aside0.mk (Below.refl w.heap.size w)
 have H : (if 0 < (l0.length : Int) then (spec_boundsOf.l0 k l0 ((rd_T118 l0 0).f1) ((rd_T118 l0 0).f2) 0) else none) = some (r1, r2, r3, r4) := h
 clear h
 by_cases c2 : 0 < (l0.length : Int)
 ·rw [if_pos c2] at H
  have c2b0 : decide (0 < (l0.length : Int)) = true := decide_eq_true c2
  have c2b1 : decide (0 < l0.length) = true := decide_eq_true (by omega)
  clear c2
  have H' := Aside0.mk H
  clear H
  go_enter Try.func152, Try.ntmps152
  go_wp2_with (first | ((with_reducible refine gate_dst (N := 2) rfl ?_); refine box_event (by rfl) (N := 2) (by rfl) (cs := #[.int .i64 0, .int .i64 0, .int .i64 0, .int .i64 0]) (t := 47) (by go_simp; done) ?_; intro gbz0 hg w3 hbox hb; have BKz0 := Aside0.mk (hbox); have GWz0 := Aside0.mk ((by rw [hg]; exact (below_size HB.out) : w.heap.size ≤ gbz0)); have GEz0 := Aside0.mk ((by rw [hg]; exact (below_size HB.out) : w.heap.size ≤ gbz0)); replace HB := Aside0.mk (below_step HB.out hb); clear hb hbox hg; have p153002 : 0 ≤ (0 : Int) := (by omega); have q153002 : 0 < (l0.length : Int) := of_decide_eq_true (by (with_reducible assumption)); obtain ⟨ad153002, e153002, hx153002_0, hx153002_1, hx153002_2⟩ := at_T118 HR0.out 0 p153002 q153002; cases e153002; have qi153002 : (0 < l0.length) = True := eq_true (by omega); (try rw [show (0 : Int).toNat = 0 from rfl] at hx153002_0); (try rw [show 0 * 3 = 0 from rfl] at hx153002_0); (try rw [Addr.add_zero'] at hx153002_0); (try rw [show (0 : Int).toNat = 0 from rfl] at hx153002_1); (try rw [show 0 * 3 = 0 from rfl] at hx153002_1); (try rw [Addr.add_zero'] at hx153002_1); (try rw [show (0 : Int).toNat = 0 from rfl] at hx153002_2); (try rw [show 0 * 3 = 0 from rfl] at hx153002_2); (try rw [Addr.add_zero'] at hx153002_2); replace hx153002_0 := bc HB.out hx153002_0; replace hx153002_1 := bc HB.out hx153002_1; replace hx153002_2 := bc HB.out hx153002_2; replace p153002 := eq_true p153002; replace q153002 := eq_true q153002; have p153003 : 0 ≤ (0 : Int) := (by omega); have q153003 : 0 < (l0.length : Int) := of_decide_eq_true (by (with_reducible assumption)); obtain ⟨ad153003, e153003, hx153003_0, hx153003_1, hx153003_2⟩ := at_T118 HR0.out 0 p153003 q153003; obtain rfl : ad153002 = ad153003 := (by injection e153003); have qi153003 : (0 < l0.length) = True := eq_true (by omega); (try rw [show (0 : Int).toNat = 0 from rfl] at hx153003_0); (try rw [show 0 * 3 = 0 from rfl] at hx153003_0); (try rw [Addr.add_zero'] at hx153003_0); (try rw [show (0 : Int).toNat = 0 from rfl] at hx153003_1); (try rw [show 0 * 3 = 0 from rfl] at hx153003_1); (try rw [Addr.add_zero'] at hx153003_1); (try rw [show (0 : Int).toNat = 0 from rfl] at hx153003_2); (try rw [show 0 * 3 = 0 from rfl] at hx153003_2); (try rw [Addr.add_zero'] at hx153003_2); replace hx153003_0 := bc HB.out hx153003_0; replace hx153003_1 := bc HB.out hx153003_1; replace hx153003_2 := bc HB.out hx153003_2; replace p153003 := eq_true p153003; replace q153003 := eq_true q153003))
  go_loopg [3, 4, 5] k (fun kq v3 v4 v5 w' => ∃ (x3_1 : Int) (x4_1 : Int) (x5_1 : Int), v3 = .int .i64 x3_1 ∧ v4 = .int .i64 x4_1 ∧ v5 = .int .i64 x5_1 ∧ Aside0 (spec_boundsOf.l0 kq l0 x3_1 x4_1 x5_1 = some (r1, r2, r3, r4)) ∧ Aside0 (kq ≤ k) ∧ Aside0 (w'.heap[gbz0]? = some (.cells #[.int .i64 0, .int .i64 0, .int .i64 0, .int .i64 0] 47 (0, 0))) ∧ Aside0 (Below w.heap.size w w'))
  case atStart => exact ⟨((rd_T118 l0 0).f1), ((rd_T118 l0 0).f2), (0), (by rfl), (by rfl), (by rfl), H', ⟨Nat.le_refl _⟩, BKz0, HB⟩
  case round =>
   clear H'
   obtain ⟨x3_1, x4_1, x5_1, rfl, rfl, rfl, HA, HK1, BKz0, HB⟩ := hrel
   cases gk with
   | zero => exact absurd HA.out (by simp [spec_boundsOf.l0])
   | succ k1 =>
    have H := HA.out
    clear HA
    simp only [spec_boundsOf.l0] at H
    by_cases c4 : x5_1 < (l0.length : Int)
    ·rw [if_pos c4] at H
     have c4b0 : decide (x5_1 < (l0.length : Int)) = true := decide_eq_true c4
     clear c4
     by_cases c5 : 0 ≤ x5_1
     ·rw [if_pos c5] at H
      have c5b0 : decide (0 ≤ x5_1) = true := decide_eq_true c5
      clear c5
      obtain ⟨ji6, hji6⟩ : ∃ j_ : Int, (mn x3_1 ((rd_T118 l0 x5_1).f1)) = j_ := ⟨_, rfl⟩
      replace H : (spec_boundsOf.l0 k1 l0 ji6 (mx x4_1 ((rd_T118 l0 x5_1).f2)) (wrap64 (x5_1 + 1))) = some (r1, r2, r3, r4) := by (rw [hji6] at H; exact H)
      have hji6_ : (if ((rd_T118 l0 x5_1).f1) < x3_1 then ((rd_T118 l0 x5_1).f1) else x3_1) = ji6 := hji6
      obtain ⟨ji7, hji7⟩ : ∃ j_ : Int, (mx x4_1 ((rd_T118 l0 x5_1).f2)) = j_ := ⟨_, rfl⟩
      replace H : (spec_boundsOf.l0 k1 l0 ji6 ji7 (wrap64 (x5_1 + 1))) = some (r1, r2, r3, r4) := by (rw [hji7] at H; exact H)
      have hji7_ : (if x4_1 < ((rd_T118 l0 x5_1).f2) then ((rd_T118 l0 x5_1).f2) else x4_1) = ji7 := hji7
      have H' := Aside0.mk H
      clear H
      have p153004 : 0 ≤ (x5_1 : Int) := of_decide_eq_true (by (with_reducible assumption))
      have q153004 : x5_1 < (l0.length : Int) := of_decide_eq_true (by (with_reducible assumption))
      obtain ⟨ad153004, e153004, hx153004_0, hx153004_1, hx153004_2⟩ := at_T118 HR0.out x5_1 p153004 q153004
      obtain rfl : ad153002 = ad153004 := (by injection e153004)
      replace hx153004_0 := bc HB.out hx153004_0
      replace hx153004_1 := bc HB.out hx153004_1
      replace hx153004_2 := bc HB.out hx153004_2
      replace p153004 := eq_true p153004
      replace q153004 := eq_true q153004
      have p153005 : 0 ≤ (x5_1 : Int) := of_decide_eq_true (by (with_reducible assumption))
      have q153005 : x5_1 < (l0.length : Int) := of_decide_eq_true (by (with_reducible assumption))
      obtain ⟨ad153005, e153005, hx153005_0, hx153005_1, hx153005_2⟩ := at_T118 HR0.out x5_1 p153005 q153005
      obtain rfl : ad153002 = ad153005 := (by injection e153005)
      replace hx153005_0 := bc HB.out hx153005_0
      replace hx153005_1 := bc HB.out hx153005_1
      replace hx153005_2 := bc HB.out hx153005_2
      replace p153005 := eq_true p153005
      replace q153005 := eq_true q153005
      go_wp2
      go_roundg k1
      case measure => have := HK1.out; omega
      case rel => exact ⟨(ji6), (ji7), (wrap64 (x5_1 + 1)), (by rfl), (by rfl), (by rfl), H', ⟨by have := HK1.out; omega⟩, BKz0, HB⟩
     rw [if_neg c5] at H
     exact absurd H (by simp)
    rw [if_neg c4] at H
    have c4b0 : decide (x5_1 < (l0.length : Int)) = false := decide_eq_false c4
    clear c4
    by_cases c8 : 0 < (l0.length : Int)
    ·rw [if_pos c8] at H
     have c8b0 : decide (0 < (l0.length : Int)) = true := decide_eq_true c8
     have c8b1 : decide (0 < l0.length) = true := decide_eq_true (by omega)
     clear c8
     obtain ⟨ji9, hji9⟩ : ∃ j_ : Int, (wrap64 ((l0.length : Int) - 1)) = j_ := ⟨_, rfl⟩
     replace H : (if 0 ≤ ji9 then (if ji9 < (l0.length : Int) then (some (x3_1, (rd_T118 l0 0).f0, wrap64 (x4_1 - x3_1), wrap64 ((wrap64 (((rd_T118 l0 ji9).f0) - ((rd_T118 l0 0).f0))) + 1))) else none) else none) = some (r1, r2, r3, r4) := by (rw [hji9] at H; exact H)
     have hji9w : (IntKind.i64.wrap ((l0.length : Int) - 1)) = ji9 := (i64_w _).trans hji9
     by_cases c10 : 0 ≤ (ji9)
     ·rw [if_pos c10] at H
      have c10b0 : decide (0 ≤ ji9) = true := decide_eq_true c10
      clear c10
      by_cases c11 : ji9 < (l0.length : Int)
      ·rw [if_pos c11] at H
       have c11b0 : decide (ji9 < (l0.length : Int)) = true := decide_eq_true c11
       clear c11
       simp only [Option.some.injEq, Prod.mk.injEq] at H
       obtain ⟨rfl, rfl, rfl, rfl⟩ := H
       try go_wp2
       replace BKz0 := Aside0.mk (blk_drew BKz0.out)
       replace HB := Aside0.mk (below_drew1 HB.out)
       have p153006 : 0 ≤ (0 : Int) := (by omega)
       have q153006 : 0 < (l0.length : Int) := of_decide_eq_true (by (with_reducible assumption))
       obtain ⟨ad153006, e153006, hx153006_0, hx153006_1, hx153006_2⟩ := at_T118 HR0.out 0 p153006 q153006
       have hw153006_2 := hx153006_2
       (try rw [show (0 : Int).toNat = 0 from rfl] at hw153006_2)
       (try rw [show 0 * 3 = 0 from rfl] at hw153006_2)
       (try rw [Addr.add_zero'] at hw153006_2)
       have hw153006_1 := hx153006_1
       (try rw [show (0 : Int).toNat = 0 from rfl] at hw153006_1)
       (try rw [show 0 * 3 = 0 from rfl] at hw153006_1)
       (try rw [Addr.add_zero'] at hw153006_1)
       have hw153006_0 := hx153006_0
       (try rw [show (0 : Int).toNat = 0 from rfl] at hw153006_0)
       (try rw [show 0 * 3 = 0 from rfl] at hw153006_0)
       (try rw [Addr.add_zero'] at hw153006_0)
       obtain rfl : ad153002 = ad153006 := (by injection e153006)
       have qi153006 : (0 < l0.length) = True := eq_true (by omega)
       (try rw [show (0 : Int).toNat = 0 from rfl] at hx153006_0)
       (try rw [show 0 * 3 = 0 from rfl] at hx153006_0)
       (try rw [Addr.add_zero'] at hx153006_0)
       (try rw [show (0 : Int).toNat = 0 from rfl] at hx153006_1)
       (try rw [show 0 * 3 = 0 from rfl] at hx153006_1)
       (try rw [Addr.add_zero'] at hx153006_1)
       (try rw [show (0 : Int).toNat = 0 from rfl] at hx153006_2)
       (try rw [show 0 * 3 = 0 from rfl] at hx153006_2)
       (try rw [Addr.add_zero'] at hx153006_2)
       replace hx153006_0 := bc HB.out hx153006_0
       replace hx153006_1 := bc HB.out hx153006_1
       replace hx153006_2 := bc HB.out hx153006_2
       replace p153006 := eq_true p153006
       replace q153006 := eq_true q153006
       have p153007 : 0 ≤ (ji9 : Int) := of_decide_eq_true (by (with_reducible assumption))
       have q153007 : ji9 < (l0.length : Int) := of_decide_eq_true (by (with_reducible assumption))
       obtain ⟨ad153007, e153007, hx153007_0, hx153007_1, hx153007_2⟩ := at_T118 HR0.out ji9 p153007 q153007
       have hw153007_2 := hx153007_2
       have hw153007_1 := hx153007_1
       have hw153007_0 := hx153007_0
       obtain rfl : ad153002 = ad153007 := (by injection e153007)
       replace hx153007_0 := bc HB.out hx153007_0
       replace hx153007_1 := bc HB.out hx153007_1
       replace hx153007_2 := bc HB.out hx153007_2
       replace p153007 := eq_true p153007
       replace q153007 := eq_true q153007
       have p153008 : 0 ≤ (0 : Int) := (by omega)
       have q153008 : 0 < (l0.length : Int) := of_decide_eq_true (by (with_reducible assumption))
       obtain ⟨ad153008, e153008, hx153008_0, hx153008_1, hx153008_2⟩ := at_T118 HR0.out 0 p153008 q153008
       have hw153008_2 := hx153008_2
       (try rw [show (0 : Int).toNat = 0 from rfl] at hw153008_2)
       (try rw [show 0 * 3 = 0 from rfl] at hw153008_2)
       (try rw [Addr.add_zero'] at hw153008_2)
       have hw153008_1 := hx153008_1
       (try rw [show (0 : Int).toNat = 0 from rfl] at hw153008_1)
       (try rw [show 0 * 3 = 0 from rfl] at hw153008_1)
       (try rw [Addr.add_zero'] at hw153008_1)
       have hw153008_0 := hx153008_0
       (try rw [show (0 : Int).toNat = 0 from rfl] at hw153008_0)
       (try rw [show 0 * 3 = 0 from rfl] at hw153008_0)
       (try rw [Addr.add_zero'] at hw153008_0)
       obtain rfl : ad153002 = ad153008 := (by injection e153008)
       have qi153008 : (0 < l0.length) = True := eq_true (by omega)
       (try rw [show (0 : Int).toNat = 0 from rfl] at hx153008_0)
       (try rw [show 0 * 3 = 0 from rfl] at hx153008_0)
       (try rw [Addr.add_zero'] at hx153008_0)
       (try rw [show (0 : Int).toNat = 0 from rfl] at hx153008_1)
       (try rw [show 0 * 3 = 0 from rfl] at hx153008_1)
       (try rw [Addr.add_zero'] at hx153008_1)
       (try rw [show (0 : Int).toNat = 0 from rfl] at hx153008_2)
       (try rw [show 0 * 3 = 0 from rfl] at hx153008_2)
       (try rw [Addr.add_zero'] at hx153008_2)
       replace hx153008_0 := bc HB.out hx153008_0
       replace hx153008_1 := bc HB.out hx153008_1
       replace hx153008_2 := bc HB.out hx153008_2
       replace p153008 := eq_true p153008
       replace q153008 := eq_true q153008
       refine start_ (n := 23) (S := fun w' => w'.cell? ad153002 = some (.int .i64 ((rd_T118 l0 0).f0)) ∧ w'.cell? ⟨ad153002.block, ad153002.off + 1, none⟩ = some (.int .i64 ((rd_T118 l0 0).f1)) ∧ w'.cell? ⟨ad153002.block, ad153002.off + 2, none⟩ = some (.int .i64 ((rd_T118 l0 0).f2)) ∧ w'.cell? (ad153002.add ((ji9).toNat * 3)) = some (.int .i64 ((rd_T118 l0 ji9).f0)) ∧ w'.cell? ⟨(ad153002.add ((ji9).toNat * 3)).block, (ad153002.add ((ji9).toNat * 3)).off + 1, none⟩ = some (.int .i64 ((rd_T118 l0 ji9).f1)) ∧ w'.cell? ⟨(ad153002.add ((ji9).toNat * 3)).block, (ad153002.add ((ji9).toNat * 3)).off + 2, none⟩ = some (.int .i64 ((rd_T118 l0 ji9).f2)) ∧ w'.cell? ad153002 = some (.int .i64 ((rd_T118 l0 0).f0)) ∧ w'.cell? ⟨ad153002.block, ad153002.off + 1, none⟩ = some (.int .i64 ((rd_T118 l0 0).f1)) ∧ w'.cell? ⟨ad153002.block, ad153002.off + 2, none⟩ = some (.int .i64 ((rd_T118 l0 0).f2))) (ds := []) #[false, false, false, false, false, false, false, false, false, false, false, false, false, false, false, false, false, false, false, false, false, false, false] (by kernel_rfl) rfl rfl ⟨bc HB.out hw153006_0, bc HB.out hw153006_1, bc HB.out hw153006_2, bc HB.out hw153007_0, bc HB.out hw153007_1, bc HB.out hw153007_2, bc HB.out hw153008_0, bc HB.out hw153008_1, bc HB.out hw153008_2⟩ (fun hHeld => ?_); refine with_tabW spec_boundsOf.tab8 spec_boundsOf.bits8 (fun HT_ HW_ => ?_)
       generalize wr.drew = w12 at BKz0 HB hx153006_0 hx153006_1 hx153006_2 hx153007_0 hx153007_1 hx153007_2 hx153008_0 hx153008_1 hx153008_2 hHeld ⊢
       refine pu 0 34 ?_ ?_ rfl rfl (any_of HT_.out (by kernel_rfl)) (Or.inl ⟨by rfl, ?_⟩) ?_ ?_
       rotate_left 2
       ·intro w'
        go_simp
        with_reducible rfl
       ·simp only [seval]
        rfl
       refine pu 1 35 ?_ ?_ rfl rfl (any_of HT_.out (by kernel_rfl)) (Or.inl ⟨by rfl, ?_⟩) ?_ ?_
       rotate_left 2
       ·intro w'
        go_simp
        with_reducible rfl
       ·simp only [seval]
        rfl
       refine pu 2 36 ?_ ?_ rfl rfl (any_of HT_.out (by kernel_rfl)) (Or.inl ⟨by rfl, ?_⟩) ?_ ?_
       rotate_left 2
       ·intro w'
        go_simp
        with_reducible rfl
       ·simp only [seval]
        rfl
       refine pu 3 37 ?_ ?_ rfl rfl (any_of HT_.out (by kernel_rfl)) (Or.inl ⟨by rfl, ?_⟩) ?_ ?_
       rotate_left 2
       ·intro w'
        go_simp
        with_reducible rfl
       ·simp only [seval]
        rfl
       refine pu 5 39 ?_ ?_ rfl rfl (any_of HT_.out (by kernel_rfl)) (Or.inl ⟨by rfl, ?_⟩) ?_ ?_
       rotate_left 2
       ·intro w'
        go_simp
        with_reducible rfl
       ·simp only [seval]
        rfl
       refine pu 6 40 ?_ ?_ rfl rfl (any_of HT_.out (by kernel_rfl)) (Or.inl ⟨by rfl, ?_⟩) ?_ ?_
       rotate_left 2
       ·intro w'
        go_simp
        with_reducible rfl
       ·simp only [seval]
        rfl
       refine pu 7 41 ?_ ?_ rfl rfl (any_of HT_.out (by kernel_rfl)) (Or.inl ⟨by rfl, ?_⟩) ?_ ?_
       rotate_left 2
       ·intro w'
        go_simp
        with_reducible rfl
       ·simp only [seval]
        rfl
       refine pu 8 42 ?_ ?_ rfl rfl (any_of HT_.out (by kernel_rfl)) (Or.inl ⟨by rfl, ?_⟩) ?_ ?_
       rotate_left 2
       ·intro w'
        go_simp
        with_reducible rfl
       ·simp only [seval]
        rfl
       refine pu 9 43 ?_ ?_ rfl rfl (any_of HT_.out (by kernel_rfl)) (Or.inl ⟨by rfl, ?_⟩) ?_ ?_
       rotate_left 2
       ·intro w'
        go_simp
        with_reducible rfl
       ·simp only [seval]
        rfl
       refine pu 10 44 ?_ ?_ rfl rfl (any_of HT_.out (by kernel_rfl)) (Or.inl ⟨by rfl, ?_⟩) ?_ ?_
       rotate_left 2
       ·intro w'
        go_simp
        with_reducible rfl
       ·simp only [seval]
        rfl
       refine pu 11 45 ?_ ?_ rfl rfl (any_of HT_.out (by kernel_rfl)) (Or.inl ⟨by rfl, ?_⟩) ?_ ?_
       rotate_left 2
       ·intro w'
        go_simp
        with_reducible rfl
       ·simp only [seval]
        rfl
       refine pu 12 46 ?_ ?_ rfl rfl (any_of HT_.out (by kernel_rfl)) (Or.inl ⟨by rfl, ?_⟩) ?_ ?_
       rotate_left 2
       ·intro w'
        go_simp
        with_reducible rfl
       ·simp only [seval]
        rfl
       refine pu 13 47 ?_ ?_ rfl rfl (any_of HT_.out (by kernel_rfl)) (Or.inl ⟨by rfl, ?_⟩) ?_ ?_
       rotate_left 2
       ·intro w'
        go_simp
        with_reducible rfl
       ·simp only [seval]
        rfl
       refine pu 15 49 ?_ ?_ rfl rfl (any_of HT_.out (by kernel_rfl)) (Or.inl ⟨by rfl, ?_⟩) ?_ ?_
       rotate_left 2
       ·intro w'
        go_simp
        with_reducible rfl
       ·simp only [seval]
        rfl
       refine pu 16 50 ?_ ?_ rfl rfl (any_of HT_.out (by kernel_rfl)) (Or.inl ⟨by rfl, ?_⟩) ?_ ?_
       rotate_left 2
       ·intro w'
        go_simp
        with_reducible rfl
       ·simp only [seval]
        rfl
       refine pu 17 51 ?_ ?_ rfl rfl (any_of HT_.out (by kernel_rfl)) (Or.inl ⟨by rfl, ?_⟩) ?_ ?_
       rotate_left 2
       ·intro w'
        go_simp
        with_reducible rfl
       ·simp only [seval]
        rfl
       refine tk 4 38 ?_ ?_ rfl rfl (take_ofW HT_.out HW_.out (by kernel_rfl)) (Or.inl ⟨by rfl, ?_⟩) hHeld ?_ ?_
       rotate_left 2
       ·rintro w' ⟨s0, s1, s2, s3, s4, s5, s6, s7, s8⟩
        go_simp
        with_reducible rfl
       ·simp only [seval]
        rfl
       refine tk 14 48 ?_ ?_ rfl rfl (take_ofW HT_.out HW_.out (by kernel_rfl)) (Or.inl ⟨by rfl, ?_⟩) hHeld ?_ ?_
       rotate_left 2
       ·rintro w' ⟨s0, s1, s2, s3, s4, s5, s6, s7, s8⟩
        go_simp
        with_reducible rfl
       ·simp only [seval]
        rfl
       refine tk 18 52 ?_ ?_ rfl rfl (take_ofW HT_.out HW_.out (by kernel_rfl)) (Or.inl ⟨by rfl, ?_⟩) hHeld ?_ ?_
       rotate_left 2
       ·rintro w' ⟨s0, s1, s2, s3, s4, s5, s6, s7, s8⟩
        go_simp
        with_reducible rfl
       ·simp only [seval]
        rfl
       refine pu 19 53 ?_ ?_ rfl rfl (any_of HT_.out (by kernel_rfl)) (Or.inl ⟨by rfl, ?_⟩) ?_ ?_
       rotate_left 2
       ·intro w'
        go_simp
        with_reducible rfl
       ·simp only [seval]
        rfl
       refine pu 20 54 ?_ ?_ rfl rfl (any_of HT_.out (by kernel_rfl)) (Or.inl ⟨by rfl, ?_⟩) ?_ ?_
       rotate_left 2
       ·intro w'
        go_simp
        with_reducible rfl
       ·simp only [seval]
        rfl
       refine pu 21 55 ?_ ?_ rfl rfl (any_of HT_.out (by kernel_rfl)) (Or.inl ⟨by rfl, ?_⟩) ?_ ?_
       rotate_left 2
       ·intro w'
        go_simp
        with_reducible rfl
       ·simp only [seval]
        rfl
       refine one_ (i := 22) (N := none) #[true, true, true, true, true, true, true, true, true, true, true, true, true, true, true, true, true, true, true, true, true, true, true] rfl rfl (one_of HT_.out (by kernel_rfl)) (by decide) (fun K hK => ?_)
       obtain ⟨hs13, hs14, hs15, hs16, hfs13, hfs14, hfs15, hfs16⟩ := c4 BKz0.out
       refine skip_ (w1 := ?_) (by rfl) rfl ?_ ?_
       rotate_left
       ·go_simp
        rfl
       refine hK.out _ _ ⟨((cell_far (p := ⟨gbz0, _, none⟩) (by exact Nat.ne_of_lt (Nat.lt_of_lt_of_le (by have := World.block_lt_of_cell? _ _ hw153006_0; exact this) GWz0.out)) _).trans (((cell_far (p := ⟨gbz0, _, none⟩) (by exact Nat.ne_of_lt (Nat.lt_of_lt_of_le (by have := World.block_lt_of_cell? _ _ hw153006_0; exact this) GWz0.out)) _).trans (((cell_far (p := ⟨gbz0, _, none⟩) (by exact Nat.ne_of_lt (Nat.lt_of_lt_of_le (by have := World.block_lt_of_cell? _ _ hw153006_0; exact this) GWz0.out)) _).trans (((cell_far (p := ⟨gbz0, _, none⟩) (by exact Nat.ne_of_lt (Nat.lt_of_lt_of_le (by have := World.block_lt_of_cell? _ _ hw153006_0; exact this) GWz0.out)) _).trans hHeld.1))))))), ((cell_far (p := ⟨gbz0, _, none⟩) (by exact Nat.ne_of_lt (Nat.lt_of_lt_of_le (by have := World.block_lt_of_cell? _ _ hw153006_1; exact this) GWz0.out)) _).trans (((cell_far (p := ⟨gbz0, _, none⟩) (by exact Nat.ne_of_lt (Nat.lt_of_lt_of_le (by have := World.block_lt_of_cell? _ _ hw153006_1; exact this) GWz0.out)) _).trans (((cell_far (p := ⟨gbz0, _, none⟩) (by exact Nat.ne_of_lt (Nat.lt_of_lt_of_le (by have := World.block_lt_of_cell? _ _ hw153006_1; exact this) GWz0.out)) _).trans (((cell_far (p := ⟨gbz0, _, none⟩) (by exact Nat.ne_of_lt (Nat.lt_of_lt_of_le (by have := World.block_lt_of_cell? _ _ hw153006_1; exact this) GWz0.out)) _).trans hHeld.2.1))))))), ((cell_far (p := ⟨gbz0, _, none⟩) (by exact Nat.ne_of_lt (Nat.lt_of_lt_of_le (by have := World.block_lt_of_cell? _ _ hw153006_2; exact this) GWz0.out)) _).trans (((cell_far (p := ⟨gbz0, _, none⟩) (by exact Nat.ne_of_lt (Nat.lt_of_lt_of_le (by have := World.block_lt_of_cell? _ _ hw153006_2; exact this) GWz0.out)) _).trans (((cell_far (p := ⟨gbz0, _, none⟩) (by exact Nat.ne_of_lt (Nat.lt_of_lt_of_le (by have := World.block_lt_of_cell? _ _ hw153006_2; exact this) GWz0.out)) _).trans (((cell_far (p := ⟨gbz0, _, none⟩) (by exact Nat.ne_of_lt (Nat.lt_of_lt_of_le (by have := World.block_lt_of_cell? _ _ hw153006_2; exact this) GWz0.out)) _).trans hHeld.2.2.1))))))), ((cell_far (p := ⟨gbz0, _, none⟩) (by exact Nat.ne_of_lt (Nat.lt_of_lt_of_le (by have := World.block_lt_of_cell? _ _ hw153007_0; exact this) GWz0.out)) _).trans (((cell_far (p := ⟨gbz0, _, none⟩) (by exact Nat.ne_of_lt (Nat.lt_of_lt_of_le (by have := World.block_lt_of_cell? _ _ hw153007_0; exact this) GWz0.out)) _).trans (((cell_far (p := ⟨gbz0, _, none⟩) (by exact Nat.ne_of_lt (Nat.lt_of_lt_of_le (by have := World.block_lt_of_cell? _ _ hw153007_0; exact this) GWz0.out)) _).trans (((cell_far (p := ⟨gbz0, _, none⟩) (by exact Nat.ne_of_lt (Nat.lt_of_lt_of_le (by have := World.block_lt_of_cell? _ _ hw153007_0; exact this) GWz0.out)) _).trans hHeld.2.2.2.1))))))), ((cell_far (p := ⟨gbz0, _, none⟩) (by exact Nat.ne_of_lt (Nat.lt_of_lt_of_le (by have := World.block_lt_of_cell? _ _ hw153007_1; exact this) GWz0.out)) _).trans (((cell_far (p := ⟨gbz0, _, none⟩) (by exact Nat.ne_of_lt (Nat.lt_of_lt_of_le (by have := World.block_lt_of_cell? _ _ hw153007_1; exact this) GWz0.out)) _).trans (((cell_far (p := ⟨gbz0, _, none⟩) (by exact Nat.ne_of_lt (Nat.lt_of_lt_of_le (by have := World.block_lt_of_cell? _ _ hw153007_1; exact this) GWz0.out)) _).trans (((cell_far (p := ⟨gbz0, _, none⟩) (by exact Nat.ne_of_lt (Nat.lt_of_lt_of_le (by have := World.block_lt_of_cell? _ _ hw153007_1; exact this) GWz0.out)) _).trans hHeld.2.2.2.2.1))))))), ((cell_far (p := ⟨gbz0, _, none⟩) (by exact Nat.ne_of_lt (Nat.lt_of_lt_of_le (by have := World.block_lt_of_cell? _ _ hw153007_2; exact this) GWz0.out)) _).trans (((cell_far (p := ⟨gbz0, _, none⟩) (by exact Nat.ne_of_lt (Nat.lt_of_lt_of_le (by have := World.block_lt_of_cell? _ _ hw153007_2; exact this) GWz0.out)) _).trans (((cell_far (p := ⟨gbz0, _, none⟩) (by exact Nat.ne_of_lt (Nat.lt_of_lt_of_le (by have := World.block_lt_of_cell? _ _ hw153007_2; exact this) GWz0.out)) _).trans (((cell_far (p := ⟨gbz0, _, none⟩) (by exact Nat.ne_of_lt (Nat.lt_of_lt_of_le (by have := World.block_lt_of_cell? _ _ hw153007_2; exact this) GWz0.out)) _).trans hHeld.2.2.2.2.2.1))))))), ((cell_far (p := ⟨gbz0, _, none⟩) (by exact Nat.ne_of_lt (Nat.lt_of_lt_of_le (by have := World.block_lt_of_cell? _ _ hw153008_0; exact this) GWz0.out)) _).trans (((cell_far (p := ⟨gbz0, _, none⟩) (by exact Nat.ne_of_lt (Nat.lt_of_lt_of_le (by have := World.block_lt_of_cell? _ _ hw153008_0; exact this) GWz0.out)) _).trans (((cell_far (p := ⟨gbz0, _, none⟩) (by exact Nat.ne_of_lt (Nat.lt_of_lt_of_le (by have := World.block_lt_of_cell? _ _ hw153008_0; exact this) GWz0.out)) _).trans (((cell_far (p := ⟨gbz0, _, none⟩) (by exact Nat.ne_of_lt (Nat.lt_of_lt_of_le (by have := World.block_lt_of_cell? _ _ hw153008_0; exact this) GWz0.out)) _).trans hHeld.2.2.2.2.2.2.1))))))), ((cell_far (p := ⟨gbz0, _, none⟩) (by exact Nat.ne_of_lt (Nat.lt_of_lt_of_le (by have := World.block_lt_of_cell? _ _ hw153008_1; exact this) GWz0.out)) _).trans (((cell_far (p := ⟨gbz0, _, none⟩) (by exact Nat.ne_of_lt (Nat.lt_of_lt_of_le (by have := World.block_lt_of_cell? _ _ hw153008_1; exact this) GWz0.out)) _).trans (((cell_far (p := ⟨gbz0, _, none⟩) (by exact Nat.ne_of_lt (Nat.lt_of_lt_of_le (by have := World.block_lt_of_cell? _ _ hw153008_1; exact this) GWz0.out)) _).trans (((cell_far (p := ⟨gbz0, _, none⟩) (by exact Nat.ne_of_lt (Nat.lt_of_lt_of_le (by have := World.block_lt_of_cell? _ _ hw153008_1; exact this) GWz0.out)) _).trans hHeld.2.2.2.2.2.2.2.1))))))), ((cell_far (p := ⟨gbz0, _, none⟩) (by exact Nat.ne_of_lt (Nat.lt_of_lt_of_le (by have := World.block_lt_of_cell? _ _ hw153008_2; exact this) GWz0.out)) _).trans (((cell_far (p := ⟨gbz0, _, none⟩) (by exact Nat.ne_of_lt (Nat.lt_of_lt_of_le (by have := World.block_lt_of_cell? _ _ hw153008_2; exact this) GWz0.out)) _).trans (((cell_far (p := ⟨gbz0, _, none⟩) (by exact Nat.ne_of_lt (Nat.lt_of_lt_of_le (by have := World.block_lt_of_cell? _ _ hw153008_2; exact this) GWz0.out)) _).trans (((cell_far (p := ⟨gbz0, _, none⟩) (by exact Nat.ne_of_lt (Nat.lt_of_lt_of_le (by have := World.block_lt_of_cell? _ _ hw153008_2; exact this) GWz0.out)) _).trans hHeld.2.2.2.2.2.2.2.2)))))))⟩ (fun hHeld => ?_)
       clear hK K
       refine done_ (done_of HT_.out (by kernel_rfl)) ?_
       try go_wp2
       refine bodyPost_ret (results_cell_row rfl _ _ gbz0 47 #[.int .i64 x3_1, .int .i64 ((rd_T118 l0 0).f0), .int .i64 (wrap64 (x4_1 - x3_1)), .int .i64 (wrap64 ((wrap64 (((rd_T118 l0 ji9).f0) - ((rd_T118 l0 0).f0))) + 1))] (0, 0) _ rfl (by refine blk_put (cs := #[.int .i64 x3_1, .int .i64 ((rd_T118 l0 0).f0), .int .i64 (wrap64 (x4_1 - x3_1)), .int .i64 0]) ?_ 3 _ rfl; refine blk_put (cs := #[.int .i64 x3_1, .int .i64 ((rd_T118 l0 0).f0), .int .i64 0, .int .i64 0]) ?_ 2 _ rfl; refine blk_put (cs := #[.int .i64 x3_1, .int .i64 0, .int .i64 0, .int .i64 0]) ?_ 1 _ rfl; refine blk_put (cs := #[.int .i64 0, .int .i64 0, .int .i64 0, .int .i64 0]) ?_ 0 _ rfl; exact BKz0.out) Try.underlying47 rfl (by kernel_rfl)) rfl ?_
       exact ⟨by rfl, by repeat (with_reducible first | exact HB.out | refine below_set ?_ GEz0.out)⟩
      rw [if_neg c11] at H
      exact absurd H (by simp)
     rw [if_neg c10] at H
     exact absurd H (by simp)
    rw [if_neg c8] at H
    exact absurd H (by simp)
 rw [if_neg c2] at H
 exact absurd H (by simp)


def spec_anyBox.f (k : Nat) (s0_0 : List Int) (s0_1 : Int) : Option (Int × Int × Int × Int × Int) := (spec_reader_one.f k s0_0 s0_1 (([0, 1, 2, (-1), 0, 4] : List Int))).bind fun btz3 => ((spec_reader_one.f k s0_0 btz3.2 (([0, 1, 0, 2, (-1)] : List Int))).bind fun btz2 => ((spec_reader_one.f k s0_0 btz2.2 ([1, 2, 3, 1, 0, 16] : List Int)).bind fun btz1 => ((spec_reader_one.f k s0_0 btz1.2 ([1, 2, 1, 3, 0] : List Int)).bind fun btz0 => (some (btz3.1, btz2.1, btz1.1, btz0.1, btz0.2)))))
theorem spec_anyBox.calls (k : Nat) (g : Nat) (s0_0 : List Int) (s0_1 : Int) (r1 : Int) (r2 : Int) (r3 : Int) (r4 : Int) (r5 : Int) (w0 w : World) (hI : IsS144 w0 w g s0_0 s0_1) (hB : Below w0.heap.size w0 w) (h : spec_anyBox.f k s0_0 s0_1 = some (r1, r2, r3, r4, r5)) :
  Calls Try.prog 128 #[.pointer (some ⟨g, 0, none⟩)] w fun e w' => e = .returned (.agg #[.int .i64 r1, .int .i64 r2, .int .i64 r3, .int .i64 r4]) ∧ IsS144 w0 w' g s0_0 r5 ∧ Below w0.heap.size w0 w' ∧ KeepBut w w' g none := by
 have hu47 := Try.underlying47
 have HI0 := mk hI
 have HK := mk (KeepBut.refl w g none)
 have HL := mk hB.size
 clear hI
 have HW0 := mk hB.size
 have HB := mk hB
 clear hB
 have H : ((spec_reader_one.f k s0_0 s0_1 (([0, 1, 2, (-1), 0, 4] : List Int))).bind fun btz3 => ((spec_reader_one.f k s0_0 btz3.2 (([0, 1, 0, 2, (-1)] : List Int))).bind fun btz2 => ((spec_reader_one.f k s0_0 btz2.2 ([1, 2, 3, 1, 0, 16] : List Int)).bind fun btz1 => ((spec_reader_one.f k s0_0 btz1.2 ([1, 2, 1, 3, 0] : List Int)).bind fun btz0 => (some (btz3.1, btz2.1, btz1.1, btz0.1, btz0.2)))))) = some (r1, r2, r3, r4, r5) := h
 clear h
 obtain ⟨yz0, hyz0⟩ : ∃ y_ : List Int, y_ = (([0, 1, 2, (-1), 0, 4] : List Int)) := ⟨_, rfl⟩
 replace H : ((spec_reader_one.f k s0_0 s0_1 yz0).bind fun btz3 => ((spec_reader_one.f k s0_0 btz3.2 (([0, 1, 0, 2, (-1)] : List Int))).bind fun btz2 => ((spec_reader_one.f k s0_0 btz2.2 ([1, 2, 3, 1, 0, 16] : List Int)).bind fun btz1 => ((spec_reader_one.f k s0_0 btz1.2 ([1, 2, 1, 3, 0] : List Int)).bind fun btz0 => (some (btz3.1, btz2.1, btz1.1, btz0.1, btz0.2)))))) = some (r1, r2, r3, r4, r5) := by (rw [hyz0]; with_reducible exact H)
 have Nyz0 := mk hyz0
 clear hyz0
 replace H := Option.bind_eq_some_iff.mp H
 obtain ⟨⟨tz0, tz3⟩, A20, H⟩ := H
 replace H : ((spec_reader_one.f k s0_0 tz3 (([0, 1, 0, 2, (-1)] : List Int))).bind fun btz2 => ((spec_reader_one.f k s0_0 btz2.2 ([1, 2, 3, 1, 0, 16] : List Int)).bind fun btz1 => ((spec_reader_one.f k s0_0 btz1.2 ([1, 2, 1, 3, 0] : List Int)).bind fun btz0 => (some (tz0, btz2.1, btz1.1, btz0.1, btz0.2))))) = some (r1, r2, r3, r4, r5) := H
 have A2 := mk A20
 clear A20
 obtain ⟨yz1, hyz1⟩ : ∃ y_ : List Int, y_ = (([0, 1, 0, 2, (-1)] : List Int)) := ⟨_, rfl⟩
 replace H : ((spec_reader_one.f k s0_0 tz3 yz1).bind fun btz2 => ((spec_reader_one.f k s0_0 btz2.2 ([1, 2, 3, 1, 0, 16] : List Int)).bind fun btz1 => ((spec_reader_one.f k s0_0 btz1.2 ([1, 2, 1, 3, 0] : List Int)).bind fun btz0 => (some (tz0, btz2.1, btz1.1, btz0.1, btz0.2))))) = some (r1, r2, r3, r4, r5) := by (rw [hyz1]; with_reducible exact H)
 have Nyz1 := mk hyz1
 clear hyz1
 replace H := Option.bind_eq_some_iff.mp H
 obtain ⟨⟨tz1, tz2⟩, A30, H⟩ := H
 replace H : ((spec_reader_one.f k s0_0 tz2 ([1, 2, 3, 1, 0, 16] : List Int)).bind fun btz1 => ((spec_reader_one.f k s0_0 btz1.2 ([1, 2, 1, 3, 0] : List Int)).bind fun btz0 => (some (tz0, tz1, btz1.1, btz0.1, btz0.2)))) = some (r1, r2, r3, r4, r5) := H
 have A3 := mk A30
 clear A30
 obtain ⟨yz2, hyz2⟩ : ∃ y_ : List Int, y_ = ([1, 2, 3, 1, 0, 16] : List Int) := ⟨_, rfl⟩
 replace H : ((spec_reader_one.f k s0_0 tz2 yz2).bind fun btz1 => ((spec_reader_one.f k s0_0 btz1.2 ([1, 2, 1, 3, 0] : List Int)).bind fun btz0 => (some (tz0, tz1, btz1.1, btz0.1, btz0.2)))) = some (r1, r2, r3, r4, r5) := by (rw [hyz2]; with_reducible exact H)
 have Nyz2 := mk hyz2
 clear hyz2
 replace H := Option.bind_eq_some_iff.mp H
 obtain ⟨⟨tz4, tz5⟩, A40, H⟩ := H
 replace H : ((spec_reader_one.f k s0_0 tz5 ([1, 2, 1, 3, 0] : List Int)).bind fun btz0 => (some (tz0, tz1, tz4, btz0.1, btz0.2))) = some (r1, r2, r3, r4, r5) := H
 have A4 := mk A40
 clear A40
 obtain ⟨yz3, hyz3⟩ : ∃ y_ : List Int, y_ = ([1, 2, 1, 3, 0] : List Int) := ⟨_, rfl⟩
 replace H : ((spec_reader_one.f k s0_0 tz5 yz3).bind fun btz0 => (some (tz0, tz1, tz4, btz0.1, btz0.2))) = some (r1, r2, r3, r4, r5) := by (rw [hyz3]; with_reducible exact H)
 have Nyz3 := mk hyz3
 clear hyz3
 replace H := Option.bind_eq_some_iff.mp H
 obtain ⟨⟨tz6, tz7⟩, A50, H⟩ := H
 replace H : (some (tz0, tz1, tz4, tz6, tz7)) = some (r1, r2, r3, r4, r5) := H
 have A5 := mk A50
 clear A50
 simp only [Option.some.injEq, Prod.mk.injEq] at H
 obtain ⟨rfl, rfl, rfl, rfl, rfl⟩ := H
 go_enter Try.func128, Try.ntmps128
 go_wp2_with (first | ((with_reducible refine gate_dst (N := 2) rfl ?_); refine box_event (by rfl) (N := 2) (by rfl) (cs := #[.int .i64 0, .int .i64 0, .int .i64 0, .int .i64 0]) (t := 47) (by go_simp; done) ?_; intro gbz0 hg w6 hbox hb; replace HB := mk (below_step HB.out hb); have BKz0 := mk (hbox); have GWz0 := mk ((by rw [hg]; exact (keep_size (w := w) (g := g) (row := none) HK.out) : w.heap.size ≤ gbz0)); have GEz0 := mk ((Nat.le_trans HW0.out (by rw [hg]; exact (keep_size (w := w) (g := g) (row := none) HK.out) : w.heap.size ≤ gbz0) : w0.heap.size ≤ gbz0)); replace HK := mk (KeepBut.trans HK.out (KeepBut.of_below hb g none) (.inl rfl)); have NBz1 := mk ((by rw [hg]; exact Nat.ne_of_lt (IsS144.lt (show IsS144 w0 _ g s0_0 s0_1 from by exact HI0.out)) : g ≠ gbz0)); have NBz0 := mk ((by rw [hg]; exact Nat.ne_of_gt (IsS144.lt (show IsS144 w0 _ g s0_0 s0_1 from by exact HI0.out)) : gbz0 ≠ g)); replace HI0 := mk (IsS144.below HI0.out hb); clear hb hbox hg) | ((with_reducible refine gate_dst (N := 4) rfl ?_); refine Kd.R_lit (Kd.int .i64) _ 3 ?hg (N := 4) ?hd (xs := ([0, 1, 2, (-1), 0, 4] : List Int)) (inner := [.int .i64 0, .int .i64 1, .int .i64 2, .int .i64 (-1), .int .i64 0, .int .i64 4]) (ok := fun _ => True) (okp := fun _ => True) ?hr ?hp (fun _ hk => hk) trivial (Below.refl _ _) (Nat.le_refl _) (by simp) ?_; (case hd => rfl); (case hg => rfl); (case hr => (go_simp; done)); (case hp => exact (Reps.one (show Kd.M (Kd.int .i64) _ _ _ 0 [.int .i64 0] from rfl) (Reps.one (show Kd.M (Kd.int .i64) _ _ _ 1 [.int .i64 1] from rfl) (Reps.one (show Kd.M (Kd.int .i64) _ _ _ 2 [.int .i64 2] from rfl) (Reps.one (show Kd.M (Kd.int .i64) _ _ _ (-1) [.int .i64 (-1)] from rfl) (Reps.one (show Kd.M (Kd.int .i64) _ _ _ 0 [.int .i64 0] from rfl) (Reps.one (show Kd.M (Kd.int .i64) _ _ _ 4 [.int .i64 4] from rfl) (Reps.none _ _)))))))); intro vz0 w7 ho8 hb hg_ hnew_; clear hg_ hnew_; (rw [← Nyz0.out] at ho8); have HOz0 := mk (Kd.R_lower ho8 (keep_size (w := w) (g := g) (row := none) HK.out)); replace HI0 := mk (IsS144.below HI0.out hb); replace BKz0 := mk (blk_below BKz0.out hb); replace HK := mk (KeepBut.trans HK.out (KeepBut.of_below hb g none) (.inl rfl)); replace HB := mk (below_step HB.out hb); clear hb ho8; obtain ⟨Ao9, co9, eo9⟩ := Kd.R_slice HOz0.out; subst eo9) | ((with_reducible refine gate_callee (f := 147) rfl ?_); refine goesL_ (some 5) rfl rfl Try.func147 (by kernel_rfl) rfl #[.pointer (some ⟨g, 0, none⟩), .slice Ao9 yz0.length co9] rfl (by (try simp only [bitvec_to_nat]); rfl) ?_; (with_reducible refine (spec_reader_one.calls k g s0_0 s0_1 _ _ yz0 tz0 tz3 w0 _ ?side1 ?side2 ?side3 ?side4 ?side5 A2.out).mono ?_); (case side1 => repeat (with_reducible exact HI0.out)); (case side2 => repeat (with_reducible exact HB.out)); (case side3 => repeat (exact (Kd.R_reads' HOz0.out).2.2)); (case side4 => exact (Kd.R_reads' HOz0.out).2.1); (case side5 => exact far_slice (IsS144.own_ne HI0.out HOz0.out (by decide))); rintro e w10 ⟨rfl, hi, hb, hk⟩; refine ⟨_, rfl, ?_⟩; replace BKz0 := mk (KeepBut.blk hk (g' := gbz0) (o := .cells #[.int .i64 0, .int .i64 0, .int .i64 0, .int .i64 0] 47 (0, 0)) BKz0.out NBz0.out (by simp)); replace HOz0 := mk (Kd.R_mono (Kd.R_keep (IsS144.apart (show IsS144 w0 _ g s0_0 s0_1 from by exact HI0.out) HOz0.out (by decide)) hk (fun _ h => h.2)) (fun _ h => h.1)); replace HK := mk (KeepBut.trans HK.out hk (.inl rfl)); replace HB := mk (hb); replace HI0 := mk (hi); (try clear hb); (try clear hk); (try clear hi)) | ((with_reducible refine gate_dst (N := 7) rfl ?_); refine Kd.R_lit (Kd.int .i64) _ 3 ?hg (N := 7) ?hd (xs := ([0, 1, 0, 2, (-1)] : List Int)) (inner := [.int .i64 0, .int .i64 1, .int .i64 0, .int .i64 2, .int .i64 (-1)]) (ok := fun _ => True) (okp := fun _ => True) ?hr ?hp (fun _ hk => hk) trivial (Below.refl _ _) (Nat.le_refl _) (by simp) ?_; (case hd => rfl); (case hg => rfl); (case hr => (go_simp; done)); (case hp => exact (Reps.one (show Kd.M (Kd.int .i64) _ _ _ 0 [.int .i64 0] from rfl) (Reps.one (show Kd.M (Kd.int .i64) _ _ _ 1 [.int .i64 1] from rfl) (Reps.one (show Kd.M (Kd.int .i64) _ _ _ 0 [.int .i64 0] from rfl) (Reps.one (show Kd.M (Kd.int .i64) _ _ _ 2 [.int .i64 2] from rfl) (Reps.one (show Kd.M (Kd.int .i64) _ _ _ (-1) [.int .i64 (-1)] from rfl) (Reps.none _ _))))))); intro vz1 w11 ho12 hb hg_ hnew_; clear hg_ hnew_; (rw [← Nyz1.out] at ho12); have HOz1 := mk (Kd.R_lower (Kd.R_new' ho12 (Kd.R_lt HOz0.out)) (keep_size (w := w) (g := g) (row := none) HK.out)); replace HOz0 := mk (Kd.R_elder' HOz0.out (Kd.R_base ho12) hb); replace HI0 := mk (IsS144.below HI0.out hb); replace BKz0 := mk (blk_below BKz0.out hb); replace HK := mk (KeepBut.trans HK.out (KeepBut.of_below hb g none) (.inl rfl)); replace HB := mk (below_step HB.out hb); clear hb ho12; obtain ⟨Ao13, co13, eo13⟩ := Kd.R_slice HOz1.out; subst eo13) | ((with_reducible refine gate_callee (f := 147) rfl ?_); refine goesL_ (some 8) rfl rfl Try.func147 (by kernel_rfl) rfl #[.pointer (some ⟨g, 0, none⟩), .slice Ao13 yz1.length co13] rfl (by (try simp only [bitvec_to_nat]); rfl) ?_; (with_reducible refine (spec_reader_one.calls k g s0_0 tz3 _ _ yz1 tz1 tz2 w0 _ ?side1 ?side2 ?side3 ?side4 ?side5 A3.out).mono ?_); (case side1 => repeat (with_reducible exact HI0.out)); (case side2 => repeat (with_reducible exact HB.out)); (case side3 => repeat (exact (Kd.R_reads' HOz1.out).2.2)); (case side4 => exact (Kd.R_reads' HOz1.out).2.1); (case side5 => exact far_slice (IsS144.own_ne HI0.out HOz1.out (by decide))); rintro e w14 ⟨rfl, hi, hb, hk⟩; refine ⟨_, rfl, ?_⟩; replace BKz0 := mk (KeepBut.blk hk (g' := gbz0) (o := .cells #[.int .i64 0, .int .i64 0, .int .i64 0, .int .i64 0] 47 (0, 0)) BKz0.out NBz0.out (by simp)); replace HOz0 := mk (Kd.R_mono (Kd.R_keep (IsS144.apart (show IsS144 w0 _ g s0_0 tz3 from by exact HI0.out) HOz0.out (by decide)) hk (fun _ h => h.2)) (fun _ h => h.1)); replace HOz1 := mk (Kd.R_mono (Kd.R_keep (IsS144.apart (show IsS144 w0 _ g s0_0 tz3 from by exact HI0.out) HOz1.out (by decide)) hk (fun _ h => h.2)) (fun _ h => h.1)); replace HK := mk (KeepBut.trans HK.out hk (.inl rfl)); replace HB := mk (hb); replace HI0 := mk (hi); (try clear hb); (try clear hk); (try clear hi)) | ((with_reducible refine gate_dst (N := 10) rfl ?_); refine Kd.R_lit (Kd.int .i64) _ 3 ?hg (N := 10) ?hd (xs := ([1, 2, 3, 1, 0, 16] : List Int)) (inner := [.int .i64 1, .int .i64 2, .int .i64 3, .int .i64 1, .int .i64 0, .int .i64 16]) (ok := fun _ => True) (okp := fun _ => True) ?hr ?hp (fun _ hk => hk) trivial (Below.refl _ _) (Nat.le_refl _) (by simp) ?_; (case hd => rfl); (case hg => rfl); (case hr => (go_simp; done)); (case hp => exact (Reps.one (show Kd.M (Kd.int .i64) _ _ _ 1 [.int .i64 1] from rfl) (Reps.one (show Kd.M (Kd.int .i64) _ _ _ 2 [.int .i64 2] from rfl) (Reps.one (show Kd.M (Kd.int .i64) _ _ _ 3 [.int .i64 3] from rfl) (Reps.one (show Kd.M (Kd.int .i64) _ _ _ 1 [.int .i64 1] from rfl) (Reps.one (show Kd.M (Kd.int .i64) _ _ _ 0 [.int .i64 0] from rfl) (Reps.one (show Kd.M (Kd.int .i64) _ _ _ 16 [.int .i64 16] from rfl) (Reps.none _ _)))))))); intro vz2 w15 ho16 hb hg_ hnew_; clear hg_ hnew_; (rw [← Nyz2.out] at ho16); have HOz2 := mk (Kd.R_lower (Kd.R_new' (Kd.R_new' ho16 (Kd.R_lt HOz0.out)) (Kd.R_lt HOz1.out)) (keep_size (w := w) (g := g) (row := none) HK.out)); replace HOz0 := mk (Kd.R_elder' HOz0.out (Kd.R_base ho16) hb); replace HOz1 := mk (Kd.R_elder' HOz1.out (Kd.R_base ho16) hb); replace HI0 := mk (IsS144.below HI0.out hb); replace BKz0 := mk (blk_below BKz0.out hb); replace HK := mk (KeepBut.trans HK.out (KeepBut.of_below hb g none) (.inl rfl)); replace HB := mk (below_step HB.out hb); clear hb ho16; obtain ⟨Ao17, co17, eo17⟩ := Kd.R_slice HOz2.out; subst eo17) | ((with_reducible refine gate_callee (f := 147) rfl ?_); refine goesL_ (some 11) rfl rfl Try.func147 (by kernel_rfl) rfl #[.pointer (some ⟨g, 0, none⟩), .slice Ao17 yz2.length co17] rfl (by (try simp only [bitvec_to_nat]); rfl) ?_; (with_reducible refine (spec_reader_one.calls k g s0_0 tz2 _ _ yz2 tz4 tz5 w0 _ ?side1 ?side2 ?side3 ?side4 ?side5 A4.out).mono ?_); (case side1 => repeat (with_reducible exact HI0.out)); (case side2 => repeat (with_reducible exact HB.out)); (case side3 => repeat (exact (Kd.R_reads' HOz2.out).2.2)); (case side4 => exact (Kd.R_reads' HOz2.out).2.1); (case side5 => exact far_slice (IsS144.own_ne HI0.out HOz2.out (by decide))); rintro e w18 ⟨rfl, hi, hb, hk⟩; refine ⟨_, rfl, ?_⟩; replace BKz0 := mk (KeepBut.blk hk (g' := gbz0) (o := .cells #[.int .i64 0, .int .i64 0, .int .i64 0, .int .i64 0] 47 (0, 0)) BKz0.out NBz0.out (by simp)); replace HOz0 := mk (Kd.R_mono (Kd.R_keep (IsS144.apart (show IsS144 w0 _ g s0_0 tz2 from by exact HI0.out) HOz0.out (by decide)) hk (fun _ h => h.2)) (fun _ h => h.1)); replace HOz1 := mk (Kd.R_mono (Kd.R_keep (IsS144.apart (show IsS144 w0 _ g s0_0 tz2 from by exact HI0.out) HOz1.out (by decide)) hk (fun _ h => h.2)) (fun _ h => h.1)); replace HOz2 := mk (Kd.R_mono (Kd.R_keep (IsS144.apart (show IsS144 w0 _ g s0_0 tz2 from by exact HI0.out) HOz2.out (by decide)) hk (fun _ h => h.2)) (fun _ h => h.1)); replace HK := mk (KeepBut.trans HK.out hk (.inl rfl)); replace HB := mk (hb); replace HI0 := mk (hi); (try clear hb); (try clear hk); (try clear hi)) | ((with_reducible refine gate_dst (N := 13) rfl ?_); refine Kd.R_lit (Kd.int .i64) _ 3 ?hg (N := 13) ?hd (xs := ([1, 2, 1, 3, 0] : List Int)) (inner := [.int .i64 1, .int .i64 2, .int .i64 1, .int .i64 3, .int .i64 0]) (ok := fun _ => True) (okp := fun _ => True) ?hr ?hp (fun _ hk => hk) trivial (Below.refl _ _) (Nat.le_refl _) (by simp) ?_; (case hd => rfl); (case hg => rfl); (case hr => (go_simp; done)); (case hp => exact (Reps.one (show Kd.M (Kd.int .i64) _ _ _ 1 [.int .i64 1] from rfl) (Reps.one (show Kd.M (Kd.int .i64) _ _ _ 2 [.int .i64 2] from rfl) (Reps.one (show Kd.M (Kd.int .i64) _ _ _ 1 [.int .i64 1] from rfl) (Reps.one (show Kd.M (Kd.int .i64) _ _ _ 3 [.int .i64 3] from rfl) (Reps.one (show Kd.M (Kd.int .i64) _ _ _ 0 [.int .i64 0] from rfl) (Reps.none _ _))))))); intro vz3 w19 ho20 hb hg_ hnew_; clear hg_ hnew_; (rw [← Nyz3.out] at ho20); have HOz3 := mk (Kd.R_lower (Kd.R_new' (Kd.R_new' (Kd.R_new' ho20 (Kd.R_lt HOz0.out)) (Kd.R_lt HOz1.out)) (Kd.R_lt HOz2.out)) (keep_size (w := w) (g := g) (row := none) HK.out)); replace HOz0 := mk (Kd.R_elder' HOz0.out (Kd.R_base ho20) hb); replace HOz1 := mk (Kd.R_elder' HOz1.out (Kd.R_base ho20) hb); replace HOz2 := mk (Kd.R_elder' HOz2.out (Kd.R_base ho20) hb); replace HI0 := mk (IsS144.below HI0.out hb); replace BKz0 := mk (blk_below BKz0.out hb); replace HK := mk (KeepBut.trans HK.out (KeepBut.of_below hb g none) (.inl rfl)); replace HB := mk (below_step HB.out hb); clear hb ho20; obtain ⟨Ao21, co21, eo21⟩ := Kd.R_slice HOz3.out; subst eo21) | ((with_reducible refine gate_callee (f := 147) rfl ?_); refine goesL_ (some 14) rfl rfl Try.func147 (by kernel_rfl) rfl #[.pointer (some ⟨g, 0, none⟩), .slice Ao21 yz3.length co21] rfl (by (try simp only [bitvec_to_nat]); rfl) ?_; (with_reducible refine (spec_reader_one.calls k g s0_0 tz5 _ _ yz3 tz6 tz7 w0 _ ?side1 ?side2 ?side3 ?side4 ?side5 A5.out).mono ?_); (case side1 => repeat (with_reducible exact HI0.out)); (case side2 => repeat (with_reducible exact HB.out)); (case side3 => repeat (exact (Kd.R_reads' HOz3.out).2.2)); (case side4 => exact (Kd.R_reads' HOz3.out).2.1); (case side5 => exact far_slice (IsS144.own_ne HI0.out HOz3.out (by decide))); rintro e w22 ⟨rfl, hi, hb, hk⟩; refine ⟨_, rfl, ?_⟩; have n0_ := mk (KeepBut.blk hk (g' := gbz0) (o := .cells #[.int .i64 0, .int .i64 0, .int .i64 0, .int .i64 0] 47 (0, 0)) BKz0.out NBz0.out (by simp)); have n5_ := mk (KeepBut.trans HK.out hk (.inl rfl)); have n6_ := mk (hb); have n7_ := mk (hi); clear BKz0; clear HOz0; clear HOz1; clear HOz2; clear HOz3; clear HK; clear HB; clear HI0; have BKz0 := n0_; have HK := n5_; have HB := n6_; have HI0 := n7_; (try clear hb); (try clear hk); (try clear hi); obtain ⟨hcz24_0, hcz24_1, hcz24_2, hcz24_3, hfz24_0, hfz24_1, hfz24_2, hfz24_3⟩ := c4 BKz0.out))
 refine bodyPost_ret (results_cell_row rfl _ _ gbz0 47 #[.int .i64 tz0, .int .i64 tz1, .int .i64 tz4, .int .i64 tz6] (0, 0) _ rfl (by refine blk_put (cs := #[.int .i64 tz0, .int .i64 tz1, .int .i64 tz4, .int .i64 0]) ?_ 3 _ rfl; refine blk_put (cs := #[.int .i64 tz0, .int .i64 tz1, .int .i64 0, .int .i64 0]) ?_ 2 _ rfl; refine blk_put (cs := #[.int .i64 tz0, .int .i64 0, .int .i64 0, .int .i64 0]) ?_ 1 _ rfl; refine blk_put (cs := #[.int .i64 0, .int .i64 0, .int .i64 0, .int .i64 0]) ?_ 0 _ rfl; exact BKz0.out) Try.underlying47 rfl (by kernel_rfl)) rfl ?_
 exact ⟨by rfl, by repeat (with_reducible first | exact HI0.out | refine IsS144.far ?_ NBz1.out _), by repeat (with_reducible first | exact HB.out | refine below_set ?_ GEz0.out), by repeat (with_reducible first | exact HK.out | refine keep_far ?_ GWz0.out _)⟩

end Go.Proofs.Ytnofkbbcbpjhfaa.Q

/- Plain words: numbers that do not wrap, elements of lists, rounds that are enough. -/
namespace Go.Proofs.Ytnofkbbcbpjhfaa.Pure
open Go.RowKit Go.Proofs.Ytnofkbbcbpjhfaa.Q Go.Proofs.YtnofkbbcbpjhfaaW.PrintWords Go.Proofs.YtnofkbbcbpjhfaaW.PrintLast Go.Proofs.YtnofkbbcbpjhfaaW.PrintMore
set_option linter.unusedVariables false
set_option linter.unusedSimpArgs false

theorem w64 {x : Int} (h1 : -9223372036854775808 ≤ x) (h2 : x ≤ 9223372036854775807) : wrap64 x = x := by unfold wrap64; omega
theorem w64n (n : Nat) (h : n < 9223372036854775807) : wrap64 ((n : Int) + 1) = ((n + 1 : Nat) : Int) := by unfold wrap64; omega
theorem rd_nat (l : List Int) (i : Nat) (h : i < l.length) : rd l (i : Int) = l[i] := by simp [rd, h]
theorem tdiv_nn (a b : Int) (h : 0 ≤ a) : Int.tdiv a b = a / b := Int.tdiv_eq_ediv_of_nonneg h
theorem tmod_nn (a b : Int) (h : 0 ≤ a) : Int.tmod a b = a % b := Int.tmod_eq_emod_of_nonneg h
theorem ev_of {α : Type} {g : Nat → Option α} {r : α} (K : Nat) (h : ∀ k, K < k → g k = some r) : Ev g r := ⟨K + 1, fun k hk => h k (by omega)⟩
theorem ev_const {α : Type} {o : Option α} {r : α} (h : o = some r) : Ev (fun _ => o) r := ⟨0, fun _ _ => h⟩
theorem ev_bind {α β : Type} {g : Nat → Option α} {f : Nat → α → Option β} {a : α} {r : β} (h : Ev g a) (k : Ev (fun n => f n a) r) : Ev (fun n => (g n).bind (f n)) r := Ev.bind h k
theorem ev_now {α β : Type} {o : Option α} {f : Nat → α → Option β} {a : α} {r : β} (h : o = some a) (k : Ev (fun n => f n a) r) : Ev (fun n => o.bind (f n)) r := Ev.bind (ev_const h) k
theorem ev_pos {α : Type} {c : Prop} [Decidable c] {f g : Nat → Option α} {r : α} (h : c) (k : Ev f r) : Ev (fun n => if c then f n else g n) r := by
 simpa [h] using k
theorem ev_neg {α : Type} {c : Prop} [Decidable c] {f g : Nat → Option α} {r : α} (h : ¬ c) (k : Ev g r) : Ev (fun n => if c then f n else g n) r := by
 simpa [h] using k
theorem mn_def (a b : Int) : mn a b = min a b := by unfold mn; omega
theorem mx_def (a b : Int) : mx a b = max a b := by unfold mx; omega
theorem loop_up {σ ρ : Type} (K n : Nat) (L : Nat → Nat → σ → Option ρ) (Inv : Nat → σ → Prop) (F : Nat → σ → ρ)
  (step : ∀ i s k, i < n → Inv i s → K ≤ k → (L (k + 1) i s = some (F i s)) ∨ ∃ s', L (k + 1) i s = L k (i + 1) s' ∧ Inv (i + 1) s' ∧ F (i + 1) s' = F i s)
  (last : ∀ s k, Inv n s → K ≤ k → L (k + 1) n s = some (F n s)) :
  ∀ d i s k, i + d = n → Inv i s → K + d < k → L k i s = some (F i s) := by
 intro d
 induction d with
 | zero =>
  intro i s k hi hinv hk
  obtain ⟨k, rfl⟩ : ∃ m, k = m + 1 := ⟨k - 1, by omega⟩
  have : i = n := by omega
  subst this
  exact last s k hinv (by omega)
 | succ d ih =>
  intro i s k hi hinv hk
  obtain ⟨k, rfl⟩ : ∃ m, k = m + 1 := ⟨k - 1, by omega⟩
  rcases step i s k (by omega) hinv (by omega) with h | ⟨s', h, hi', hF⟩
  ·exact h
  ·rw [h, ih (i + 1) s' k (by omega) hi' (by omega), hF]
theorem ev_up {σ ρ : Type} (n : Nat) (L : Nat → Nat → σ → Option ρ) (Inv : Nat → σ → Prop) (F : Nat → σ → ρ)
  (step : ∀ i s, i < n → Inv i s → Ev (fun k => L k i s) (F i s) ∨ ∃ s', (∀ k, L (k + 1) i s = L k (i + 1) s') ∧ Inv (i + 1) s' ∧ F (i + 1) s' = F i s)
  (last : ∀ s, Inv n s → Ev (fun k => L k n s) (F n s)) :
  ∀ d i s, i + d = n → Inv i s → Ev (fun k => L k i s) (F i s) := by
 intro d
 induction d with
 | zero =>
  intro i s hi hinv
  have : i = n := by omega
  subst this
  exact last s hinv
 | succ d ih =>
  intro i s hi hinv
  rcases step i s (by omega) hinv with h | ⟨s', h, hi', hF⟩
  ·exact h
  ·rw [← hF]
   exact Ev.step h (ih (i + 1) s' (by omega) hi')
theorem ev_up2 {σ ρ : Type} (n : Nat) (L : Nat → Nat → σ → Option ρ) (Inv : Nat → σ → Prop) (F : Nat → σ → ρ)
  (step : ∀ i s, i < n → Inv i s → Ev (fun k => L k i s) (F i s) ∨ ∃ s', (∀ r, Ev (fun k => L k (i + 1) s') r → Ev (fun k => L k i s) r) ∧ Inv (i + 1) s' ∧ F (i + 1) s' = F i s)
  (last : ∀ s, Inv n s → Ev (fun k => L k n s) (F n s)) :
  ∀ d i s, i + d = n → Inv i s → Ev (fun k => L k i s) (F i s) := by
 intro d
 induction d with
 | zero =>
  intro i s hi hinv
  have : i = n := by omega
  subst this
  exact last s hinv
 | succ d ih =>
  intro i s hi hinv
  rcases step i s (by omega) hinv with h | ⟨s', h, hi', hF⟩
  ·exact h
  ·rw [← hF]
   exact h _ (ih (i + 1) s' (by omega) hi')
theorem ev_val {α : Type} {g : Nat → Option α} {r r' : α} (h : Ev g r) (e : r = r') : Ev g r' := e ▸ h
theorem take_set {α : Type} (s : List α) (i : Nat) (c : α) (h : i < s.length) : (s.set i c).take (i + 1) = s.take i ++ [c] := by
 rw [List.take_succ_eq_append_getElem (by simpa using h), List.take_set_of_le (Nat.le_refl i)]
 simp

/- Images: valid ones, as the program and the reference have it; copies of lists of numbers. -/

def byteI (n : Int) : Bool := decide (0 ≤ n) && decide (n ≤ 255)
def shapeI (w h p : Int) : Bool := decide (1 ≤ w ∧ w ≤ 16 ∧ 1 ≤ h ∧ h ≤ 16 ∧ 1 ≤ p ∧ p ≤ 4)
theorem shapeI_iff (w h p : Int) : shapeI w h p = true ↔ 1 ≤ w ∧ w ≤ 16 ∧ 1 ≤ h ∧ h ≤ 16 ∧ 1 ≤ p ∧ p ≤ 4 := by simp [shapeI]
def validI (w h p : Int) (d : List Int) : Bool := shapeI w h p && (decide ((d.length : Int) = w * h * p) && d.all byteI)
theorem validI_iff (w h p : Int) (d : List Int) : validI w h p d = true ↔ (1 ≤ w ∧ w ≤ 16 ∧ 1 ≤ h ∧ h ≤ 16 ∧ 1 ≤ p ∧ p ≤ 4) ∧ (d.length : Int) = w * h * p ∧ ∀ n ∈ d, 0 ≤ n ∧ n ≤ 255 := by
 simp [validI, shapeI_iff, byteI, and_assoc]
theorem shape_prod {w h p : Int} (hs : 1 ≤ w ∧ w ≤ 16 ∧ 1 ≤ h ∧ h ≤ 16 ∧ 1 ≤ p ∧ p ≤ 4) : 0 ≤ w * h ∧ w * h ≤ 256 ∧ 0 ≤ w * h * p ∧ w * h * p ≤ 1024 := by
 have h1 : 0 ≤ w * h := Int.mul_nonneg (by omega) (by omega)
 have h2 : w * h ≤ 16 * 16 := Int.mul_le_mul (by omega) (by omega) (by omega) (by omega)
 have h3 : 0 ≤ w * h * p := Int.mul_nonneg h1 (by omega)
 have h4 : w * h * p ≤ 256 * 4 := Int.mul_le_mul (by omega) (by omega) (by omega) (by omega)
 omega
theorem shape_wrap {w h p : Int} (hs : 1 ≤ w ∧ w ≤ 16 ∧ 1 ≤ h ∧ h ≤ 16 ∧ 1 ≤ p ∧ p ≤ 4) : wrap64 (wrap64 (w * h) * p) = w * h * p := by
 have := shape_prod hs
 rw [w64 (x := w * h) (by omega) (by omega), w64 (by omega) (by omega)]
theorem impl_isSide_eq (a : Int) : impl_isSide.f a = some (decide (1 ≤ a ∧ a ≤ 16)) := by
 unfold impl_isSide.f
 by_cases c : a ≥ 1
 ·rw [if_pos c]; congr 1; rw [decide_eq_decide]; omega
 ·rw [if_neg c, decide_eq_false (by omega)]
theorem impl_isShape_eq (w h p : Int) : impl_isShape.f w h p = some (shapeI w h p) := by
 unfold impl_isShape.f shapeI
 rw [impl_isSide_eq, impl_isSide_eq]
 simp only [Option.bind_some]
 by_cases c1 : 1 ≤ w ∧ w ≤ 16
 ·rw [if_pos (by simpa using c1)]
  by_cases c2 : 1 ≤ h ∧ h ≤ 16
  ·rw [if_pos (by simpa using c2)]
   by_cases c3 : p ≥ 1
   ·rw [if_pos c3]; congr 1; rw [decide_eq_decide]; omega
   ·rw [if_neg c3, decide_eq_false (by omega)]
  ·rw [if_neg (by simpa using c2), decide_eq_false (by omega)]
 ·rw [if_neg (by simpa using c1), decide_eq_false (by omega)]
theorem areBytesI_eq (l : List Int) : impl_areBytes.f l = some (l.all byteI) := by
 unfold impl_areBytes.f
 congr 1
 rw [List.not_any_eq_all_not]
 congr 1
 funext n
 unfold notByte byteI
 rw [Bool.eq_iff_iff]
 simp
theorem impl_isImage_eq (w h p : Int) (d : List Int) : impl_isImage.f w h p d = some (validI w h p d) := by
 unfold impl_isImage.f validI
 rw [impl_isShape_eq, areBytesI_eq]
 simp only [Option.bind_some]
 by_cases c : shapeI w h p = true
 ·rw [if_pos c, shape_wrap ((shapeI_iff w h p).1 c), c]
  by_cases e : (d.length : Int) = w * h * p
  ·rw [if_pos e, decide_eq_true e]; rfl
  ·rw [if_neg e, decide_eq_false e]; rfl
 ·rw [if_neg c, Bool.eq_false_iff.2 c]; rfl
theorem spec_inRangeI_eq (n a b : Int) : spec_inRange.f n a b = some (decide (a ≤ n) && decide (n ≤ b)) := by
 unfold spec_inRange.f
 by_cases c : a ≤ n
 ·rw [if_pos c, decide_eq_true c, Bool.true_and]
 ·rw [if_neg c, decide_eq_false c, Bool.false_and]
theorem spec_validShape_eq (w h p : Int) : spec_validShape.f w h p = some (shapeI w h p) := by
 unfold spec_validShape.f shapeI
 rw [spec_inRangeI_eq, spec_inRangeI_eq, spec_inRangeI_eq]
 simp only [Option.bind_some]
 by_cases c1 : 1 ≤ w ∧ w ≤ 16
 ·rw [if_pos (by simpa using c1)]
  by_cases c2 : 1 ≤ h ∧ h ≤ 16
  ·rw [if_pos (by simpa using c2)]; congr 1; rw [Bool.eq_iff_iff]; simp; omega
  ·rw [if_neg (by simpa using c2), decide_eq_false (by omega)]
 ·rw [if_neg (by simpa using c1), decide_eq_false (by omega)]
theorem spec_allInI_ev (l : List Int) (hl : l.length ≤ 1000000000000) : Ev (fun k => spec_allIn.f k l 0 255) (l.all byteI) := by
 have key := ev_up l.length (fun k i (_ : Unit) => spec_allIn.l0 k l 0 255 (i : Int)) (fun _ _ => True) (fun i _ => (l.drop i).all byteI)
  (by
   intro i s hi _
   have hd : (l.drop i).all byteI = (byteI l[i] && (l.drop (i + 1)).all byteI) := by rw [List.drop_eq_getElem_cons hi, List.all_cons]
   cases hb : byteI l[i] with
   | true =>
    right
    refine ⟨(), fun k => ?_, trivial, by rw [hd, hb, Bool.true_and]⟩
    simp only [spec_allIn.l0]
    rw [if_pos (by omega), if_pos (by omega), rd_nat l i hi, spec_inRangeI_eq]
    simp only [Option.bind_some]
    rw [if_pos (show (decide (0 ≤ l[i]) && decide (l[i] ≤ 255)) = true from hb), w64n i (by omega)]
   | false =>
    left
    rw [hd, hb, Bool.false_and]
    refine Ev.step (f := fun _ => some false) (fun k => ?_) (Ev.now false)
    simp only [spec_allIn.l0]
    rw [if_pos (by omega), if_pos (by omega), rd_nat l i hi, spec_inRangeI_eq]
    simp only [Option.bind_some]
    rw [if_neg (Bool.eq_false_iff.1 (show (decide (0 ≤ l[i]) && decide (l[i] ≤ 255)) = false from hb))])
  (by
   intro s _
   rw [List.drop_length]
   refine Ev.step (f := fun _ => some true) (fun k => ?_) (Ev.now true)
   simp only [spec_allIn.l0]
   rw [if_neg (by omega)])
  l.length 0 () (by omega) trivial
 unfold spec_allIn.f
 simpa using key
theorem spec_validImage_ev (w h p : Int) (d : List Int) (hl : d.length ≤ 1000000000000) : Ev (fun k => spec_validImage.f k w h p d) (validI w h p d) := by
 unfold spec_validImage.f validI
 refine ev_now (spec_validShape_eq w h p) ?_
 by_cases c : shapeI w h p = true
 ·refine ev_pos c ?_
  rw [shape_wrap ((shapeI_iff w h p).1 c), c, Bool.true_and]
  by_cases e : (d.length : Int) = w * h * p
  ·refine ev_pos e ?_
   rw [decide_eq_true e, Bool.true_and]
   exact ev_bind (spec_allInI_ev d hl) (Ev.now _)
  ·refine ev_neg e ?_
   rw [decide_eq_false e]
   exact Ev.now _
 ·refine ev_neg c ?_
  rw [Bool.eq_false_iff.2 c]
  exact Ev.now _

/- Runs: what the program and the reference take for a region. -/

abbrev Run := S118
theorem rdRun (l : List Run) (i : Nat) (h : i < l.length) : rd_T118 l (i : Int) = l[i] := by simp [rd_T118, h]
def runOK (r : Run) : Bool := decide (0 ≤ r.f0) && decide (r.f0 < 16) && decide (0 ≤ r.f1) && decide (r.f1 < r.f2) && decide (r.f2 ≤ 16)
theorem runOK_iff (r : Run) : runOK r = true ↔ 0 ≤ r.f0 ∧ r.f0 < 16 ∧ 0 ≤ r.f1 ∧ r.f1 < r.f2 ∧ r.f2 ≤ 16 := by
 simp [runOK, and_assoc]
def runAfter (p r : Run) : Bool := decide (p.f0 < r.f0) || (decide (p.f0 = r.f0) && decide (p.f2 < r.f1))
theorem runAfter_iff (p r : Run) : runAfter p r = true ↔ p.f0 < r.f0 ∨ (p.f0 = r.f0 ∧ p.f2 < r.f1) := by
 simp [runAfter]
def validFrom : Option Run → List Run → Bool
 | _, [] => true
 | none, r :: rs => runOK r && validFrom (some r) rs
 | some p, r :: rs => (runOK r && runAfter p r) && validFrom (some r) rs
def validR (l : List Run) : Bool := validFrom none l
def before (l : List Run) (i : Nat) : Option Run := if i = 0 then none else l[i - 1]?
theorem validFrom_ok (l : List Run) : ∀ p, validFrom p l = true → ∀ r ∈ l, runOK r = true := by
 induction l with
 | nil => intro p _ r hr; cases hr
 | cons x xs ih =>
  intro p h r hr
  have h2 : runOK x = true ∧ validFrom (some x) xs = true := by
   cases p with
   | none => simpa [validFrom] using h
   | some p => simp [validFrom] at h; exact ⟨h.1.1, h.2⟩
  rcases List.mem_cons.1 hr with rfl | hr
  ·exact h2.1
  ·exact ih _ h2.2 r hr
theorem valid_ok {l : List Run} (h : validR l = true) : ∀ r ∈ l, runOK r = true := validFrom_ok l none h
theorem valid_ranges {l : List Run} (h : validR l = true) : ∀ r ∈ l, 0 ≤ r.f0 ∧ r.f0 < 16 ∧ 0 ≤ r.f1 ∧ r.f2 ≤ 16 := by
 intro r hr
 have := (runOK_iff r).1 (valid_ok h r hr)
 omega

/- Grids and their runs, as the reference has them: lists of 256 bools. -/

def tab (g : Nat → Bool) : List Bool := (List.range 256).map g
theorem tab_length (g : Nat → Bool) : (tab g).length = 256 := by simp [tab]
theorem tab_get (g : Nat → Bool) (i : Nat) (h : i < 256) : rdOf false (tab g) (i : Int) = g i := by
 simp [rdOf, tab, List.getD_eq_getElem?_getD, h]
theorem tab_set (g : Nat → Bool) (i : Nat) (b : Bool) : (tab g).set i b = tab (fun p => if p = i then b else g p) := by
 apply List.ext_getElem
 ·simp [tab]
 ·intro j h1 h2
  rw [List.getElem_set]
  simp only [tab, List.getElem_map, List.getElem_range]
  by_cases e : i = j
  ·rw [if_pos e, if_pos e.symm]
  ·rw [if_neg e, if_neg (fun h => e h.symm)]
theorem tab_congr {g g' : Nat → Bool} (h : ∀ p, p < 256 → g p = g' p) : tab g = tab g' := by
 unfold tab
 apply List.map_congr_left
 intro p hp
 exact h p (by simpa using hp)
theorem tab_false : List.replicate 256 false = tab (fun _ => false) := by
 refine List.ext_getElem (by rw [List.length_replicate, tab_length]) (fun j h1 h2 => ?_)
 rw [List.getElem_replicate]
 simp only [tab, List.getElem_map]
theorem endAt_congr {g g' : Nat → Bool} (h : ∀ p, p < 256 → g p = g' p) (y : Nat) (hy : y < 16) : ∀ n x, endAt g y n x = endAt g' y n x := by
 intro n
 induction n with
 | zero => intro x; rfl
 | succ n ih =>
  intro x
  unfold endAt
  by_cases hx : x < 16
  ·rw [h (y * 16 + x) (by omega), ih (x + 1)]
  ·rw [if_neg (fun c => hx c.1), if_neg (fun c => hx c.1)]
theorem scan_congr {g g' : Nat → Bool} (h : ∀ p, p < 256 → g p = g' p) (y : Nat) (hy : y < 16) : ∀ d x, 17 ≤ x + d → scanRow g y x = scanRow g' y x := by
 intro d
 induction d with
 | zero => intro x hx; rw [scan_end g y x (by omega), scan_end g' y x (by omega)]
 | succ d ih =>
  intro x hx
  by_cases h16 : x < 16
  ·cases hv : g (y * 16 + x) with
   | true =>
    have hv' : g' (y * 16 + x) = true := by rw [← h _ (by omega)]; exact hv
    have := endAt_ge g y (16 - x) x
    rw [scan_true g y x h16 hv, scan_true g' y x h16 hv', endAt_congr h y hy, ih _ (by rw [← endAt_congr h y hy]; omega)]
   | false =>
    have hv' : g' (y * 16 + x) = false := by rw [← h _ (by omega)]; exact hv
    rw [scan_false g y x h16 hv, scan_false g' y x h16 hv', ih _ (by omega)]
  ·rw [scan_end g y x (by omega), scan_end g' y x (by omega)]
theorem runsL_congr {g g' : Nat → Bool} (h : ∀ p, p < 256 → g p = g' p) : runsL g = runsL g' := by
 unfold runsL runsTo
 rw [List.flatMap_def, List.flatMap_def]
 congr 1
 apply List.map_congr_left
 intro y hy
 exact scan_congr h y (by simpa using hy) 17 0 (by omega)
/-! the reference's grid -/
theorem spec_gridOf_ev (l : List Run) (hl : l.length ≤ 1000000000) (hok : ∀ r ∈ l, 0 ≤ r.f0 ∧ r.f0 < 16 ∧ 0 ≤ r.f1 ∧ r.f2 ≤ 16) : Ev (fun k => spec_gridOf.f k l) (tab (gridF l)) := by
 have key := ev_up2 l.length (fun k i (s : List Bool) => spec_gridOf.l0 k l s (i : Int)) (fun i s => s = tab (gridF (l.take i))) (fun _ _ => tab (gridF l))
  (by
   intro i s hi hs
   right
   have ho := hok l[i] (List.getElem_mem hi)
   refine ⟨tab (gridF (l.take (i + 1))), fun r hr => ?_, rfl, rfl⟩
   have inner : ∀ d x : Nat, l[i].f1 ≤ (x : Int) → ((x : Int) + d = l[i].f2 ∨ (d = 0 ∧ l[i].f2 ≤ x ∧ (x : Int) = l[i].f1)) →
     Ev (fun k => spec_gridOf.l1 k l (tab (fun p => gridF (l.take i) p || runTo l[i] x p)) (i : Int) (x : Int)) r := by
    intro d
    induction d with
    | zero =>
     intro x hx hd
     have he : tab (fun p => gridF (l.take i) p || runTo l[i] x p) = tab (gridF (l.take (i + 1))) := by
      apply tab_congr
      intro p _
      rw [gridF_succ l i hi]
      congr 1
      unfold runTo runIn
      by_cases c : l[i].f1 ≤ ((p % 16 : Nat) : Int)
      ·congr 1
       rw [decide_eq_decide]
       omega
      ·rw [decide_eq_false c, Bool.and_false, Bool.false_and, Bool.false_and]
     refine Ev.step (fun k => ?_) hr
     simp only [spec_gridOf.l1]
     rw [if_pos (by omega), if_pos (by omega), rdRun l i hi, if_neg (by omega), w64n i (by omega), he]
    | succ d ih =>
     intro x hx hd
     have hx16 : x < 16 := by omega
     obtain ⟨Y, hY⟩ := Int.eq_ofNat_of_zero_le ho.1
     have hs' : (tab (fun p => gridF (l.take i) p || runTo l[i] x p)).set (Y * 16 + x) true = tab (fun p => gridF (l.take i) p || runTo l[i] (x + 1) p) := by
      rw [tab_set]
      exact tab_congr (fun p _ => runTo_step l[i] Y x hY hx16 hx _ p)
     have hn := ih (x + 1) (by omega) (by omega)
     refine Ev.step (fun k => ?_) hn
     simp only [spec_gridOf.l1]
     have e1 : wrap64 (wrap64 (l[i].f0 * 16) + (x : Int)) = ((Y * 16 + x : Nat) : Int) := by
      rw [hY, w64 (x := (Y : Int) * 16) (by omega) (by omega), w64 (x := (Y : Int) * 16 + (x : Int)) (by omega) (by omega)]; omega
     rw [if_pos (by omega), if_pos (by omega), rdRun l i hi, if_pos (by omega), e1, if_pos (by omega), tab_length, if_pos (by omega), Int.toNat_natCast, hs', w64n x (by omega)]
   obtain ⟨F, hF⟩ := Int.eq_ofNat_of_zero_le ho.2.2.1
   have h0 : Ev (fun k => spec_gridOf.l1 k l (tab (fun p => gridF (l.take i) p || runTo l[i] F p)) (i : Int) (F : Int)) r := by
    by_cases c : l[i].f1 ≤ l[i].f2
    ·exact inner (l[i].f2 - l[i].f1).toNat F (by omega) (.inl (by omega))
    ·exact inner 0 F (by omega) (.inr ⟨rfl, by omega, by omega⟩)
   have he : tab (fun p => gridF (l.take i) p || runTo l[i] F p) = s := by
    rw [hs]
    apply tab_congr
    intro p _
    have : runTo l[i] F p = false := by
     unfold runTo
     rw [hF]
     by_cases c : ((F : Nat) : Int) ≤ ((p % 16 : Nat) : Int)
     ·rw [decide_eq_false (show ¬ p % 16 < F by omega), Bool.and_false]
     ·rw [decide_eq_false c, Bool.and_false, Bool.false_and]
    rw [this, Bool.or_false]
   rw [he] at h0
   refine Ev.step (fun k => ?_) h0
   simp only [spec_gridOf.l0]
   rw [if_pos (by omega), if_pos (by omega), rdRun l i hi, hF])
  (by
   intro s hs
   refine Ev.step (f := fun _ => some s) (fun k => ?_) (ev_val (Ev.now s) (by rw [hs, List.take_length]))
   simp only [spec_gridOf.l0]
   rw [if_neg (by omega)])
  l.length 0 (tab (gridF (l.take 0))) (by omega) rfl
 unfold spec_gridOf.f
 refine Ev.congr (fun k => ?_) key
 rw [if_pos (by omega), tab_false]
 rfl
/-! the reference's runs -/
def rowRest (g : Nat → Bool) (y x : Nat) (from_ : Int) : List Run :=
 if from_ < 0 then scanRow g y x else ⟨(y : Int), from_, (endAt g y (16 - x) x : Nat)⟩ :: scanRow g y (endAt g y (16 - x) x + 1)
theorem spec_runsOf_ev (g : Nat → Bool) : Ev (fun k => spec_runsOf.f k (tab g)) (runsL g) := by
 have key := ev_up2 16 (fun k y (s : List Run) => spec_runsOf.l0 k (tab g) s (y : Int)) (fun y s => s = runsTo g y ∧ s.length ≤ 17 * y) (fun _ _ => runsL g)
  (by
   intro y s hy hs
   right
   have inner : ∀ r, (∀ acc : List Run, acc = runsTo g (y + 1) → acc.length ≤ 17 * (y + 1) → Ev (fun k => spec_runsOf.l0 k (tab g) acc ((y + 1 : Nat) : Int)) r) →
     Ev (fun k => spec_runsOf.l1 k (tab g) s (y : Int) (-1) 0) r := by
    intro r hnext
    have h := ev_up2 17 (fun k x (q : List Run × Int) => spec_runsOf.l1 k (tab g) q.1 (y : Int) q.2 (x : Int))
     (fun x q => q.1 ++ rowRest g y x q.2 = runsTo g (y + 1) ∧ q.1.length ≤ 17 * y + x ∧ (q.2 = -1 ∨ (0 ≤ q.2 ∧ q.2 < x ∧ x ≤ 16))) (fun _ _ => r)
     (by
      intro x q hx hq
      obtain ⟨acc, fr⟩ := q
      obtain ⟨h1, h2, h3⟩ := hq
      simp only at h1 h2 h3
      right
      have j3 : ∀ (b : Bool), (x < 16 → b = g (y * 16 + x)) → (x = 16 → b = false) → ∃ s' : List Run × Int,
        (∀ r, Ev (fun k => spec_runsOf.l1 k (tab g) s'.1 (y : Int) s'.2 ((x + 1 : Nat) : Int)) r → Ev (fun k => spec_runsOf.j2 k (tab g) acc (y : Int) fr (x : Int) b) r) ∧
        (s'.1 ++ rowRest g y (x + 1) s'.2 = runsTo g (y + 1) ∧ s'.1.length ≤ 17 * y + (x + 1) ∧ (s'.2 = -1 ∨ (0 ≤ s'.2 ∧ s'.2 < ((x + 1 : Nat) : Int) ∧ x + 1 ≤ 16))) := by
       intro b hb hb16
       rcases h3 with h3 | h3
       ·subst h3
        cases b with
        | true =>
         have hx16 : x < 16 := by
          by_cases c : x = 16
          ·have := hb16 c; cases this
          ·omega
         refine ⟨(acc, (x : Int)), fun r hr => ?_, ?_, by simp only; omega, .inr (by simp only; omega)⟩
         ·refine Ev.step (f := fun k => spec_runsOf.j3 k (tab g) acc (y : Int) (-1) (x : Int) true true) (fun k => ?_) (Ev.step (fun k => ?_) hr)
          ·simp only [spec_runsOf.j2]; simp
          ·simp only [spec_runsOf.j3]
           rw [if_pos trivial, if_pos trivial, w64n x (by omega)]
         ·have hv := (hb hx16).symm
          rw [← h1]
          show acc ++ rowRest g y (x + 1) (x : Int) = acc ++ rowRest g y x (-1)
          unfold rowRest
          rw [if_neg (by omega), if_pos (by omega), scan_true g y x hx16 hv, endAt_step g y x hx16 hv]
        | false =>
         refine ⟨(acc, -1), fun r hr => ?_, ?_, by simp only; omega, .inl rfl⟩
         ·refine Ev.step (f := fun k => spec_runsOf.j3 k (tab g) acc (y : Int) (-1) (x : Int) false false) (fun k => ?_) (Ev.step (fun k => ?_) hr)
          ·simp only [spec_runsOf.j2]; simp
          ·simp only [spec_runsOf.j3]
           rw [if_neg (by simp), if_neg (by simp), if_neg (by omega), w64n x (by omega)]
         ·rw [← h1]
          show acc ++ rowRest g y (x + 1) (-1) = acc ++ rowRest g y x (-1)
          unfold rowRest
          rw [if_pos (by omega), if_pos (by omega)]
          by_cases c : x < 16
          ·rw [scan_false g y x c (hb c).symm]
          ·rw [scan_end g y x (by omega), scan_end g y (x + 1) (by omega)]
       ·cases b with
        | true =>
         have hx16 : x < 16 := by
          by_cases c : x = 16
          ·have := hb16 c; cases this
          ·omega
         refine ⟨(acc, fr), fun r hr => ?_, ?_, by simp only; omega, .inr (by simp only; omega)⟩
         ·refine Ev.step (f := fun k => spec_runsOf.j3 k (tab g) acc (y : Int) fr (x : Int) true false) (fun k => ?_) (Ev.step (fun k => ?_) hr)
          ·simp only [spec_runsOf.j2]
           rw [if_pos trivial, decide_eq_false (show ¬ fr < 0 by omega)]
          ·simp only [spec_runsOf.j3]
           rw [if_neg (by simp), if_pos trivial, w64n x (by omega)]
         ·have hv := (hb hx16).symm
          rw [← h1]
          show acc ++ rowRest g y (x + 1) fr = acc ++ rowRest g y x fr
          unfold rowRest
          rw [if_neg (by omega), if_neg (by omega), endAt_step g y x hx16 hv]
        | false =>
         refine ⟨(acc ++ [⟨(y : Int), fr, (x : Int)⟩], -1), fun r hr => ?_, ?_, by simp; omega, .inl rfl⟩
         ·refine Ev.step (f := fun k => spec_runsOf.j3 k (tab g) acc (y : Int) fr (x : Int) false false) (fun k => ?_) (Ev.step (fun k => ?_) hr)
          ·simp only [spec_runsOf.j2]; simp
          ·simp only [spec_runsOf.j3]
           rw [if_neg (by simp), if_neg (by simp), if_pos (by omega), if_pos (by omega), w64n x (by omega)]
         ·rw [← h1]
          show acc ++ [⟨(y : Int), fr, (x : Int)⟩] ++ rowRest g y (x + 1) (-1) = acc ++ rowRest g y x fr
          unfold rowRest
          have hst : endAt g y (16 - x) x = x := endAt_stop g y x (by
           by_cases c : x < 16
           ·right; exact (hb c).symm
           ·left; omega)
          rw [if_pos (by omega), if_neg (by omega), hst]
          simp
      by_cases hx16 : x < 16
      ·obtain ⟨s', e1, e2⟩ := j3 (g (y * 16 + x)) (fun _ => rfl) (fun c => by omega)
       refine ⟨s', fun r hr => ?_, e2, rfl⟩
       refine Ev.step (fun k => ?_) (e1 r hr)
       simp only [spec_runsOf.l1]
       have e3 : wrap64 (wrap64 ((y : Int) * 16) + (x : Int)) = ((y * 16 + x : Nat) : Int) := by
        rw [w64 (x := (y : Int) * 16) (by omega) (by omega), w64 (x := (y : Int) * 16 + (x : Int)) (by omega) (by omega)]; omega
       rw [if_pos (by omega), if_pos (by omega), e3, if_pos (by omega), tab_length, if_pos (by omega), tab_get g _ (by omega)]
      ·obtain ⟨s', e1, e2⟩ := j3 false (fun c => by omega) (fun _ => rfl)
       refine ⟨s', fun r hr => ?_, e2, rfl⟩
       refine Ev.step (fun k => ?_) (e1 r hr)
       simp only [spec_runsOf.l1]
       rw [if_pos (by omega), if_neg (by omega)])
     (by
      intro q hq
      obtain ⟨acc, fr⟩ := q
      obtain ⟨h1, h2, h3⟩ := hq
      simp only at h1 h2 h3
      have hf : fr = -1 := by omega
      subst hf
      have he : acc = runsTo g (y + 1) := by
       rw [← h1]
       unfold rowRest
       rw [if_pos (by omega), scan_end g y 17 (by omega), List.append_nil]
      refine Ev.step (fun k => ?_) (hnext acc he (by omega))
      simp only [spec_runsOf.l1]
      rw [if_neg (by omega), w64n y (by omega)])
     17 0 (s, -1) (by omega) ⟨by
      unfold rowRest
      rw [if_pos (by omega), hs.1, ← runsTo_succ], by have := hs.2; simp only; omega, .inl rfl⟩
    exact h
   have hlen : (runsTo g (y + 1)).length ≤ 17 * (y + 1) := by
    rw [runsTo_succ, List.length_append]
    have hsc : ∀ d x, 17 ≤ x + d → (scanRow g y x).length ≤ 17 - x := by
     intro d
     induction d with
     | zero => intro x hx; rw [scan_end g y x (by omega)]; simp
     | succ d ih =>
      intro x hx
      by_cases h16 : x < 16
      ·cases hv : g (y * 16 + x) with
       | true =>
        have := endAt_ge g y (16 - x) x
        rw [scan_true g y x h16 hv, List.length_cons]
        have := ih (endAt g y (16 - x) x + 1) (by omega)
        omega
       | false =>
        rw [scan_false g y x h16 hv]
        have := ih (x + 1) (by omega)
        omega
      ·rw [scan_end g y x (by omega)]; simp
    have h1 := hsc 17 0 (by omega)
    have h2 := hs.2
    rw [hs.1] at h2
    omega
   refine ⟨runsTo g (y + 1), fun r hr => ?_, ⟨rfl, hlen⟩, rfl⟩
   refine Ev.step (fun k => ?_) (inner r (fun acc ha _ => by rw [ha]; exact hr))
   simp only [spec_runsOf.l0]
   rw [if_pos (by omega)])
  (by
   intro s hs
   refine Ev.step (f := fun _ => some s) (fun k => ?_) (ev_val (Ev.now s) hs.1)
   simp only [spec_runsOf.l0]
   rw [if_neg (by omega)])
  16 0 [] (by omega) ⟨by simp [runsTo], by simp⟩
 exact key

/- Neighbours of a grid's pixels, by their numbers; a loop that fills a grid. -/

theorem gso_at (so : Nat → Nat → Bool) (p : Nat) (h : p < 256) : gso so 256 p = so (p % 16) (p / 16) := by
 unfold gso; rw [decide_eq_true h, Bool.true_and]
def rdT (g : Nat → Bool) (i : Int) : Bool := rdOf false (tab g) i
theorem rdT_nat (g : Nat → Bool) (i : Nat) (h : i < 256) : rdT g (i : Int) = g i := tab_get g i h
theorem hasP_no (g : Nat → Bool) (x y : Int) (h : x < 0 ∨ 16 ≤ x ∨ y < 0 ∨ 16 ≤ y) : hasP g x y = false := by
 rw [← Bool.not_eq_true, hasP_iff]; omega
theorem fill_ev {ρ : Type} (f : Nat → Bool) (init : Nat → Bool) (L : Nat → List Bool → Nat → Option ρ) (r : ρ)
  (step : ∀ k s p, p < 256 → s = tab (fun q => if q < p then f q else init q) → L (k + 1) s p = L k (s.set p (f p)) (p + 1))
  (last : Ev (fun k => L k (tab f) 256) r) : Ev (fun k => L k (tab init) 0) r := by
 have key := ev_up 256 (fun k p s => L k s p) (fun p s => s = tab (fun q => if q < p then f q else init q)) (fun _ _ => r)
  (by
   intro p s hp hs
   right
   refine ⟨s.set p (f p), fun k => step k s p hp hs, ?_, rfl⟩
   rw [hs, tab_set]
   apply tab_congr
   intro q _
   by_cases e : q = p
   ·subst e; rw [if_pos rfl, if_pos (by omega)]
   ·rw [if_neg e]
    by_cases h1 : q < p
    ·rw [if_pos h1, if_pos (by omega)]
    ·rw [if_neg h1, if_neg (by omega)])
  (by
   intro s hs
   have : s = tab f := by rw [hs]; exact tab_congr (fun q hq => by rw [if_pos hq])
   rw [this]; exact last)
  256 0 (tab init) (by omega) (tab_congr (fun q _ => by rw [if_neg (by omega)]))
 exact key
end Go.Proofs.Ytnofkbbcbpjhfaa.Pure
