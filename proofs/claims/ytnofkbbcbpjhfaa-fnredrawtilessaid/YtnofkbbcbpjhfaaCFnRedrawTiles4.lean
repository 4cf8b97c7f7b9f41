/- A part of the proof that the statement FnRedrawTilesSaid holds, under no condition of its own: Redrawn tiles are those of the whole picture: the law FnRedrawTiles over lists of numbers alone. -/
import Derived.Test.YtnofkbbcbpjhfaaCFnRedrawTiles1
import Derived.Test.YtnofkbbcbpjhfaaCFnRedrawTiles3
import Derived.Test.YtnofkbbcbpjhfaaCFnRedrawTiles2
namespace Go.Proofs.Ytnofkbbcbpjhfaa.Q
open Go.RowKit Go.Proofs.YtnofkbbcbpjhfaaW.PrintWords Go.Proofs.YtnofkbbcbpjhfaaW.PrintLast Go.Proofs.YtnofkbbcbpjhfaaW.PrintMore
attribute [local go_sem] max2_int min2_int max_two min_two max_three min_three max_four min_four
set_option linter.unusedVariables false
set_option linter.unusedSimpArgs false
open Go.Proofs.YtnofkbbcbpjhfaaW.PrintWords.Aside0 (mk)
set_option maxHeartbeats 12000000
set_option maxRecDepth 100000
mutual
def spec_DrawRedrawTiles.j0 : Nat → List S55 → List Int → Int → Int → Int → Int → List Int → Int → Int → Int → List Int → Option (Int × Int × Int × List Int × Int × Int × Int × List Int × (List S55) × List Int)
 | 0, _, _, _, _, _, _, _, _, _, _, _ => none
 | k + 1, x8, xz9, xz15, xz5, xz6, xz7, xz8, xz10, xz11, xz12, xz13 => spec_DrawRedrawTiles.l0 k x8 ([] : List Int) 0 xz9 xz15 xz5 xz6 xz7 xz8 xz10 xz11 xz12 xz13
def spec_DrawRedrawTiles.l0 : Nat → List S55 → List Int → Int → List Int → Int → Int → Int → Int → List Int → Int → Int → Int → List Int → Option (Int × Int × Int × List Int × Int × Int × Int × List Int × (List S55) × List Int)
 | 0, _, _, _, _, _, _, _, _, _, _, _, _, _ => none
 | k + 1, x8, x10, x11, xz9, xz15, xz5, xz6, xz7, xz8, xz10, xz11, xz12, xz13 => if x11 < 4 then ((spec_reader_pick.f k xz9 xz15 2).bind fun btz4 => (if btz4.1 = 0 then ((spec_validImage.f k xz5 xz6 xz7 xz8).bind fun tz17 => (if tz17 = true then ((spec_tileCount.f xz5 xz6 xz7 xz8).bind fun tz8 => (if x11 < tz8 then (if x10.length < 17592186044416 then (spec_DrawRedrawTiles.l0 k x8 (x10 ++ [x11]) (wrap64 (x11 + 1)) xz9 btz4.2 xz5 xz6 xz7 xz8 xz10 xz11 xz12 xz13) else none) else (spec_DrawRedrawTiles.l0 k x8 x10 (wrap64 (x11 + 1)) xz9 btz4.2 xz5 xz6 xz7 xz8 xz10 xz11 xz12 xz13))) else (spec_DrawRedrawTiles.l0 k x8 x10 (wrap64 (x11 + 1)) xz9 btz4.2 xz5 xz6 xz7 xz8 xz10 xz11 xz12 xz13))) else (spec_DrawRedrawTiles.l0 k x8 x10 (wrap64 (x11 + 1)) xz9 btz4.2 xz5 xz6 xz7 xz8 xz10 xz11 xz12 xz13))) else ((spec_reader_spoil.f k xz9 xz15 x10 16).bind fun btz5 => (some (xz10, xz11, xz12, xz13, xz5, xz6, xz7, xz8, x8, btz5.1)))
end
def spec_DrawRedrawTiles.f (k : Nat) (l0 : List Int) : Option (Int × Int × Int × List Int × Int × Int × Int × List Int × (List S55) × List Int) := (spec_newReader.f l0).bind fun btz3 => ((spec_DrawFlattenLayers.f k l0).bind fun btz0 => ((spec_copyInts.f btz0.2.2.2.1).bind fun tz5 => ((spec_reader_pick.f k btz3.1 btz3.2 12).bind fun btz2 => (if btz2.1 = 0 then ((spec_anyImage.f k btz3.1 btz2.2).bind fun btz1 => (spec_DrawRedrawTiles.j0 k btz0.2.2.2.2 btz3.1 btz1.2.2.2.2 btz0.1 btz0.2.1 btz0.2.2.1 btz0.2.2.2.1 btz1.1 btz1.2.1 btz1.2.2.1 btz1.2.2.2.1)) else (spec_DrawRedrawTiles.j0 k btz0.2.2.2.2 btz3.1 btz2.2 btz0.1 btz0.2.1 btz0.2.2.1 btz0.2.2.2.1 btz0.1 btz0.2.1 btz0.2.2.1 tz5)))))
def spec_DrawRedrawTiles.T3 : Bool × List (List Nat × List Nat) := (true, [([], []), ([0], [0]), ([], []), ([2], [2]), ([], []), ([4], [4]), ([], []), ([6], [6]), ([7], [7]), ([1, 3, 5, 8], [1, 3, 5, 8]), ([], []), ([10, 9, 8, 0, 1, 2, 3, 4, 5, 6, 7, 8, 9, 10], [9, 10])])
def spec_DrawRedrawTiles.B3 : List Nat := [0, 1, 0, 4, 0, 16, 0, 64, 192, 511, 0, 2047]
theorem spec_DrawRedrawTiles.tab3 : rtab .any (opsOf Try.f79 3) = spec_DrawRedrawTiles.T3 := by kernel_rfl
theorem spec_DrawRedrawTiles.bits3 : waitsOk spec_DrawRedrawTiles.T3.2 spec_DrawRedrawTiles.B3 = true := by kernel_rfl
def spec_DrawRedrawTiles.T12 : Bool × List (List Nat × List Nat) := (true, [([], []), ([], []), ([], []), ([], []), ([], []), ([3, 4], [3, 4]), ([0, 5, 0], [0]), ([1, 6, 0, 1, 6], [1]), ([2, 7, 0, 1, 2, 6, 7], [2]), ([5, 8, 0, 1, 2, 3, 4, 5, 6, 7, 8], [5])])
def spec_DrawRedrawTiles.B12 : List Nat := [0, 0, 0, 0, 0, 24, 57, 123, 255, 511]
theorem spec_DrawRedrawTiles.tab12 : rtab .any (opsOf Try.f79 12) = spec_DrawRedrawTiles.T12 := by kernel_rfl
theorem spec_DrawRedrawTiles.bits12 : waitsOk spec_DrawRedrawTiles.T12.2 spec_DrawRedrawTiles.B12 = true := by kernel_rfl
theorem spec_DrawRedrawTiles.calls (k : Nat) (A0 : Option Addr) (c0 : Nat) (l0 : List Int) (r1 : Int) (r2 : Int) (r3 : Int) (r4 : List Int) (r5 : Int) (r6 : Int) (r7 : Int) (r8 : List Int) (r9 : List S55) (r10 : List Int) (w : World) (hr0 : Kd.C (Kd.int .u8) w A0 l0.length l0) (hc0 : l0.length ≤ c0) (h : spec_DrawRedrawTiles.f k l0 = some (r1, r2, r3, r4, r5, r6, r7, r8, r9, r10)) :
  Calls Try.prog 79 #[.slice A0 l0.length c0] w fun e w' => ∃ v3_ v7_ v8_ v9_ : Value, e = .returned (.tuple #[.agg #[.int .i64 r1, .int .i64 r2, .int .i64 r3, v3_], .agg #[.int .i64 r5, .int .i64 r6, .int .i64 r7, v7_], v8_, v9_]) ∧ Kd.Q (Kd.int .i64) 3 w' w.heap.size (fun k_ => (w.heap.size ≤ k_) ∧ some k_ ≠ (v7_ : Value).ownBlock ∧ some k_ ≠ (v9_ : Value).ownBlock) v3_ r4 ∧ Kd.Q (Kd.int .i64) 3 w' w.heap.size (fun k_ => (w.heap.size ≤ k_) ∧ some k_ ≠ (v3_ : Value).ownBlock ∧ some k_ ≠ (v9_ : Value).ownBlock) v7_ r8 ∧ Kd.N k55 55 w' w.heap.size (fun k_ => (w.heap.size ≤ k_) ∧ some k_ ≠ (v3_ : Value).ownBlock ∧ some k_ ≠ (v7_ : Value).ownBlock ∧ some k_ ≠ (v9_ : Value).ownBlock) v8_ r9 ∧ Kd.Q (Kd.int .i64) 3 w' w.heap.size (fun k_ => (w.heap.size ≤ k_) ∧ some k_ ≠ (v3_ : Value).ownBlock ∧ some k_ ≠ (v7_ : Value).ownBlock) v9_ r10 ∧ Below w.heap.size w w' := by
 have hu27 := Try.underlying27
 have HR0 := mk hr0
 have HC0 := mk hc0
 clear hr0 hc0
 have HB := mk (Below.refl w.heap.size w)
 have H : ((spec_newReader.f l0).bind fun btz3 => ((spec_DrawFlattenLayers.f k l0).bind fun btz0 => ((spec_copyInts.f btz0.2.2.2.1).bind fun tz5 => ((spec_reader_pick.f k btz3.1 btz3.2 12).bind fun btz2 => (if btz2.1 = 0 then ((spec_anyImage.f k btz3.1 btz2.2).bind fun btz1 => (spec_DrawRedrawTiles.j0 k btz0.2.2.2.2 btz3.1 btz1.2.2.2.2 btz0.1 btz0.2.1 btz0.2.2.1 btz0.2.2.2.1 btz1.1 btz1.2.1 btz1.2.2.1 btz1.2.2.2.1)) else (spec_DrawRedrawTiles.j0 k btz0.2.2.2.2 btz3.1 btz2.2 btz0.1 btz0.2.1 btz0.2.2.1 btz0.2.2.2.1 btz0.1 btz0.2.1 btz0.2.2.1 tz5)))))) = some (r1, r2, r3, r4, r5, r6, r7, r8, r9, r10) := h
 clear h
 replace H := Option.bind_eq_some_iff.mp H
 obtain ⟨⟨tz4, tz9⟩, A20, H⟩ := H
 dsimp only at H
 have A2 := mk A20
 clear A20
 replace H := Option.bind_eq_some_iff.mp H
 obtain ⟨⟨tz1, tz2, tz3, tz0, tz6⟩, A30, H⟩ := H
 dsimp only at H
 have A3 := mk A30
 clear A30
 replace H := Option.bind_eq_some_iff.mp H
 obtain ⟨tz5, A40, H⟩ := H
 replace H : ((spec_reader_pick.f k tz4 tz9 12).bind fun btz2 => (if btz2.1 = 0 then ((spec_anyImage.f k tz4 btz2.2).bind fun btz1 => (spec_DrawRedrawTiles.j0 k tz6 tz4 btz1.2.2.2.2 tz1 tz2 tz3 tz0 btz1.1 btz1.2.1 btz1.2.2.1 btz1.2.2.2.1)) else (spec_DrawRedrawTiles.j0 k tz6 tz4 btz2.2 tz1 tz2 tz3 tz0 tz1 tz2 tz3 tz5))) = some (r1, r2, r3, r4, r5, r6, r7, r8, r9, r10) := H
 have A4 := mk A40
 clear A40
 replace H := Option.bind_eq_some_iff.mp H
 obtain ⟨⟨tz13, tz14⟩, A50, H⟩ := H
 dsimp only at H
 have A5 := mk A50
 clear A50
 have HC6 := mk H
 clear H
 go_enter Try.func79, Try.ntmps79
 try go_wp2_with (first | ((with_reducible refine gate_dst (N := 2) rfl ?_); refine box_event (by rfl) (N := 2) (by rfl) (cs := #[.int .i64 0, .int .i64 0, .int .i64 0, .slice none 0 0]) (t := 27) (by go_simp; done) ?_; intro gbz2 hg w7 hbox hb; have BKz1 := mk (hbox); have GEz1 := mk ((by rw [hg]; exact (below_size HB.out) : w.heap.size ≤ gbz2)); replace HB := mk (below_step HB.out hb); clear hb hbox hg) | ((with_reducible refine gate_dst (N := 3) rfl ?_); refine box_event (by rfl) (N := 3) (by rfl) (cs := #[.int .i64 0, .int .i64 0, .int .i64 0, .slice none 0 0]) (t := 27) (by go_simp; done) ?_; intro gbz3 hg w8 hbox hb; have BKz2 := mk (hbox); have GEz2 := mk ((by rw [hg]; exact (below_size HB.out) : w.heap.size ≤ gbz3)); replace HB := mk (below_step HB.out hb); have NBz7 := mk ((by rw [hg]; exact Nat.ne_of_lt (blk_lt BKz1.out) : gbz2 ≠ gbz3)); have NBz8 := mk ((by rw [hg]; exact Nat.ne_of_gt (blk_lt BKz1.out) : gbz3 ≠ gbz2)); replace BKz1 := mk (blk_below BKz1.out hb); clear hb hbox hg) | ((with_reducible refine gate_callee (f := 86) rfl ?_); refine goesL_ (some 13) rfl rfl Try.func86 (by kernel_rfl) rfl #[.slice A0 l0.length c0] rfl (by (try simp only [bitvec_to_nat]); rfl) ?_; (with_reducible refine (spec_newReader.calls _ _ l0 tz4 tz9 w _ ?side1 ?side2 ?side3 A2.out).mono ?_); (case side1 => repeat (with_reducible exact HB.out)); (case side2 => exact HR0.out); (case side3 => exact HC0.out); rintro e w9 ⟨gz0, rfl, hi, hb, hb2⟩; refine ⟨_, rfl, ?_⟩; replace HB := mk (hb); have aA := mk (hi); have NBz14 := mk (Ne.symm (IsS144.ne_blk hi (blk_below BKz1.out hb2) (by decide))); replace BKz1 := mk (blk_below BKz1.out hb2); have NBz15 := mk (Ne.symm (IsS144.ne_blk hi (blk_below BKz2.out hb2) (by decide))); replace BKz2 := mk (blk_below BKz2.out hb2)) | ((with_reducible refine gate_callee (f := 70) rfl ?_); refine goesL_ (some 16) rfl rfl Try.func70 (by kernel_rfl) rfl #[.slice A0 l0.length c0] rfl (by (try simp only [bitvec_to_nat]); rfl) ?_; (with_reducible refine (spec_DrawFlattenLayers.calls k _ _ l0 tz1 tz2 tz3 tz0 tz6 _ ?side1 ?side2 A3.out).mono ?_); (case side1 => repeat (exact (Kd.C_below HR0.out HB.out))); (case side2 => exact HC0.out); rintro e w10 ⟨vz2, vz0, rfl, ho0, ho1, hb⟩; refine ⟨_, rfl, ?_⟩; have HOz2 := mk (Kd.Q_lower (Kd.Q_newM (M := fun k_ => (w.heap.size ≤ k_)) (Kd.Q_mono (ok' := fun k_ => True) ho0 (fun _ hk_ => trivial)) (below_size HB.out) (fun k_ h_ => h_)) (below_size HB.out)); have HOz3 := mk (Kd.N_lower (Kd.N_mono (ok' := fun k_ => (w.heap.size ≤ k_) ∧ some k_ ≠ (vz2 : Value).ownBlock ∧ k_ ≠ gbz2 ∧ k_ ≠ gbz3 ∧ k_ ≠ gz0) ho1 (fun k_ hk_ => ⟨(Nat.le_trans (below_size HB.out) hk_.1), hk_.2, (Kd.freshB (g := gbz2) (o := .cells #[.int .i64 0, .int .i64 0, .int .i64 0, .slice none 0 0] 27 (0, 0)) BKz1.out k_ hk_.1), (Kd.freshB (g := gbz3) (o := .cells #[.int .i64 0, .int .i64 0, .int .i64 0, .slice none 0 0] 27 (0, 0)) BKz2.out k_ hk_.1), (IsS144.fresh aA.out k_ hk_.1)⟩)) (below_size HB.out)); replace BKz1 := mk (blk_below BKz1.out hb); replace BKz2 := mk (blk_below BKz2.out hb); replace aA := mk (IsS144.below aA.out hb); replace HB := mk (below_step HB.out hb)) | ((with_reducible refine gate_dst (N := 7) rfl ?_); refine box_event (by rfl) (N := 7) (by rfl) (cs := #[.int .i64 0, .int .i64 0, .int .i64 0, .slice none 0 0]) (t := 27) (by go_simp; done) ?_; intro gbz0 hg w11 hbox hb; replace HOz2 := mk (Kd.Q_below HOz2.out hb); replace HOz3 := mk (Kd.N_below (Kd.N_elderB HOz3.out gbz0 (Nat.le_of_eq hg.symm)) hb); have BKz0 := mk (hbox); have GEz3 := mk ((by rw [hg]; exact (below_size HB.out) : w.heap.size ≤ gbz0)); replace HB := mk (below_step HB.out hb); have NBz10 := mk ((by rw [hg]; exact Nat.ne_of_lt (blk_lt BKz1.out) : gbz2 ≠ gbz0)); have NBz3 := mk ((by rw [hg]; exact Nat.ne_of_gt (blk_lt BKz1.out) : gbz0 ≠ gbz2)); replace BKz1 := mk (blk_below BKz1.out hb); have NBz11 := mk ((by rw [hg]; exact Nat.ne_of_lt (blk_lt BKz2.out) : gbz3 ≠ gbz0)); have NBz4 := mk ((by rw [hg]; exact Nat.ne_of_gt (blk_lt BKz2.out) : gbz0 ≠ gbz3)); replace BKz2 := mk (blk_below BKz2.out hb); have NBz17 := mk ((by rw [hg]; exact Nat.ne_of_lt (IsS144.lt (show IsS144 w _ gz0 tz4 tz9 from by exact aA.out)) : gz0 ≠ gbz0)); have NBz16 := mk ((by rw [hg]; exact Nat.ne_of_gt (IsS144.lt (show IsS144 w _ gz0 tz4 tz9 from by exact aA.out)) : gbz0 ≠ gz0)); replace aA := mk (IsS144.below aA.out hb); clear hb hbox hg; obtain ⟨hcz15_0, hcz15_1, hcz15_2, hcz15_3, hfz15_0, hfz15_1, hfz15_2, hfz15_3⟩ := c4 BKz0.out; obtain ⟨Ao16, co16, eo16, _⟩ := Kd.Q_slice HOz2.out; subst eo16))
 have n0_ : Aside0 (Kd.Q (Kd.int .i64) 3 ((((w11.setCell ⟨gbz0, 0, none⟩ (.int .i64 tz1)).setCell ⟨gbz0, 1, none⟩ (.int .i64 tz2)).setCell ⟨gbz0, 2, none⟩ (.int .i64 tz3)).setCell ⟨gbz0, 3, none⟩ (.slice Ao16 tz0.length co16)) w.heap.size (fun k_ => (w.heap.size ≤ k_)) (.slice Ao16 tz0.length co16) tz0) := ⟨by exact Kd.Q_mono (Q4 (Kd.Q_types HOz2.out BKz0.out (by decide)) (.int .i64 tz1) (.int .i64 tz2) (.int .i64 tz3) (.slice Ao16 tz0.length co16)) (fun _ hk => hk.1.1)⟩
 have n1_ : Aside0 (Kd.N k55 55 ((((w11.setCell ⟨gbz0, 0, none⟩ (.int .i64 tz1)).setCell ⟨gbz0, 1, none⟩ (.int .i64 tz2)).setCell ⟨gbz0, 2, none⟩ (.int .i64 tz3)).setCell ⟨gbz0, 3, none⟩ (.slice Ao16 tz0.length co16)) w.heap.size (fun k_ => (w.heap.size ≤ k_) ∧ some k_ ≠ (.slice Ao16 tz0.length co16 : Value).ownBlock ∧ k_ ≠ gbz2 ∧ k_ ≠ gbz3 ∧ k_ ≠ gz0 ∧ k_ ≠ gbz0) vz0 tz6) := ⟨by exact Kd.N_mono (N4 (Kd.N_mono HOz3.out (fun k_ hk => (⟨hk, hk.2⟩ : _ ∧ k_ ≠ gbz0))) (.int .i64 tz1) (.int .i64 tz2) (.int .i64 tz3) (.slice Ao16 tz0.length co16)) (fun _ hk => ⟨hk.1.1.1, ⟨hk.1.1.2.1, ⟨hk.1.1.2.2.1, ⟨hk.1.1.2.2.2.1, ⟨hk.1.1.2.2.2.2, hk.1.2⟩⟩⟩⟩⟩)⟩
 have n2_ : Aside0 (((((w11.setCell ⟨gbz0, 0, none⟩ (.int .i64 tz1)).setCell ⟨gbz0, 1, none⟩ (.int .i64 tz2)).setCell ⟨gbz0, 2, none⟩ (.int .i64 tz3)).setCell ⟨gbz0, 3, none⟩ (.slice Ao16 tz0.length co16)).heap[gbz2]? = some (.cells #[.int .i64 0, .int .i64 0, .int .i64 0, .slice none 0 0] 27 (0, 0))) := ⟨by refine f4 ?_ NBz10.out; exact BKz1.out⟩
 have n3_ : Aside0 (((((w11.setCell ⟨gbz0, 0, none⟩ (.int .i64 tz1)).setCell ⟨gbz0, 1, none⟩ (.int .i64 tz2)).setCell ⟨gbz0, 2, none⟩ (.int .i64 tz3)).setCell ⟨gbz0, 3, none⟩ (.slice Ao16 tz0.length co16)).heap[gbz3]? = some (.cells #[.int .i64 0, .int .i64 0, .int .i64 0, .slice none 0 0] 27 (0, 0))) := ⟨by refine f4 ?_ NBz11.out; exact BKz2.out⟩
 have n4_ : Aside0 (((((w11.setCell ⟨gbz0, 0, none⟩ (.int .i64 tz1)).setCell ⟨gbz0, 1, none⟩ (.int .i64 tz2)).setCell ⟨gbz0, 2, none⟩ (.int .i64 tz3)).setCell ⟨gbz0, 3, none⟩ (.slice Ao16 tz0.length co16)).heap[gbz0]? = some (.cells #[.int .i64 tz1, .int .i64 tz2, .int .i64 tz3, .slice Ao16 tz0.length co16] 27 (0, 0))) := ⟨by refine p4 (.int .i64 0) (.int .i64 0) (.int .i64 0) (.slice none 0 0) ?_; exact BKz0.out⟩
 have n5_ : Aside0 (IsS144 w ((((w11.setCell ⟨gbz0, 0, none⟩ (.int .i64 tz1)).setCell ⟨gbz0, 1, none⟩ (.int .i64 tz2)).setCell ⟨gbz0, 2, none⟩ (.int .i64 tz3)).setCell ⟨gbz0, 3, none⟩ (.slice Ao16 tz0.length co16)) gz0 tz4 tz9) := ⟨by repeat (with_reducible first | exact aA.out | refine IsS144.far ?_ NBz17.out _)⟩
 have n6_ : Aside0 (Below w.heap.size w ((((w11.setCell ⟨gbz0, 0, none⟩ (.int .i64 tz1)).setCell ⟨gbz0, 1, none⟩ (.int .i64 tz2)).setCell ⟨gbz0, 2, none⟩ (.int .i64 tz3)).setCell ⟨gbz0, 3, none⟩ (.slice Ao16 tz0.length co16))) := ⟨by repeat (with_reducible first | exact HB.out | refine below_set ?_ GEz3.out)⟩
 (try clear HOz2)
 (try clear HOz3)
 (try clear BKz1)
 (try clear BKz2)
 (try clear BKz0)
 (try clear aA)
 (try clear HB)
 generalize ((((w11.setCell ⟨gbz0, 0, none⟩ (.int .i64 tz1)).setCell ⟨gbz0, 1, none⟩ (.int .i64 tz2)).setCell ⟨gbz0, 2, none⟩ (.int .i64 tz3)).setCell ⟨gbz0, 3, none⟩ (.slice Ao16 tz0.length co16)) = w17 at n0_ n1_ n2_ n3_ n4_ n5_ n6_ ⊢
 revert n0_ n1_ n2_ n3_ n4_ n5_ n6_; intro HOz2 HOz3 BKz1 BKz2 BKz0 aA HB
 replace HOz2 := mk (Kd.Q_drew HOz2.out)
 replace HOz3 := mk (Kd.N_drew HOz3.out)
 replace BKz1 := mk (blk_drew BKz1.out)
 replace BKz2 := mk (blk_drew BKz2.out)
 replace BKz0 := mk (blk_drew BKz0.out)
 replace aA := mk (IsS144.drew aA.out)
 replace HB := mk (below_drew1 HB.out)
 refine start_ (n := 12) (S := fun w' => w'.cell? ⟨gbz0, 0, none⟩ = some (.int .i64 tz1) ∧ w'.cell? ⟨gbz0, 1, none⟩ = some (.int .i64 tz2) ∧ w'.cell? ⟨gbz0, 2, none⟩ = some (.int .i64 tz3) ∧ w'.cell? ⟨gbz0, 3, none⟩ = some (.slice Ao16 tz0.length co16)) (ds := []) #[false, false, false, false, false, false, false, false, false, false, false, false] (by kernel_rfl) rfl rfl ⟨blk_cell BKz0.out 0, blk_cell BKz0.out 1, blk_cell BKz0.out 2, blk_cell BKz0.out 3⟩ (fun hHeld => ?_); refine with_tabW spec_DrawRedrawTiles.tab3 spec_DrawRedrawTiles.bits3 (fun HT_ HW_ => ?_)
 generalize w17.drew = w18 at HOz2 HOz3 BKz1 BKz2 BKz0 aA HB hHeld ⊢
 refine pu 0 19 ?_ ?_ rfl rfl (any_of HT_.out (by kernel_rfl)) (Or.inl ⟨by rfl, ?_⟩) ?_ ?_
 rotate_left 2
 ·intro w'
  go_simp
  with_reducible rfl
 ·simp only [seval]
  rfl
 refine pu 2 21 ?_ ?_ rfl rfl (any_of HT_.out (by kernel_rfl)) (Or.inl ⟨by rfl, ?_⟩) ?_ ?_
 rotate_left 2
 ·intro w'
  go_simp
  with_reducible rfl
 ·simp only [seval]
  rfl
 refine pu 4 23 ?_ ?_ rfl rfl (any_of HT_.out (by kernel_rfl)) (Or.inl ⟨by rfl, ?_⟩) ?_ ?_
 rotate_left 2
 ·intro w'
  go_simp
  with_reducible rfl
 ·simp only [seval]
  rfl
 refine pu 6 25 ?_ ?_ rfl rfl (any_of HT_.out (by kernel_rfl)) (Or.inl ⟨by rfl, ?_⟩) ?_ ?_
 rotate_left 2
 ·intro w'
  go_simp
  with_reducible rfl
 ·simp only [seval]
  rfl
 refine tk 1 20 ?_ ?_ rfl rfl (take_ofW HT_.out HW_.out (by kernel_rfl)) (Or.inl ⟨by rfl, ?_⟩) hHeld ?_ ?_
 rotate_left 2
 ·rintro w' ⟨s0, s1, s2, s3⟩
  go_simp
  with_reducible rfl
 ·simp only [seval]
  rfl
 refine tk 3 22 ?_ ?_ rfl rfl (take_ofW HT_.out HW_.out (by kernel_rfl)) (Or.inl ⟨by rfl, ?_⟩) hHeld ?_ ?_
 rotate_left 2
 ·rintro w' ⟨s0, s1, s2, s3⟩
  go_simp
  with_reducible rfl
 ·simp only [seval]
  rfl
 refine tk 5 24 ?_ ?_ rfl rfl (take_ofW HT_.out HW_.out (by kernel_rfl)) (Or.inl ⟨by rfl, ?_⟩) hHeld ?_ ?_
 rotate_left 2
 ·rintro w' ⟨s0, s1, s2, s3⟩
  go_simp
  with_reducible rfl
 ·simp only [seval]
  rfl
 refine tk 7 26 ?_ ?_ rfl rfl (take_ofW HT_.out HW_.out (by kernel_rfl)) (Or.inl ⟨by rfl, ?_⟩) hHeld ?_ ?_
 rotate_left 2
 ·rintro w' ⟨s0, s1, s2, s3⟩
  go_simp
  with_reducible rfl
 ·simp only [seval]
  rfl
 refine join_ (σ := Value × Nat) 1 #[true, true, true, true, true, true, true, true, true, true, true, false] (fun s_ => [(27, s_.1), (9, .pointer (some ⟨s_.2, 0, none⟩)), (28, .agg #[.int .i64 tz1, .int .i64 tz2, .int .i64 tz3, s_.1])]) (fun s_ w' => (w'.cell? ⟨gbz0, 0, none⟩ = some (.int .i64 tz1) ∧ w'.cell? ⟨gbz0, 1, none⟩ = some (.int .i64 tz2) ∧ w'.cell? ⟨gbz0, 2, none⟩ = some (.int .i64 tz3) ∧ w'.cell? ⟨gbz0, 3, none⟩ = some (.slice Ao16 tz0.length co16)) ∧ (Kd.Q (Kd.int .i64) 3 w' w.heap.size (fun k_ => (w.heap.size ≤ k_) ∧ some k_ ≠ (s_.1 : Value).ownBlock) (.slice Ao16 tz0.length co16) tz0) ∧ (Kd.N k55 55 w' w.heap.size (fun k_ => (w.heap.size ≤ k_) ∧ some k_ ≠ (.slice Ao16 tz0.length co16 : Value).ownBlock ∧ some k_ ≠ (s_.1 : Value).ownBlock ∧ k_ ≠ gbz2 ∧ k_ ≠ gbz3 ∧ k_ ≠ gz0 ∧ k_ ≠ gbz0 ∧ k_ ≠ s_.2) vz0 tz6) ∧ (Kd.R (Kd.int .i64) 3 w' w.heap.size (fun k_ => (w.heap.size ≤ k_) ∧ some k_ ≠ (.slice Ao16 tz0.length co16 : Value).ownBlock) s_.1 tz5) ∧ (w'.heap[gbz2]? = some (.cells #[.int .i64 0, .int .i64 0, .int .i64 0, .slice none 0 0] 27 (0, 0))) ∧ (w'.heap[gbz3]? = some (.cells #[.int .i64 0, .int .i64 0, .int .i64 0, .slice none 0 0] 27 (0, 0))) ∧ (w'.heap[gbz0]? = some (.cells #[.int .i64 tz1, .int .i64 tz2, .int .i64 tz3, .slice Ao16 tz0.length co16] 27 (0, 0))) ∧ (w'.heap[s_.2]? = some (.cells #[.int .i64 0, .int .i64 0, .int .i64 0, .slice none 0 0] 27 (0, 0))) ∧ (w.heap.size ≤ s_.2) ∧ (w.heap.size ≤ s_.2) ∧ (gz0 ≠ s_.2) ∧ (s_.2 ≠ gz0) ∧ (gbz2 ≠ s_.2) ∧ (s_.2 ≠ gbz2) ∧ (gbz3 ≠ s_.2) ∧ (s_.2 ≠ gbz3) ∧ (gbz0 ≠ s_.2) ∧ (s_.2 ≠ gbz0) ∧ (IsS144 w w' gz0 tz4 tz9) ∧ (Below w.heap.size w w')) ?_ ?_
 rotate_left
 ·intro hCont
  refine two_ (i := 8) (j := 10) (Ni := some 27) (Nj := some 9) #[true, true, true, true, true, true, true, true, true, false, false, false] #[true, true, true, true, true, true, true, true, false, false, true, false] rfl rfl rfl rfl (two_of HT_.out (by kernel_rfl)) (by decide) (by decide) (fun K hK => ?_) (fun K hK => ?_)
  ·skip
   refine goes_ Try.func129 (by kernel_rfl) rfl #[.slice Ao16 tz0.length co16] (by rfl) rfl rfl (by (try simp only [bitvec_to_nat]); rfl) ?_
   with_reducible refine (spec_copyInts.calls _ _ tz0 tz5 _ ?side1 ?side2 A4.out).mono ?_
   (case side1 => repeat (exact (Kd.Q_reads' HOz2.out).2.2))
   (case side2 => exact (Kd.Q_reads' HOz2.out).2.1)
   rintro e w19 ⟨vz1, rfl, ho0, hb⟩
   refine ⟨_, rfl, ?_⟩
   replace HOz3 := mk (Kd.N_elder' HOz3.out (Kd.R_base ho0) hb)
   have HOz4 := mk (Kd.R_lower (Kd.R_new' (Kd.R_newM (M := fun k_ => (w.heap.size ≤ k_)) ho0 (below_size HB.out) (fun k_ h_ => h_)) (Kd.Q_lt HOz2.out)) (below_size HB.out))
   replace HOz2 := mk (Kd.Q_elder' HOz2.out (Kd.R_base ho0) hb)
   replace BKz1 := mk (blk_below BKz1.out hb)
   replace BKz2 := mk (blk_below BKz2.out hb)
   replace aA := mk (IsS144.below aA.out hb)
   replace BKz0 := mk (blk_below BKz0.out hb)
   replace HB := mk (below_step HB.out hb)
   (try clear hb)
   (try clear ho0)
   obtain ⟨Ao20, co20, eo20⟩ := Kd.R_slice HOz4.out
   (subst eo20)
   refine hK.out _ _ ⟨blk_cell BKz0.out 0, blk_cell BKz0.out 1, blk_cell BKz0.out 2, blk_cell BKz0.out 3⟩ (fun hHeld => ?_)
   clear hK K
   refine norm_ (a' := ?_) ?_ ?_
   rotate_left
   ·show Act.put _ (some 27) _ = _
    simp only [seval]
    rfl
   refine pu 9 28 ?_ ?_ rfl rfl (any_of HT_.out (by kernel_rfl)) (Or.inl ⟨by rfl, ?_⟩) ?_ ?_
   rotate_left 2
   ·intro w'
    go_simp
    with_reducible rfl
   ·simp only [seval]
    rfl
   refine one_ (i := 10) (N := some 9) #[true, true, true, true, true, true, true, true, true, true, true, false] rfl rfl (one_of HT_.out (by kernel_rfl)) (by decide) (fun K hK => ?_)
   refine box_step ?hg (N := 9) ?hd (cs := #[.int .i64 0, .int .i64 0, .int .i64 0, .slice none 0 0]) (t := 27) ?hr ?_; (case hd => rfl); (case hg => rfl); (case hr => (go_simp; done))
   intro gbz1 hg w21 hbox hb
   replace HOz2 := mk (Kd.Q_below HOz2.out hb)
   replace HOz3 := mk (Kd.N_below (Kd.N_elderB HOz3.out gbz1 (Nat.le_of_eq hg.symm)) hb)
   replace HOz4 := mk (Kd.R_below HOz4.out hb)
   have BKz3 := mk (hbox)
   have GWz0 := mk ((by rw [hg]; exact (below_size HB.out) : w.heap.size ≤ gbz1))
   have GEz0 := mk ((by rw [hg]; exact (below_size HB.out) : w.heap.size ≤ gbz1))
   replace HB := mk (below_step HB.out hb)
   have NBz5 := mk ((by rw [hg]; exact Nat.ne_of_lt (blk_lt BKz1.out) : gbz2 ≠ gbz1))
   replace BKz1 := mk (blk_below BKz1.out hb)
   have NBz1 := mk NBz5.out.symm
   have NBz6 := mk ((by rw [hg]; exact Nat.ne_of_lt (blk_lt BKz2.out) : gbz3 ≠ gbz1))
   replace BKz2 := mk (blk_below BKz2.out hb)
   have NBz2 := mk NBz6.out.symm
   have NBz0 := mk ((by rw [hg]; exact Nat.ne_of_lt (blk_lt BKz0.out) : gbz0 ≠ gbz1))
   replace BKz0 := mk (blk_below BKz0.out hb)
   have NBz12 := mk NBz0.out.symm
   have NBz13 := mk ((by rw [hg]; exact Nat.ne_of_lt (IsS144.lt (show IsS144 w _ gz0 tz4 tz9 from by exact aA.out)) : gz0 ≠ gbz1))
   replace aA := mk (IsS144.below aA.out hb)
   have NBz9 := mk NBz13.out.symm
   clear hb hbox hg
   refine hK.out _ _ ⟨blk_cell BKz0.out 0, blk_cell BKz0.out 1, blk_cell BKz0.out 2, blk_cell BKz0.out 3⟩ (fun hHeld => ?_)
   clear hK K
   refine norm_ (a' := ?_) ?_ ?_
   rotate_left
   ·show Act.put _ (some 9) _ = _
    simp only [seval]
    rfl
   exact norm_ (by simp only [putAll, Act.put, List.setIfInBounds_toArray, List.set_cons_zero, List.set_cons_succ]) (hCont (.slice Ao20 tz5.length co20, gbz1) _ ⟨hHeld, HOz2.out, (by exact Kd.N_mono HOz3.out (fun _ hk => ⟨hk.1.1.1, ⟨hk.1.1.2.1, ⟨hk.1.2, ⟨hk.1.1.2.2.1, ⟨hk.1.1.2.2.2.1, ⟨hk.1.1.2.2.2.2.1, ⟨hk.1.1.2.2.2.2.2, hk.2⟩⟩⟩⟩⟩⟩⟩)), (by exact Kd.R_mono HOz4.out (fun _ hk => ⟨hk.1.1, hk.2⟩)), BKz1.out, BKz2.out, BKz0.out, BKz3.out, GWz0.out, GEz0.out, NBz13.out, NBz9.out, NBz5.out, NBz1.out, NBz6.out, NBz2.out, NBz0.out, NBz12.out, (aA.out), (HB.out)⟩)
  skip
  refine box_step ?hg (N := 9) ?hd (cs := #[.int .i64 0, .int .i64 0, .int .i64 0, .slice none 0 0]) (t := 27) ?hr ?_; (case hd => rfl); (case hg => rfl); (case hr => (go_simp; done))
  intro gbz1 hg w19 hbox hb
  replace HOz2 := mk (Kd.Q_below HOz2.out hb)
  replace HOz3 := mk (Kd.N_below (Kd.N_elderB HOz3.out gbz1 (Nat.le_of_eq hg.symm)) hb)
  have BKz3 := mk (hbox)
  have GWz0 := mk ((by rw [hg]; exact (below_size HB.out) : w.heap.size ≤ gbz1))
  have GEz0 := mk ((by rw [hg]; exact (below_size HB.out) : w.heap.size ≤ gbz1))
  replace HB := mk (below_step HB.out hb)
  have NBz5 := mk ((by rw [hg]; exact Nat.ne_of_lt (blk_lt BKz1.out) : gbz2 ≠ gbz1))
  replace BKz1 := mk (blk_below BKz1.out hb)
  have NBz1 := mk NBz5.out.symm
  have NBz6 := mk ((by rw [hg]; exact Nat.ne_of_lt (blk_lt BKz2.out) : gbz3 ≠ gbz1))
  replace BKz2 := mk (blk_below BKz2.out hb)
  have NBz2 := mk NBz6.out.symm
  have NBz0 := mk ((by rw [hg]; exact Nat.ne_of_lt (blk_lt BKz0.out) : gbz0 ≠ gbz1))
  replace BKz0 := mk (blk_below BKz0.out hb)
  have NBz12 := mk NBz0.out.symm
  have NBz13 := mk ((by rw [hg]; exact Nat.ne_of_lt (IsS144.lt (show IsS144 w _ gz0 tz4 tz9 from by exact aA.out)) : gz0 ≠ gbz1))
  replace aA := mk (IsS144.below aA.out hb)
  have NBz9 := mk NBz13.out.symm
  clear hb hbox hg
  refine hK.out _ _ ⟨blk_cell BKz0.out 0, blk_cell BKz0.out 1, blk_cell BKz0.out 2, blk_cell BKz0.out 3⟩ (fun hHeld => ?_)
  clear hK K
  refine norm_ (a' := ?_) ?_ ?_
  rotate_left
  ·show Act.put _ (some 9) _ = _
   simp only [seval]
   rfl
  refine one_ (i := 8) (N := some 27) #[true, true, true, true, true, true, true, true, true, false, true, false] rfl rfl (one_of HT_.out (by kernel_rfl)) (by decide) (fun K hK => ?_)
  refine goes_ Try.func129 (by kernel_rfl) rfl #[.slice Ao16 tz0.length co16] (by rfl) rfl rfl (by (try simp only [bitvec_to_nat]); rfl) ?_
  with_reducible refine (spec_copyInts.calls _ _ tz0 tz5 _ ?side1 ?side2 A4.out).mono ?_
  (case side1 => repeat (exact (Kd.Q_reads' HOz2.out).2.2))
  (case side2 => exact (Kd.Q_reads' HOz2.out).2.1)
  rintro e w20 ⟨vz1, rfl, ho0, hb⟩
  refine ⟨_, rfl, ?_⟩
  replace HOz3 := mk (Kd.N_elder' HOz3.out (Kd.R_base ho0) hb)
  have HOz4 := mk (Kd.R_lower (Kd.R_new' (Kd.R_newM (M := fun k_ => (w.heap.size ≤ k_)) ho0 (below_size HB.out) (fun k_ h_ => h_)) (Kd.Q_lt HOz2.out)) (below_size HB.out))
  replace HOz2 := mk (Kd.Q_elder' HOz2.out (Kd.R_base ho0) hb)
  replace BKz1 := mk (blk_below BKz1.out hb)
  replace BKz2 := mk (blk_below BKz2.out hb)
  replace aA := mk (IsS144.below aA.out hb)
  replace BKz0 := mk (blk_below BKz0.out hb)
  replace BKz3 := mk (blk_below BKz3.out hb)
  replace HB := mk (below_step HB.out hb)
  (try clear hb)
  (try clear ho0)
  obtain ⟨Ao21, co21, eo21⟩ := Kd.R_slice HOz4.out
  (subst eo21)
  refine hK.out _ _ ⟨blk_cell BKz0.out 0, blk_cell BKz0.out 1, blk_cell BKz0.out 2, blk_cell BKz0.out 3⟩ (fun hHeld => ?_)
  clear hK K
  refine norm_ (a' := ?_) ?_ ?_
  rotate_left
  ·show Act.put _ (some 27) _ = _
   simp only [seval]
   rfl
  refine pu 9 28 ?_ ?_ rfl rfl (any_of HT_.out (by kernel_rfl)) (Or.inl ⟨by rfl, ?_⟩) ?_ ?_
  rotate_left 2
  ·intro w'
   go_simp
   with_reducible rfl
  ·simp only [seval]
   rfl
  exact norm_ (by simp only [putAll, Act.put, List.setIfInBounds_toArray, List.set_cons_zero, List.set_cons_succ]) (hCont (.slice Ao21 tz5.length co21, gbz1) _ ⟨hHeld, HOz2.out, (by exact Kd.N_mono HOz3.out (fun _ hk => ⟨hk.1.1.1, ⟨hk.1.1.2.1, ⟨hk.2, ⟨hk.1.1.2.2.1, ⟨hk.1.1.2.2.2.1, ⟨hk.1.1.2.2.2.2.1, ⟨hk.1.1.2.2.2.2.2, hk.1.2⟩⟩⟩⟩⟩⟩⟩)), (by exact Kd.R_mono HOz4.out (fun _ hk => ⟨hk.1.1, hk.2⟩)), BKz1.out, BKz2.out, BKz0.out, BKz3.out, GWz0.out, GEz0.out, NBz13.out, NBz9.out, NBz5.out, NBz1.out, NBz6.out, NBz2.out, NBz0.out, NBz12.out, (aA.out), (HB.out)⟩)
 rintro ⟨vz1, gbz1⟩ w22 ⟨hS_, h0_, h1_, h2_, h3_, h4_, h5_, h6_, h7_, h8_, h9_, h10_, h11_, h12_, h13_, h14_, h15_, h16_, h17_, h18_⟩
 have n0_ : Aside0 (Kd.Q (Kd.int .i64) 3 w22 w.heap.size (fun k_ => (w.heap.size ≤ k_) ∧ some k_ ≠ (vz1 : Value).ownBlock) (.slice Ao16 tz0.length co16) tz0) := ⟨h0_⟩
 have n1_ : Aside0 (Kd.N k55 55 w22 w.heap.size (fun k_ => (w.heap.size ≤ k_) ∧ some k_ ≠ (.slice Ao16 tz0.length co16 : Value).ownBlock ∧ some k_ ≠ (vz1 : Value).ownBlock ∧ k_ ≠ gbz2 ∧ k_ ≠ gbz3 ∧ k_ ≠ gz0 ∧ k_ ≠ gbz0 ∧ k_ ≠ gbz1) vz0 tz6) := ⟨h1_⟩
 have n2_ : Aside0 (Kd.R (Kd.int .i64) 3 w22 w.heap.size (fun k_ => (w.heap.size ≤ k_) ∧ some k_ ≠ (.slice Ao16 tz0.length co16 : Value).ownBlock) vz1 tz5) := ⟨h2_⟩
 have n3_ : Aside0 (w22.heap[gbz2]? = some (.cells #[.int .i64 0, .int .i64 0, .int .i64 0, .slice none 0 0] 27 (0, 0))) := ⟨h3_⟩
 have n4_ : Aside0 (w22.heap[gbz3]? = some (.cells #[.int .i64 0, .int .i64 0, .int .i64 0, .slice none 0 0] 27 (0, 0))) := ⟨h4_⟩
 have n5_ : Aside0 (w22.heap[gbz0]? = some (.cells #[.int .i64 tz1, .int .i64 tz2, .int .i64 tz3, .slice Ao16 tz0.length co16] 27 (0, 0))) := ⟨h5_⟩
 have n6_ : Aside0 (w22.heap[gbz1]? = some (.cells #[.int .i64 0, .int .i64 0, .int .i64 0, .slice none 0 0] 27 (0, 0))) := ⟨h6_⟩
 have n7_ : Aside0 (w.heap.size ≤ gbz1) := ⟨h7_⟩
 have n8_ : Aside0 (w.heap.size ≤ gbz1) := ⟨h8_⟩
 have n9_ : Aside0 (gz0 ≠ gbz1) := ⟨h9_⟩
 have n10_ : Aside0 (gbz1 ≠ gz0) := ⟨h10_⟩
 have n11_ : Aside0 (gbz2 ≠ gbz1) := ⟨h11_⟩
 have n12_ : Aside0 (gbz1 ≠ gbz2) := ⟨h12_⟩
 have n13_ : Aside0 (gbz3 ≠ gbz1) := ⟨h13_⟩
 have n14_ : Aside0 (gbz1 ≠ gbz3) := ⟨h14_⟩
 have n15_ : Aside0 (gbz0 ≠ gbz1) := ⟨h15_⟩
 have n16_ : Aside0 (gbz1 ≠ gbz0) := ⟨h16_⟩
 have n17_ : Aside0 (IsS144 w w22 gz0 tz4 tz9) := ⟨h17_⟩
 have n18_ : Aside0 (Below w.heap.size w w22) := ⟨h18_⟩
 clear HOz2 HOz3 BKz1 BKz2 BKz0 aA HB h0_ h1_ h2_ h3_ h4_ h5_ h6_ h7_ h8_ h9_ h10_ h11_ h12_ h13_ h14_ h15_ h16_ h17_ h18_
 revert n0_ n1_ n2_ n3_ n4_ n5_ n6_ n7_ n8_ n9_ n10_ n11_ n12_ n13_ n14_ n15_ n16_ n17_ n18_; intro HOz2 HOz3 HOz4 BKz1 BKz2 BKz0 BKz3 GWz0 GEz0 NBz13 NBz9 NBz5 NBz1 NBz6 NBz2 NBz0 NBz12 aA HB
 have hHeld : w22.cell? ⟨gbz0, 0, none⟩ = some (.int .i64 tz1) ∧ w22.cell? ⟨gbz0, 1, none⟩ = some (.int .i64 tz2) ∧ w22.cell? ⟨gbz0, 2, none⟩ = some (.int .i64 tz3) ∧ w22.cell? ⟨gbz0, 3, none⟩ = some (.slice Ao16 tz0.length co16) := hS_
 obtain ⟨Ao23, co23, eo23⟩ := Kd.R_slice HOz4.out
 (subst eo23)
 refine norm_ (a' := ?_) ?_ ?_
 rotate_left
 ·simp only [putAll, Act.put, List.setIfInBounds_toArray, List.set_cons_zero, List.set_cons_succ]
  rfl
 refine one_ (i := 11) (N := none) #[true, true, true, true, true, true, true, true, true, true, true, true] rfl rfl (one_of HT_.out (by kernel_rfl)) (by decide) (fun K hK => ?_)
 obtain ⟨hs24, -, -, -, hfs24, -⟩ := c4 BKz3.out
 have hns24_0 := NBz5.out
 have hns24_1 := NBz6.out
 have hns24_2 := NBz0.out
 have hms24_0 := NBz1.out
 have hms24_1 := NBz2.out
 have hms24_2 := NBz12.out
 obtain ⟨-, hs25, -, -, -, hfs25, -⟩ := c4 BKz3.out
 have hns25_0 := NBz5.out
 have hns25_1 := NBz6.out
 have hns25_2 := NBz0.out
 have hms25_0 := NBz1.out
 have hms25_1 := NBz2.out
 have hms25_2 := NBz12.out
 obtain ⟨-, -, hs26, -, -, -, hfs26, -⟩ := c4 BKz3.out
 have hns26_0 := NBz5.out
 have hns26_1 := NBz6.out
 have hns26_2 := NBz0.out
 have hms26_0 := NBz1.out
 have hms26_1 := NBz2.out
 have hms26_2 := NBz12.out
 obtain ⟨-, -, -, hs27, -, -, -, hfs27⟩ := c4 BKz3.out
 have hns27_0 := NBz5.out
 have hns27_1 := NBz6.out
 have hns27_2 := NBz0.out
 have hms27_0 := NBz1.out
 have hms27_1 := NBz2.out
 have hms27_2 := NBz12.out
 refine skip_ (w1 := ?_) (by rfl) rfl ?_ ?_
 rotate_left
 ·go_simp
  rfl
 refine hK.out _ _ ⟨(e4 NBz0.out hHeld.1), (e4 NBz0.out hHeld.2.1), (e4 NBz0.out hHeld.2.2.1), (e4 NBz0.out hHeld.2.2.2)⟩ (fun hHeld => ?_)
 clear hK K
 refine done_ (done_of HT_.out (by kernel_rfl)) ?_
 go_upto_if 31 with (first | ((with_reducible refine gate_callee (f := 127) rfl ?_); refine goesL_ (some 30) rfl rfl Try.func127 (by kernel_rfl) rfl #[.pointer (some ⟨gz0, 0, none⟩), .int .i64 12] rfl (by (try simp only [bitvec_to_nat]); rfl) ?_; (with_reducible refine (spec_reader_pick.calls k gz0 tz4 tz9 12 tz13 tz14 w _ ?side1 ?side2 A5.out).mono ?_); (case side1 => repeat (with_reducible first | exact aA.out | refine IsS144.far ?_ NBz13.out _)); (case side2 => repeat (with_reducible first | exact HB.out | refine below_set ?_ GEz0.out)); rintro e w28 ⟨rfl, hi, hb, hk⟩; refine ⟨_, rfl, ?_⟩; replace BKz1 := mk (KeepBut.blk hk (g' := gbz2) (o := .cells #[.int .i64 0, .int .i64 0, .int .i64 0, .slice none 0 0] 27 (0, 0)) (by refine f4 ?_ NBz5.out; exact BKz1.out) NBz14.out (by simp)); replace BKz2 := mk (KeepBut.blk hk (g' := gbz3) (o := .cells #[.int .i64 0, .int .i64 0, .int .i64 0, .slice none 0 0] 27 (0, 0)) (by refine f4 ?_ NBz6.out; exact BKz2.out) NBz15.out (by simp)); replace HOz2 := mk (Kd.Q_mono (Kd.Q_keep (IsS144.apartQ (show IsS144 w _ gz0 tz4 tz9 from by repeat (with_reducible first | exact aA.out | refine IsS144.far ?_ NBz13.out _)) (by exact (Kd.Q_mono (Q4 (Kd.Q_types HOz2.out BKz3.out (by decide)) (.int .i64 tz1) (.int .i64 tz2) (.int .i64 tz3) (.slice Ao23 tz5.length co23)) (fun _ h_ => h_.1))) (by decide)) hk (fun _ h => h.2)) (fun _ h => h.1)); replace HOz3 := mk (Kd.N_mono (Kd.N_keep (Kd.N_mono (ok := fun k_ => ((w.heap.size ≤ k_) ∧ (some k_ ≠ (.slice Ao16 tz0.length co16 : Value).ownBlock ∧ (some k_ ≠ (.slice Ao23 tz5.length co23 : Value).ownBlock ∧ (k_ ≠ gbz2 ∧ (k_ ≠ gbz3 ∧ (k_ ≠ gz0 ∧ (k_ ≠ gbz0 ∧ k_ ≠ gbz1)))))))) (by exact (Kd.N_mono (N4 (Kd.N_mono HOz3.out (fun k_ hk => (⟨hk, hk.2.2.2.2.2.2.2⟩ : _ ∧ k_ ≠ gbz1))) (.int .i64 tz1) (.int .i64 tz2) (.int .i64 tz3) (.slice Ao23 tz5.length co23)) (fun _ h_ => h_.1))) (fun k_ hk_ => (⟨hk_, hk_.2.2.2.2.2.1⟩ : _ ∧ k_ ≠ gz0))) hk (fun _ h => h.2)) (fun _ h => h.1)); replace BKz0 := mk (KeepBut.blk hk (g' := gbz0) (o := .cells #[.int .i64 tz1, .int .i64 tz2, .int .i64 tz3, .slice Ao16 tz0.length co16] 27 (0, 0)) (by refine f4 ?_ NBz0.out; exact BKz0.out) NBz16.out (by simp)); replace HOz4 := mk (Kd.R_mono (Kd.R_keep (IsS144.apart (show IsS144 w _ gz0 tz4 tz9 from by repeat (with_reducible first | exact aA.out | refine IsS144.far ?_ NBz13.out _)) (by exact (Kd.R_mono (R4 (Kd.R_types HOz4.out BKz3.out (by decide)) (.int .i64 tz1) (.int .i64 tz2) (.int .i64 tz3) (.slice Ao23 tz5.length co23)) (fun _ h_ => h_.1))) (by decide)) hk (fun _ h => h.2)) (fun _ h => h.1)); replace BKz3 := mk (KeepBut.blk hk (g' := gbz1) (o := .cells #[.int .i64 tz1, .int .i64 tz2, .int .i64 tz3, .slice Ao23 tz5.length co23] 27 (0, 0)) (by refine p4 (.int .i64 0) (.int .i64 0) (.int .i64 0) (.slice none 0 0) ?_; exact BKz3.out) NBz9.out (by simp)); replace HB := mk (hb); replace aA := mk (hi)))
 go_cut [] (fun wc => ∃ (kq : Nat) (xz14 : Int) (xz0 : Int) (xz1 : Int) (xz2 : Int) (xz3 : List Int) (aC : Value), Aside0 (spec_DrawRedrawTiles.j0 kq tz6 tz4 xz14 tz1 tz2 tz3 tz0 xz0 xz1 xz2 xz3 = some (r1, r2, r3, r4, r5, r6, r7, r8, r9, r10)) ∧ Aside0 (kq ≤ k) ∧ Aside0 (Kd.N k55 55 wc w.heap.size (fun k_ => (w.heap.size ≤ k_) ∧ some k_ ≠ ((.slice Ao16 tz0.length co16) : Value).ownBlock ∧ some k_ ≠ (aC : Value).ownBlock ∧ k_ ≠ gbz2 ∧ k_ ≠ gbz3 ∧ k_ ≠ gbz0 ∧ k_ ≠ gbz1 ∧ k_ ≠ gz0) vz0 tz6) ∧ Aside0 (Kd.Q (Kd.int .i64) 3 wc w.heap.size (fun k_ => (w.heap.size ≤ k_) ∧ some k_ ≠ (aC : Value).ownBlock) (.slice Ao16 tz0.length co16) tz0) ∧ Aside0 (Kd.Q (Kd.int .i64) 3 wc w.heap.size (fun k_ => (w.heap.size ≤ k_) ∧ some k_ ≠ ((.slice Ao16 tz0.length co16) : Value).ownBlock) aC xz3) ∧ Aside0 (wc.heap[gbz2]? = some (.cells #[.int .i64 0, .int .i64 0, .int .i64 0, (.slice none 0 0)] 27 (0, 0))) ∧ Aside0 (wc.heap[gbz3]? = some (.cells #[.int .i64 0, .int .i64 0, .int .i64 0, (.slice none 0 0)] 27 (0, 0))) ∧ Aside0 (wc.heap[gbz0]? = some (.cells #[.int .i64 tz1, .int .i64 tz2, .int .i64 tz3, (.slice Ao16 tz0.length co16)] 27 (0, 0))) ∧ Aside0 (wc.heap[gbz1]? = some (.cells #[.int .i64 xz0, .int .i64 xz1, .int .i64 xz2, aC] 27 (0, 0))) ∧ Aside0 (IsS144 w wc gz0 tz4 xz14) ∧ Aside0 (Below w.heap.size w wc))
 case first =>
  have H := HC6.out
  clear HC6
  by_cases c29 : tz13 = 0
  ·rw [if_pos c29] at H
   have c29b0 : (tz13 == 0) = true := beq_iff_eq.mpr c29
   have c29b1 : (tz13 != 0) = false := bne_eq_false_iff_eq.mpr c29
   clear c29
   (rw [c29b0])
   replace H := Option.bind_eq_some_iff.mp H
   obtain ⟨⟨tz11, tz12, tz15, tz16, tz18⟩, A300, H⟩ := H
   dsimp only at H
   have A30 := mk A300
   clear A300
   have H' := mk H
   clear H
   go_wp2_with (first | ((with_reducible refine gate_callee (f := 94) rfl ?_); refine goesL_ (some 33) rfl rfl Try.func94 (by kernel_rfl) rfl #[.pointer (some ⟨gz0, 0, none⟩)] rfl (by (try simp only [bitvec_to_nat]); rfl) ?_; (with_reducible refine (spec_anyImage.calls k gz0 tz4 tz14 tz11 tz12 tz15 tz16 tz18 w _ ?side1 ?side2 A30.out).mono ?_); (case side1 => repeat (with_reducible exact aA.out)); (case side2 => repeat (with_reducible exact HB.out)); rintro e w31 ⟨vz3, rfl, ho0, hi, hb, hk⟩; refine ⟨_, rfl, ?_⟩; replace BKz1 := mk (KeepBut.blk hk (g' := gbz2) (o := .cells #[.int .i64 0, .int .i64 0, .int .i64 0, .slice none 0 0] 27 (0, 0)) BKz1.out NBz14.out (by simp)); replace BKz2 := mk (KeepBut.blk hk (g' := gbz3) (o := .cells #[.int .i64 0, .int .i64 0, .int .i64 0, .slice none 0 0] 27 (0, 0)) BKz2.out NBz15.out (by simp)); replace HOz3 := mk (Kd.N_mono (Kd.N_told (Kd.N_oldK (Kd.N_mono (ok := fun k_ => ((w.heap.size ≤ k_) ∧ (some k_ ≠ (.slice Ao16 tz0.length co16 : Value).ownBlock ∧ (some k_ ≠ (.slice Ao23 tz5.length co23 : Value).ownBlock ∧ (k_ ≠ gbz2 ∧ (k_ ≠ gbz3 ∧ (k_ ≠ gz0 ∧ (k_ ≠ gbz0 ∧ k_ ≠ gbz1)))))))) HOz3.out (fun k_ hk_ => (⟨hk_, hk_.2.2.2.2.2.1⟩ : _ ∧ k_ ≠ gz0))) hk) (Kd.Q_base ho0)) (fun _ h_ => h_.1)); replace BKz0 := mk (KeepBut.blk hk (g' := gbz0) (o := .cells #[.int .i64 tz1, .int .i64 tz2, .int .i64 tz3, .slice Ao16 tz0.length co16] 27 (0, 0)) BKz0.out NBz16.out (by simp)); replace BKz3 := mk (KeepBut.blk hk (g' := gbz1) (o := .cells #[.int .i64 tz1, .int .i64 tz2, .int .i64 tz3, .slice Ao23 tz5.length co23] 27 (0, 0)) BKz3.out NBz9.out (by simp)); have HOz5 := mk (Kd.Q_lower (Kd.Q_new' (Kd.Q_new' (Kd.Q_newM (M := fun k_ => (w.heap.size ≤ k_)) ho0 (below_size HB.out) (fun k_ h_ => h_)) (Kd.Q_lt HOz2.out)) (Kd.R_lt HOz4.out)) (below_size HB.out)); replace HOz2 := mk (Kd.Q_mono (Kd.Q_told (Kd.Q_oldK (IsS144.apartQ (show IsS144 w _ gz0 tz4 tz14 from by exact aA.out) HOz2.out (by decide)) hk) (Kd.Q_base ho0)) (fun _ h_ => h_.1)); replace HOz4 := mk (Kd.R_mono (Kd.R_told (Kd.R_oldK (IsS144.apart (show IsS144 w _ gz0 tz4 tz14 from by exact aA.out) HOz4.out (by decide)) hk) (Kd.Q_base ho0)) (fun _ h_ => h_.1)); replace HB := mk (hb); replace aA := mk (hi); obtain ⟨hcz36_0, hcz36_1, hcz36_2, hcz36_3, hfz36_0, hfz36_1, hfz36_2, hfz36_3⟩ := c4 BKz3.out; obtain ⟨Ao37, co37, eo37, _⟩ := Kd.Q_slice HOz5.out; subst eo37))
   go_meet
   case rel => exact ⟨_, (tz18), (tz11), (tz12), (tz15), (tz16), (.slice Ao37 tz16.length co37), H', ⟨by omega⟩, ⟨by exact Kd.N_mono (N4 (Kd.N_mono HOz3.out (fun k_ hk => (⟨hk, hk.1.2.2.2.2.2.2.2⟩ : _ ∧ k_ ≠ gbz1))) (.int .i64 tz11) (.int .i64 tz12) (.int .i64 tz15) (.slice Ao37 tz16.length co37)) (fun _ hk => ⟨hk.1.1.1, ⟨hk.1.1.2.1, ⟨hk.1.2, ⟨hk.1.1.2.2.2.1, ⟨hk.1.1.2.2.2.2.1, ⟨hk.1.1.2.2.2.2.2.2.1, ⟨hk.1.1.2.2.2.2.2.2.2, hk.1.1.2.2.2.2.2.1⟩⟩⟩⟩⟩⟩⟩)⟩, ⟨by exact Kd.Q_mono (Q4 (Kd.Q_types HOz2.out BKz3.out (by decide)) (.int .i64 tz11) (.int .i64 tz12) (.int .i64 tz15) (.slice Ao37 tz16.length co37)) (fun _ hk => ⟨hk.1.1.1, hk.1.2⟩)⟩, ⟨by exact Kd.Q_mono (Q4 (Kd.Q_types HOz5.out BKz3.out (by decide)) (.int .i64 tz11) (.int .i64 tz12) (.int .i64 tz15) (.slice Ao37 tz16.length co37)) (fun _ hk => ⟨hk.1.1.1.1, hk.1.1.2⟩)⟩, ⟨by refine f4 ?_ NBz5.out; exact BKz1.out⟩, ⟨by refine f4 ?_ NBz6.out; exact BKz2.out⟩, ⟨by refine f4 ?_ NBz0.out; exact BKz0.out⟩, ⟨by refine p4 (.int .i64 tz1) (.int .i64 tz2) (.int .i64 tz3) (.slice Ao23 tz5.length co23) ?_; exact BKz3.out⟩, ⟨by repeat (with_reducible first | exact aA.out | refine IsS144.far ?_ NBz13.out _)⟩, ⟨by repeat (with_reducible first | exact HB.out | refine below_set ?_ GEz0.out)⟩⟩
  rw [if_neg c29] at H
  have c29b0 : (tz13 == 0) = false := beq_eq_false_iff_ne.mpr c29
  have c29b1 : (tz13 != 0) = true := bne_iff_ne.mpr c29
  (rw [c29b0])
  have H' := mk H
  clear H
  go_wp2
  go_meet
  case rel => exact ⟨_, (tz14), (tz1), (tz2), (tz3), (tz5), (.slice Ao23 tz5.length co23), H', ⟨by omega⟩, ⟨by exact Kd.N_mono HOz3.out (fun _ hk => ⟨hk.1, ⟨hk.2.1, ⟨hk.2.2.1, ⟨hk.2.2.2.1, ⟨hk.2.2.2.2.1, ⟨hk.2.2.2.2.2.2.1, ⟨hk.2.2.2.2.2.2.2, hk.2.2.2.2.2.1⟩⟩⟩⟩⟩⟩⟩)⟩, HOz2, ⟨Kd.Q_of_R HOz4.out⟩, BKz1, BKz2, BKz0, BKz3, aA, HB⟩
 case rest =>
  clear HC6
  obtain ⟨kq, xz14, xz0, xz1, xz2, xz3, aC, HA, HJ5, HO_8, HOz0, HOz1, BKz1, BKz2, BKz0, BKz3, aA, HB⟩ := hcut
  cases kq with
  | zero => exact absurd HA.out (by simp [spec_DrawRedrawTiles.j0])
  | succ kj5 =>
   have H := HA.out
   clear HA
   simp only [spec_DrawRedrawTiles.j0] at H
   obtain ⟨yz0, hyz0⟩ : ∃ y_ : List Int, y_ = ([] : List Int) := ⟨_, rfl⟩
   replace H : (spec_DrawRedrawTiles.l0 kj5 tz6 yz0 0 tz4 xz14 tz1 tz2 tz3 tz0 xz0 xz1 xz2 xz3) = some (r1, r2, r3, r4, r5, r6, r7, r8, r9, r10) := by (rw [hyz0]; with_reducible exact H)
   have Nyz0 := mk hyz0
   clear hyz0
   have H' := mk H
   clear H
   go_wp2_with (first | ((with_reducible refine gate_dst (N := 34) rfl ?_); refine Kd.R_lit (Kd.int .i64) _ 3 ?hg (N := 34) ?hd (xs := ([] : List Int)) (inner := []) (ok := fun _ => True) (okp := fun _ => True) ?hr ?hp (fun _ hk => hk) trivial (Below.refl _ _) (Nat.le_refl _) (by simp) ?_; (case hd => rfl); (case hg => rfl); (case hr => (go_simp; done)); (case hp => exact (Reps.none _ _)); intro vz4 w38 ho39 hb hg_ hnew_; clear hg_ hnew_; (rw [← Nyz0.out] at ho39); replace HO_8 := mk (Kd.N_elder' HO_8.out (Kd.R_base ho39) hb); have HOz6 := mk (Kd.R_lower (Kd.R_new' (Kd.R_new' (Kd.R_newM (M := fun k_ => (w.heap.size ≤ k_)) ho39 (below_size HB.out) (fun k_ h_ => h_)) (Kd.Q_lt HOz0.out)) (Kd.Q_lt HOz1.out)) (below_size HB.out)); replace HOz0 := mk (Kd.Q_elder' HOz0.out (Kd.R_base ho39) hb); replace HOz1 := mk (Kd.Q_elder' HOz1.out (Kd.R_base ho39) hb); replace BKz1 := mk (blk_below BKz1.out hb); replace BKz2 := mk (blk_below BKz2.out hb); replace BKz0 := mk (blk_below BKz0.out hb); replace BKz3 := mk (blk_below BKz3.out hb); replace aA := mk (IsS144.below aA.out hb); replace HB := mk (below_step HB.out hb); clear hb ho39))
   go_loopg [10, 11] kj5 (fun kq v10 v11 w' => ∃ (x10_2 : List Int) (x11_2 : Int) (xz4 : Int), v11 = .int .i64 x11_2 ∧ Aside0 (spec_DrawRedrawTiles.l0 kq tz6 x10_2 x11_2 tz4 xz4 tz1 tz2 tz3 tz0 xz0 xz1 xz2 xz3 = some (r1, r2, r3, r4, r5, r6, r7, r8, r9, r10)) ∧ Aside0 (kq ≤ kj5) ∧ Aside0 (Kd.N k55 55 w' w.heap.size (fun k_ => (w.heap.size ≤ k_) ∧ some k_ ≠ (v10 : Value).ownBlock ∧ some k_ ≠ ((.slice Ao16 tz0.length co16) : Value).ownBlock ∧ some k_ ≠ (aC : Value).ownBlock ∧ k_ ≠ gbz2 ∧ k_ ≠ gbz3 ∧ k_ ≠ gbz0 ∧ k_ ≠ gbz1 ∧ k_ ≠ gz0) vz0 tz6) ∧ Aside0 (Kd.R (Kd.int .i64) 3 w' w.heap.size (fun k_ => (w.heap.size ≤ k_) ∧ some k_ ≠ ((.slice Ao16 tz0.length co16) : Value).ownBlock ∧ some k_ ≠ (aC : Value).ownBlock) v10 x10_2) ∧ Aside0 (Kd.Q (Kd.int .i64) 3 w' w.heap.size (fun k_ => (w.heap.size ≤ k_) ∧ some k_ ≠ (v10 : Value).ownBlock ∧ some k_ ≠ (aC : Value).ownBlock) (.slice Ao16 tz0.length co16) tz0) ∧ Aside0 (Kd.Q (Kd.int .i64) 3 w' w.heap.size (fun k_ => (w.heap.size ≤ k_) ∧ some k_ ≠ (v10 : Value).ownBlock ∧ some k_ ≠ ((.slice Ao16 tz0.length co16) : Value).ownBlock) aC xz3) ∧ Aside0 (w'.heap[gbz2]? = some (.cells #[.int .i64 0, .int .i64 0, .int .i64 0, (.slice none 0 0)] 27 (0, 0))) ∧ Aside0 (w'.heap[gbz3]? = some (.cells #[.int .i64 0, .int .i64 0, .int .i64 0, (.slice none 0 0)] 27 (0, 0))) ∧ Aside0 (w'.heap[gbz0]? = some (.cells #[.int .i64 tz1, .int .i64 tz2, .int .i64 tz3, (.slice Ao16 tz0.length co16)] 27 (0, 0))) ∧ Aside0 (w'.heap[gbz1]? = some (.cells #[.int .i64 xz0, .int .i64 xz1, .int .i64 xz2, aC] 27 (0, 0))) ∧ Aside0 (IsS144 w w' gz0 tz4 xz4) ∧ Aside0 (Below w.heap.size w w'))
   case atStart => exact ⟨(yz0), (0), (xz14), (by rfl), H', ⟨Nat.le_refl _⟩, ⟨by exact Kd.N_mono HO_8.out (fun _ hk => ⟨hk.1.1, ⟨hk.2, ⟨hk.1.2.1, ⟨hk.1.2.2.1, ⟨hk.1.2.2.2.1, ⟨hk.1.2.2.2.2.1, ⟨hk.1.2.2.2.2.2.1, ⟨hk.1.2.2.2.2.2.2.1, hk.1.2.2.2.2.2.2.2⟩⟩⟩⟩⟩⟩⟩⟩)⟩, ⟨by exact Kd.R_mono HOz6.out (fun _ hk => ⟨hk.1.1.1, ⟨hk.1.2, hk.2⟩⟩)⟩, ⟨by exact Kd.Q_mono HOz0.out (fun _ hk => ⟨hk.1.1, ⟨hk.2, hk.1.2⟩⟩)⟩, ⟨by exact Kd.Q_mono HOz1.out (fun _ hk => ⟨hk.1.1, ⟨hk.2, hk.1.2⟩⟩)⟩, BKz1, BKz2, BKz0, BKz3, aA, HB⟩
   case round =>
    clear H'
    obtain ⟨x10_2, x11_2, xz4, rfl, HA, HK2, HO_8, HO_10, HOz0, HOz1, BKz1, BKz2, BKz0, BKz3, aA, HB⟩ := hrel
    cases gk with
    | zero => exact absurd HA.out (by simp [spec_DrawRedrawTiles.l0])
    | succ k2 =>
     have H := HA.out
     clear HA
     simp only [spec_DrawRedrawTiles.l0] at H
     by_cases c40 : x11_2 < 4
     ·rw [if_pos c40] at H
      have c40b0 : decide (x11_2 < 4) = true := decide_eq_true c40
      clear c40
      replace H := Option.bind_eq_some_iff.mp H
      obtain ⟨⟨tz10, tz7⟩, A410, H⟩ := H
      dsimp only at H
      have A41 := mk A410
      clear A410
      by_cases c42 : tz10 = 0
      ·rw [if_pos c42] at H
       have c42b0 : (tz10 == 0) = true := beq_iff_eq.mpr c42
       have c42b1 : (tz10 != 0) = false := bne_eq_false_iff_eq.mpr c42
       clear c42
       replace H := Option.bind_eq_some_iff.mp H
       obtain ⟨tz17, A430, H⟩ := H
       replace H : (if tz17 = true then ((spec_tileCount.f tz1 tz2 tz3 tz0).bind fun tz8 => (if x11_2 < tz8 then (if x10_2.length < 17592186044416 then (spec_DrawRedrawTiles.l0 k2 tz6 (x10_2 ++ [x11_2]) (wrap64 (x11_2 + 1)) tz4 tz7 tz1 tz2 tz3 tz0 xz0 xz1 xz2 xz3) else none) else (spec_DrawRedrawTiles.l0 k2 tz6 x10_2 (wrap64 (x11_2 + 1)) tz4 tz7 tz1 tz2 tz3 tz0 xz0 xz1 xz2 xz3))) else (spec_DrawRedrawTiles.l0 k2 tz6 x10_2 (wrap64 (x11_2 + 1)) tz4 tz7 tz1 tz2 tz3 tz0 xz0 xz1 xz2 xz3)) = some (r1, r2, r3, r4, r5, r6, r7, r8, r9, r10) := H
       have A43 := mk A430
       clear A430
       by_cases c44 : tz17 = true
       ·subst c44
        have H1 : ((spec_tileCount.f tz1 tz2 tz3 tz0).bind fun tz8 => (if x11_2 < tz8 then (if x10_2.length < 17592186044416 then (spec_DrawRedrawTiles.l0 k2 tz6 (x10_2 ++ [x11_2]) (wrap64 (x11_2 + 1)) tz4 tz7 tz1 tz2 tz3 tz0 xz0 xz1 xz2 xz3) else none) else (spec_DrawRedrawTiles.l0 k2 tz6 x10_2 (wrap64 (x11_2 + 1)) tz4 tz7 tz1 tz2 tz3 tz0 xz0 xz1 xz2 xz3))) = some (r1, r2, r3, r4, r5, r6, r7, r8, r9, r10) := by rw [if_pos rfl] at H; exact H
        clear H
        have H := H1
        clear H1
        replace H := Option.bind_eq_some_iff.mp H
        obtain ⟨tz8, A450, H⟩ := H
        replace H : (if x11_2 < tz8 then (if x10_2.length < 17592186044416 then (spec_DrawRedrawTiles.l0 k2 tz6 (x10_2 ++ [x11_2]) (wrap64 (x11_2 + 1)) tz4 tz7 tz1 tz2 tz3 tz0 xz0 xz1 xz2 xz3) else none) else (spec_DrawRedrawTiles.l0 k2 tz6 x10_2 (wrap64 (x11_2 + 1)) tz4 tz7 tz1 tz2 tz3 tz0 xz0 xz1 xz2 xz3)) = some (r1, r2, r3, r4, r5, r6, r7, r8, r9, r10) := H
        have A45 := mk A450
        clear A450
        by_cases c46 : x11_2 < tz8
        ·rw [if_pos c46] at H
         have c46b0 : decide (x11_2 < tz8) = true := decide_eq_true c46
         clear c46
         by_cases c47 : x10_2.length < 17592186044416
         ·rw [if_pos c47] at H
          have LMc47 := mk c47
          clear c47
          obtain ⟨yz1, hyz1⟩ : ∃ y_ : List Int, y_ = (x10_2 ++ [x11_2]) := ⟨_, rfl⟩
          replace H : (spec_DrawRedrawTiles.l0 k2 tz6 yz1 (wrap64 (x11_2 + 1)) tz4 tz7 tz1 tz2 tz3 tz0 xz0 xz1 xz2 xz3) = some (r1, r2, r3, r4, r5, r6, r7, r8, r9, r10) := by (rw [hyz1]; with_reducible exact H)
          have Nyz1 := mk hyz1
          clear hyz1
          have H' := mk H
          clear H
          go_wp2_with (first | ((with_reducible refine gate_callee (f := 127) rfl ?_); refine goesL_ (some 40) rfl rfl Try.func127 (by kernel_rfl) rfl #[.pointer (some ⟨gz0, 0, none⟩), .int .i64 2] rfl (by (try simp only [bitvec_to_nat]); rfl) ?_; (with_reducible refine (spec_reader_pick.calls k2 gz0 tz4 xz4 2 tz10 tz7 w _ ?side1 ?side2 A41.out).mono ?_); (case side1 => repeat (with_reducible exact aA.out)); (case side2 => repeat (with_reducible exact HB.out)); rintro e w48 ⟨rfl, hi, hb, hk⟩; refine ⟨_, rfl, ?_⟩; replace HO_8 := mk (Kd.N_mono (Kd.N_keep (Kd.N_mono (ok := fun k_ => ((w.heap.size ≤ k_) ∧ (some k_ ≠ (u10 : Value).ownBlock ∧ (some k_ ≠ (.slice Ao16 tz0.length co16 : Value).ownBlock ∧ (some k_ ≠ (aC : Value).ownBlock ∧ (k_ ≠ gbz2 ∧ (k_ ≠ gbz3 ∧ (k_ ≠ gbz0 ∧ (k_ ≠ gbz1 ∧ k_ ≠ gz0))))))))) HO_8.out (fun k_ hk_ => (⟨hk_, hk_.2.2.2.2.2.2.2.2⟩ : _ ∧ k_ ≠ gz0))) hk (fun _ h => h.2)) (fun _ h => h.1)); replace HO_10 := mk (Kd.R_mono (Kd.R_keep (IsS144.apart (show IsS144 w _ gz0 tz4 xz4 from by exact aA.out) HO_10.out (by decide)) hk (fun _ h => h.2)) (fun _ h => h.1)); replace HOz0 := mk (Kd.Q_mono (Kd.Q_keep (IsS144.apartQ (show IsS144 w _ gz0 tz4 xz4 from by exact aA.out) HOz0.out (by decide)) hk (fun _ h => h.2)) (fun _ h => h.1)); replace HOz1 := mk (Kd.Q_mono (Kd.Q_keep (IsS144.apartQ (show IsS144 w _ gz0 tz4 xz4 from by exact aA.out) HOz1.out (by decide)) hk (fun _ h => h.2)) (fun _ h => h.1)); replace BKz1 := mk (KeepBut.blk hk (g' := gbz2) (o := .cells #[.int .i64 0, .int .i64 0, .int .i64 0, .slice none 0 0] 27 (0, 0)) BKz1.out NBz14.out (by simp)); replace BKz2 := mk (KeepBut.blk hk (g' := gbz3) (o := .cells #[.int .i64 0, .int .i64 0, .int .i64 0, .slice none 0 0] 27 (0, 0)) BKz2.out NBz15.out (by simp)); replace BKz0 := mk (KeepBut.blk hk (g' := gbz0) (o := .cells #[.int .i64 tz1, .int .i64 tz2, .int .i64 tz3, .slice Ao16 tz0.length co16] 27 (0, 0)) BKz0.out NBz16.out (by simp)); replace BKz3 := mk (KeepBut.blk hk (g' := gbz1) (o := .cells #[.int .i64 xz0, .int .i64 xz1, .int .i64 xz2, aC] 27 (0, 0)) BKz3.out NBz9.out (by simp)); replace HB := mk (hb); replace aA := mk (hi); obtain ⟨hcz53_0, hcz53_1, hcz53_2, -⟩ := c4 BKz0.out; have hcz53_3 : w48.cell? ⟨gbz0, 3, none⟩ = some (.slice Ao16 tz0.length co16) := (blk_cell BKz0.out 3).trans rfl) | (go_at_call 89; (with_reducible refine (spec_validImage.calls k2 tz1 tz2 tz3 _ _ tz0 true _ ?side1 ?side2 A43.out).mono ?_); (case side1 => repeat (exact (Kd.Q_reads' HOz0.out).2.2)); (case side2 => exact (Kd.Q_reads' HOz0.out).2.1); rintro e w54 ⟨rfl, hb⟩; replace HO_8 := mk (Kd.N_below HO_8.out hb); replace HO_10 := mk (Kd.R_below HO_10.out hb); replace HOz0 := mk (Kd.Q_below HOz0.out hb); replace HOz1 := mk (Kd.Q_below HOz1.out hb); replace BKz1 := mk (blk_below BKz1.out hb); replace BKz2 := mk (blk_below BKz2.out hb); replace BKz0 := mk (blk_below BKz0.out hb); replace BKz3 := mk (blk_below BKz3.out hb); replace aA := mk (IsS144.below aA.out hb); replace HB := mk (below_step HB.out hb); obtain ⟨hcz55_0, hcz55_1, hcz55_2, -⟩ := c4 BKz0.out; have hcz55_3 : w54.cell? ⟨gbz0, 3, none⟩ = some (.slice Ao16 tz0.length co16) := (blk_cell BKz0.out 3).trans rfl) | (go_at_call 90; (with_reducible refine (spec_tileCount.calls tz1 tz2 tz3 _ _ tz0 tz8 _ ?side1 ?side2 A45.out).mono ?_); (case side1 => repeat (exact (Kd.Q_reads' HOz0.out).2.2)); (case side2 => exact (Kd.Q_reads' HOz0.out).2.1); rintro e w56 ⟨rfl, hb⟩; replace HO_8 := mk (Kd.N_below HO_8.out hb); replace HO_10 := mk (Kd.R_below HO_10.out hb); replace HOz0 := mk (Kd.Q_below HOz0.out hb); replace HOz1 := mk (Kd.Q_below HOz1.out hb); replace BKz1 := mk (blk_below BKz1.out hb); replace BKz2 := mk (blk_below BKz2.out hb); replace BKz0 := mk (blk_below BKz0.out hb); replace BKz3 := mk (blk_below BKz3.out hb); replace aA := mk (IsS144.below aA.out hb); replace HB := mk (below_step HB.out hb)) | ((with_reducible refine gate_builtin (b := .append) (xs := #[.tmp 52, .tmp 54]) rfl ?_); at_builtin; refine Kd.R_append (Kd.int .i64) (w0 := w) w.heap.size rfl (.tmp 52) (.tmp 54) 22 3 (.int .i64 0) 8 rfl Try.underlying22 info3 rfl (by decide) (by omega) u10 x10_2 x11_2 [.int .i64 x11_2] (fun k_ => (w.heap.size ≤ k_) ∧ some k_ ≠ (.slice Ao16 tz0.length co16 : Value).ownBlock ∧ some k_ ≠ (aC : Value).ownBlock) (fun _ => False) rfl rfl ?aP (fun _ hk => hk.elim) ?aF ?aO ?aB ?aS ?aL ?_; (case aP => exact rfl); (case aB => exact HB.out); (case aF => exact (fun k_ hk => ⟨(Nat.le_trans (below_size HB.out) hk), Kd.fresh' (Kd.Q_lt HOz0.out) k_ hk, Kd.fresh' (Kd.Q_lt HOz1.out) k_ hk⟩)); (case aO => exact HO_10.out); (case aS => exact (below_size HB.out)); (case aL => have := LMc47.out; omega); intro vz5 w57 ho hb hg hat; rw [← Nyz1.out] at ho; have n0_ := mk (Kd.N_afterv (ok := (fun k_ => (w.heap.size ≤ k_) ∧ some k_ ≠ (.slice Ao16 tz0.length co16 : Value).ownBlock ∧ some k_ ≠ (aC : Value).ownBlock ∧ k_ ≠ gbz2 ∧ k_ ≠ gbz3 ∧ k_ ≠ gbz0 ∧ k_ ≠ gbz1 ∧ k_ ≠ gz0)) (by exact Kd.N_mono HO_8.out (fun _ hk => ⟨⟨hk.1, ⟨hk.2.2.1, ⟨hk.2.2.2.1, ⟨hk.2.2.2.2.1, ⟨hk.2.2.2.2.2.1, ⟨hk.2.2.2.2.2.2.1, ⟨hk.2.2.2.2.2.2.2.1, hk.2.2.2.2.2.2.2.2⟩⟩⟩⟩⟩⟩⟩, hk.2.1⟩)) hg hat); have n1_ := mk (Kd.Q_after (ok := (fun k_ => (w.heap.size ≤ k_) ∧ some k_ ≠ (aC : Value).ownBlock)) (by exact Kd.Q_mono HOz0.out (fun _ hk => ⟨⟨hk.1, hk.2.2⟩, hk.2.1⟩)) hg hat); have n2_ := mk (Kd.Q_after (ok := (fun k_ => (w.heap.size ≤ k_) ∧ some k_ ≠ (.slice Ao16 tz0.length co16 : Value).ownBlock)) (by exact Kd.Q_mono HOz1.out (fun _ hk => ⟨⟨hk.1, hk.2.2⟩, hk.2.1⟩)) hg hat); have n3_ := mk (blk_grown (g := gbz2) (o := .cells #[.int .i64 0, .int .i64 0, .int .i64 0, .slice none 0 0] 27 (0, 0)) BKz1.out hg (Kd.R_ne HO_10.out BKz1.out (by decide))); have n4_ := mk (blk_grown (g := gbz3) (o := .cells #[.int .i64 0, .int .i64 0, .int .i64 0, .slice none 0 0] 27 (0, 0)) BKz2.out hg (Kd.R_ne HO_10.out BKz2.out (by decide))); have n5_ := mk (blk_grown (g := gbz0) (o := .cells #[.int .i64 tz1, .int .i64 tz2, .int .i64 tz3, .slice Ao16 tz0.length co16] 27 (0, 0)) BKz0.out hg (Kd.R_ne HO_10.out BKz0.out (by decide))); have n6_ := mk (blk_grown (g := gbz1) (o := .cells #[.int .i64 xz0, .int .i64 xz1, .int .i64 xz2, aC] 27 (0, 0)) BKz3.out hg (Kd.R_ne HO_10.out BKz3.out (by decide))); have n7_ := mk (IsS144.grown aA.out hg (IsS144.own_ne aA.out HO_10.out (by decide))); have n8_ := mk (hb); have n9_ := mk (ho); clear HO_8; clear HOz0; clear HOz1; clear BKz1; clear BKz2; clear BKz0; clear BKz3; clear aA; clear HB; clear HO_10; have HO_8 := n0_; have HOz0 := n1_; have HOz1 := n2_; have BKz1 := n3_; have BKz2 := n4_; have BKz0 := n5_; have BKz3 := n6_; have aA := n7_; have HB := n8_; have HOz7 := n9_; clear ho hb hg hat))
          go_roundg k2
          case measure => have := HJ5.out; have := HK2.out; omega
          case rel => exact ⟨(yz1), (wrap64 (x11_2 + 1)), (tz7), (by rfl), H', ⟨by have := HJ5.out; have := HK2.out; omega⟩, ⟨by exact Kd.N_mono HO_8.out (fun _ hk => ⟨hk.1.1, ⟨hk.2, ⟨hk.1.2.1, ⟨hk.1.2.2.1, ⟨hk.1.2.2.2.1, ⟨hk.1.2.2.2.2.1, ⟨hk.1.2.2.2.2.2.1, ⟨hk.1.2.2.2.2.2.2.1, hk.1.2.2.2.2.2.2.2⟩⟩⟩⟩⟩⟩⟩⟩)⟩, HOz7, ⟨by exact Kd.Q_mono HOz0.out (fun _ hk => ⟨hk.1.1, ⟨hk.2, hk.1.2⟩⟩)⟩, ⟨by exact Kd.Q_mono HOz1.out (fun _ hk => ⟨hk.1.1, ⟨hk.2, hk.1.2⟩⟩)⟩, BKz1, BKz2, BKz0, BKz3, aA, HB⟩
         rw [if_neg c47] at H
         exact absurd H (by simp)
        rw [if_neg c46] at H
        have c46b0 : decide (x11_2 < tz8) = false := decide_eq_false c46
        clear c46
        have H' := mk H
        clear H
        go_wp2_with (first | ((with_reducible refine gate_callee (f := 127) rfl ?_); refine goesL_ (some 40) rfl rfl Try.func127 (by kernel_rfl) rfl #[.pointer (some ⟨gz0, 0, none⟩), .int .i64 2] rfl (by (try simp only [bitvec_to_nat]); rfl) ?_; (with_reducible refine (spec_reader_pick.calls k2 gz0 tz4 xz4 2 tz10 tz7 w _ ?side1 ?side2 A41.out).mono ?_); (case side1 => repeat (with_reducible exact aA.out)); (case side2 => repeat (with_reducible exact HB.out)); rintro e w58 ⟨rfl, hi, hb, hk⟩; refine ⟨_, rfl, ?_⟩; replace HO_8 := mk (Kd.N_mono (Kd.N_keep (Kd.N_mono (ok := fun k_ => ((w.heap.size ≤ k_) ∧ (some k_ ≠ (u10 : Value).ownBlock ∧ (some k_ ≠ (.slice Ao16 tz0.length co16 : Value).ownBlock ∧ (some k_ ≠ (aC : Value).ownBlock ∧ (k_ ≠ gbz2 ∧ (k_ ≠ gbz3 ∧ (k_ ≠ gbz0 ∧ (k_ ≠ gbz1 ∧ k_ ≠ gz0))))))))) HO_8.out (fun k_ hk_ => (⟨hk_, hk_.2.2.2.2.2.2.2.2⟩ : _ ∧ k_ ≠ gz0))) hk (fun _ h => h.2)) (fun _ h => h.1)); replace HO_10 := mk (Kd.R_mono (Kd.R_keep (IsS144.apart (show IsS144 w _ gz0 tz4 xz4 from by exact aA.out) HO_10.out (by decide)) hk (fun _ h => h.2)) (fun _ h => h.1)); replace HOz0 := mk (Kd.Q_mono (Kd.Q_keep (IsS144.apartQ (show IsS144 w _ gz0 tz4 xz4 from by exact aA.out) HOz0.out (by decide)) hk (fun _ h => h.2)) (fun _ h => h.1)); replace HOz1 := mk (Kd.Q_mono (Kd.Q_keep (IsS144.apartQ (show IsS144 w _ gz0 tz4 xz4 from by exact aA.out) HOz1.out (by decide)) hk (fun _ h => h.2)) (fun _ h => h.1)); replace BKz1 := mk (KeepBut.blk hk (g' := gbz2) (o := .cells #[.int .i64 0, .int .i64 0, .int .i64 0, .slice none 0 0] 27 (0, 0)) BKz1.out NBz14.out (by simp)); replace BKz2 := mk (KeepBut.blk hk (g' := gbz3) (o := .cells #[.int .i64 0, .int .i64 0, .int .i64 0, .slice none 0 0] 27 (0, 0)) BKz2.out NBz15.out (by simp)); replace BKz0 := mk (KeepBut.blk hk (g' := gbz0) (o := .cells #[.int .i64 tz1, .int .i64 tz2, .int .i64 tz3, .slice Ao16 tz0.length co16] 27 (0, 0)) BKz0.out NBz16.out (by simp)); replace BKz3 := mk (KeepBut.blk hk (g' := gbz1) (o := .cells #[.int .i64 xz0, .int .i64 xz1, .int .i64 xz2, aC] 27 (0, 0)) BKz3.out NBz9.out (by simp)); replace HB := mk (hb); replace aA := mk (hi); obtain ⟨hcz63_0, hcz63_1, hcz63_2, -⟩ := c4 BKz0.out; have hcz63_3 : w58.cell? ⟨gbz0, 3, none⟩ = some (.slice Ao16 tz0.length co16) := (blk_cell BKz0.out 3).trans rfl) | (go_at_call 89; (with_reducible refine (spec_validImage.calls k2 tz1 tz2 tz3 _ _ tz0 true _ ?side1 ?side2 A43.out).mono ?_); (case side1 => repeat (exact (Kd.Q_reads' HOz0.out).2.2)); (case side2 => exact (Kd.Q_reads' HOz0.out).2.1); rintro e w64 ⟨rfl, hb⟩; replace HO_8 := mk (Kd.N_below HO_8.out hb); replace HO_10 := mk (Kd.R_below HO_10.out hb); replace HOz0 := mk (Kd.Q_below HOz0.out hb); replace HOz1 := mk (Kd.Q_below HOz1.out hb); replace BKz1 := mk (blk_below BKz1.out hb); replace BKz2 := mk (blk_below BKz2.out hb); replace BKz0 := mk (blk_below BKz0.out hb); replace BKz3 := mk (blk_below BKz3.out hb); replace aA := mk (IsS144.below aA.out hb); replace HB := mk (below_step HB.out hb); obtain ⟨hcz65_0, hcz65_1, hcz65_2, -⟩ := c4 BKz0.out; have hcz65_3 : w64.cell? ⟨gbz0, 3, none⟩ = some (.slice Ao16 tz0.length co16) := (blk_cell BKz0.out 3).trans rfl) | (go_at_call 90; (with_reducible refine (spec_tileCount.calls tz1 tz2 tz3 _ _ tz0 tz8 _ ?side1 ?side2 A45.out).mono ?_); (case side1 => repeat (exact (Kd.Q_reads' HOz0.out).2.2)); (case side2 => exact (Kd.Q_reads' HOz0.out).2.1); rintro e w66 ⟨rfl, hb⟩; replace HO_8 := mk (Kd.N_below HO_8.out hb); replace HO_10 := mk (Kd.R_below HO_10.out hb); replace HOz0 := mk (Kd.Q_below HOz0.out hb); replace HOz1 := mk (Kd.Q_below HOz1.out hb); replace BKz1 := mk (blk_below BKz1.out hb); replace BKz2 := mk (blk_below BKz2.out hb); replace BKz0 := mk (blk_below BKz0.out hb); replace BKz3 := mk (blk_below BKz3.out hb); replace aA := mk (IsS144.below aA.out hb); replace HB := mk (below_step HB.out hb)))
        go_roundg k2
        case measure => have := HJ5.out; have := HK2.out; omega
        case rel => exact ⟨(x10_2), (wrap64 (x11_2 + 1)), (tz7), (by rfl), H', ⟨by have := HJ5.out; have := HK2.out; omega⟩, HO_8, HO_10, HOz0, HOz1, BKz1, BKz2, BKz0, BKz3, aA, HB⟩
       replace c44 := Bool.eq_false_iff.mpr c44
       subst c44
       have H1 : (spec_DrawRedrawTiles.l0 k2 tz6 x10_2 (wrap64 (x11_2 + 1)) tz4 tz7 tz1 tz2 tz3 tz0 xz0 xz1 xz2 xz3) = some (r1, r2, r3, r4, r5, r6, r7, r8, r9, r10) := by rw [if_neg (show ¬ (false = true) by decide)] at H; exact H
       clear H
       have H := H1
       clear H1
       have H' := mk H
       clear H
       go_wp2_with (first | ((with_reducible refine gate_callee (f := 127) rfl ?_); refine goesL_ (some 40) rfl rfl Try.func127 (by kernel_rfl) rfl #[.pointer (some ⟨gz0, 0, none⟩), .int .i64 2] rfl (by (try simp only [bitvec_to_nat]); rfl) ?_; (with_reducible refine (spec_reader_pick.calls k2 gz0 tz4 xz4 2 tz10 tz7 w _ ?side1 ?side2 A41.out).mono ?_); (case side1 => repeat (with_reducible exact aA.out)); (case side2 => repeat (with_reducible exact HB.out)); rintro e w67 ⟨rfl, hi, hb, hk⟩; refine ⟨_, rfl, ?_⟩; replace HO_8 := mk (Kd.N_mono (Kd.N_keep (Kd.N_mono (ok := fun k_ => ((w.heap.size ≤ k_) ∧ (some k_ ≠ (u10 : Value).ownBlock ∧ (some k_ ≠ (.slice Ao16 tz0.length co16 : Value).ownBlock ∧ (some k_ ≠ (aC : Value).ownBlock ∧ (k_ ≠ gbz2 ∧ (k_ ≠ gbz3 ∧ (k_ ≠ gbz0 ∧ (k_ ≠ gbz1 ∧ k_ ≠ gz0))))))))) HO_8.out (fun k_ hk_ => (⟨hk_, hk_.2.2.2.2.2.2.2.2⟩ : _ ∧ k_ ≠ gz0))) hk (fun _ h => h.2)) (fun _ h => h.1)); replace HO_10 := mk (Kd.R_mono (Kd.R_keep (IsS144.apart (show IsS144 w _ gz0 tz4 xz4 from by exact aA.out) HO_10.out (by decide)) hk (fun _ h => h.2)) (fun _ h => h.1)); replace HOz0 := mk (Kd.Q_mono (Kd.Q_keep (IsS144.apartQ (show IsS144 w _ gz0 tz4 xz4 from by exact aA.out) HOz0.out (by decide)) hk (fun _ h => h.2)) (fun _ h => h.1)); replace HOz1 := mk (Kd.Q_mono (Kd.Q_keep (IsS144.apartQ (show IsS144 w _ gz0 tz4 xz4 from by exact aA.out) HOz1.out (by decide)) hk (fun _ h => h.2)) (fun _ h => h.1)); replace BKz1 := mk (KeepBut.blk hk (g' := gbz2) (o := .cells #[.int .i64 0, .int .i64 0, .int .i64 0, .slice none 0 0] 27 (0, 0)) BKz1.out NBz14.out (by simp)); replace BKz2 := mk (KeepBut.blk hk (g' := gbz3) (o := .cells #[.int .i64 0, .int .i64 0, .int .i64 0, .slice none 0 0] 27 (0, 0)) BKz2.out NBz15.out (by simp)); replace BKz0 := mk (KeepBut.blk hk (g' := gbz0) (o := .cells #[.int .i64 tz1, .int .i64 tz2, .int .i64 tz3, .slice Ao16 tz0.length co16] 27 (0, 0)) BKz0.out NBz16.out (by simp)); replace BKz3 := mk (KeepBut.blk hk (g' := gbz1) (o := .cells #[.int .i64 xz0, .int .i64 xz1, .int .i64 xz2, aC] 27 (0, 0)) BKz3.out NBz9.out (by simp)); replace HB := mk (hb); replace aA := mk (hi); obtain ⟨hcz72_0, hcz72_1, hcz72_2, -⟩ := c4 BKz0.out; have hcz72_3 : w67.cell? ⟨gbz0, 3, none⟩ = some (.slice Ao16 tz0.length co16) := (blk_cell BKz0.out 3).trans rfl) | (go_at_call 89; (with_reducible refine (spec_validImage.calls k2 tz1 tz2 tz3 _ _ tz0 false _ ?side1 ?side2 A43.out).mono ?_); (case side1 => repeat (exact (Kd.Q_reads' HOz0.out).2.2)); (case side2 => exact (Kd.Q_reads' HOz0.out).2.1); rintro e w73 ⟨rfl, hb⟩; replace HO_8 := mk (Kd.N_below HO_8.out hb); replace HO_10 := mk (Kd.R_below HO_10.out hb); replace HOz0 := mk (Kd.Q_below HOz0.out hb); replace HOz1 := mk (Kd.Q_below HOz1.out hb); replace BKz1 := mk (blk_below BKz1.out hb); replace BKz2 := mk (blk_below BKz2.out hb); replace BKz0 := mk (blk_below BKz0.out hb); replace BKz3 := mk (blk_below BKz3.out hb); replace aA := mk (IsS144.below aA.out hb); replace HB := mk (below_step HB.out hb)))
       go_roundg k2
       case measure => have := HJ5.out; have := HK2.out; omega
       case rel => exact ⟨(x10_2), (wrap64 (x11_2 + 1)), (tz7), (by rfl), H', ⟨by have := HJ5.out; have := HK2.out; omega⟩, HO_8, HO_10, HOz0, HOz1, BKz1, BKz2, BKz0, BKz3, aA, HB⟩
      rw [if_neg c42] at H
      have c42b0 : (tz10 == 0) = false := beq_eq_false_iff_ne.mpr c42
      have c42b1 : (tz10 != 0) = true := bne_iff_ne.mpr c42
      have H' := mk H
      clear H
      go_wp2_with (first | ((with_reducible refine gate_callee (f := 127) rfl ?_); refine goesL_ (some 40) rfl rfl Try.func127 (by kernel_rfl) rfl #[.pointer (some ⟨gz0, 0, none⟩), .int .i64 2] rfl (by (try simp only [bitvec_to_nat]); rfl) ?_; (with_reducible refine (spec_reader_pick.calls k2 gz0 tz4 xz4 2 tz10 tz7 w _ ?side1 ?side2 A41.out).mono ?_); (case side1 => repeat (with_reducible exact aA.out)); (case side2 => repeat (with_reducible exact HB.out)); rintro e w74 ⟨rfl, hi, hb, hk⟩; refine ⟨_, rfl, ?_⟩; replace HO_8 := mk (Kd.N_mono (Kd.N_keep (Kd.N_mono (ok := fun k_ => ((w.heap.size ≤ k_) ∧ (some k_ ≠ (u10 : Value).ownBlock ∧ (some k_ ≠ (.slice Ao16 tz0.length co16 : Value).ownBlock ∧ (some k_ ≠ (aC : Value).ownBlock ∧ (k_ ≠ gbz2 ∧ (k_ ≠ gbz3 ∧ (k_ ≠ gbz0 ∧ (k_ ≠ gbz1 ∧ k_ ≠ gz0))))))))) HO_8.out (fun k_ hk_ => (⟨hk_, hk_.2.2.2.2.2.2.2.2⟩ : _ ∧ k_ ≠ gz0))) hk (fun _ h => h.2)) (fun _ h => h.1)); replace HO_10 := mk (Kd.R_mono (Kd.R_keep (IsS144.apart (show IsS144 w _ gz0 tz4 xz4 from by exact aA.out) HO_10.out (by decide)) hk (fun _ h => h.2)) (fun _ h => h.1)); replace HOz0 := mk (Kd.Q_mono (Kd.Q_keep (IsS144.apartQ (show IsS144 w _ gz0 tz4 xz4 from by exact aA.out) HOz0.out (by decide)) hk (fun _ h => h.2)) (fun _ h => h.1)); replace HOz1 := mk (Kd.Q_mono (Kd.Q_keep (IsS144.apartQ (show IsS144 w _ gz0 tz4 xz4 from by exact aA.out) HOz1.out (by decide)) hk (fun _ h => h.2)) (fun _ h => h.1)); replace BKz1 := mk (KeepBut.blk hk (g' := gbz2) (o := .cells #[.int .i64 0, .int .i64 0, .int .i64 0, .slice none 0 0] 27 (0, 0)) BKz1.out NBz14.out (by simp)); replace BKz2 := mk (KeepBut.blk hk (g' := gbz3) (o := .cells #[.int .i64 0, .int .i64 0, .int .i64 0, .slice none 0 0] 27 (0, 0)) BKz2.out NBz15.out (by simp)); replace BKz0 := mk (KeepBut.blk hk (g' := gbz0) (o := .cells #[.int .i64 tz1, .int .i64 tz2, .int .i64 tz3, .slice Ao16 tz0.length co16] 27 (0, 0)) BKz0.out NBz16.out (by simp)); replace BKz3 := mk (KeepBut.blk hk (g' := gbz1) (o := .cells #[.int .i64 xz0, .int .i64 xz1, .int .i64 xz2, aC] 27 (0, 0)) BKz3.out NBz9.out (by simp)); replace HB := mk (hb); replace aA := mk (hi)))
      go_roundg k2
      case measure => have := HJ5.out; have := HK2.out; omega
      case rel => exact ⟨(x10_2), (wrap64 (x11_2 + 1)), (tz7), (by rfl), H', ⟨by have := HJ5.out; have := HK2.out; omega⟩, HO_8, HO_10, HOz0, HOz1, BKz1, BKz2, BKz0, BKz3, aA, HB⟩
     rw [if_neg c40] at H
     have c40b0 : decide (x11_2 < 4) = false := decide_eq_false c40
     clear c40
     replace H := Option.bind_eq_some_iff.mp H
     obtain ⟨⟨tz19, tz20⟩, A750, H⟩ := H
     dsimp only at H
     have A75 := mk A750
     clear A750
     simp only [Option.some.injEq, Prod.mk.injEq] at H
     obtain ⟨rfl, rfl, rfl, rfl, rfl, rfl, rfl, rfl, rfl, rfl⟩ := H
     try go_wp2
     replace HO_8 := mk (Kd.N_drew HO_8.out)
     replace HO_10 := mk (Kd.R_drew HO_10.out)
     replace HOz0 := mk (Kd.Q_drew HOz0.out)
     replace HOz1 := mk (Kd.Q_drew HOz1.out)
     replace BKz1 := mk (blk_drew BKz1.out)
     replace BKz2 := mk (blk_drew BKz2.out)
     replace BKz0 := mk (blk_drew BKz0.out)
     replace BKz3 := mk (blk_drew BKz3.out)
     replace aA := mk (IsS144.drew aA.out)
     replace HB := mk (below_drew1 HB.out)
     obtain ⟨Ao77, co77, eo77⟩ := Kd.R_slice HO_10.out
     (subst eo77)
     refine start_ (n := 10) (S := fun w' => w'.cell? ⟨gbz1, 0, none⟩ = some (.int .i64 xz0) ∧ w'.cell? ⟨gbz1, 1, none⟩ = some (.int .i64 xz1) ∧ w'.cell? ⟨gbz1, 2, none⟩ = some (.int .i64 xz2) ∧ w'.cell? ⟨gbz1, 3, none⟩ = some aC ∧ w'.cell? ⟨gbz0, 0, none⟩ = some (.int .i64 tz1) ∧ w'.cell? ⟨gbz0, 1, none⟩ = some (.int .i64 tz2) ∧ w'.cell? ⟨gbz0, 2, none⟩ = some (.int .i64 tz3) ∧ w'.cell? ⟨gbz0, 3, none⟩ = some (.slice Ao16 tz0.length co16)) (ds := []) #[false, false, false, false, false, false, false, false, false, false] (by kernel_rfl) rfl rfl ⟨blk_cell BKz3.out 0, blk_cell BKz3.out 1, blk_cell BKz3.out 2, blk_cell BKz3.out 3, blk_cell BKz0.out 0, blk_cell BKz0.out 1, blk_cell BKz0.out 2, blk_cell BKz0.out 3⟩ (fun hHeld => ?_); refine with_tabW spec_DrawRedrawTiles.tab12 spec_DrawRedrawTiles.bits12 (fun HT_ HW_ => ?_)
     generalize wr.drew = w76 at HO_8 HO_10 HOz0 HOz1 BKz1 BKz2 BKz0 BKz3 aA HB hHeld ⊢
     refine pu 2 58 ?_ ?_ rfl rfl (any_of HT_.out (by kernel_rfl)) (Or.inl ⟨by rfl, ?_⟩) ?_ ?_
     rotate_left 2
     ·intro w'
      go_simp
      with_reducible rfl
     ·simp only [seval]
      rfl
     refine pu 3 59 ?_ ?_ rfl rfl (any_of HT_.out (by kernel_rfl)) (Or.inl ⟨by rfl, ?_⟩) ?_ ?_
     rotate_left 2
     ·intro w'
      go_simp
      with_reducible rfl
     ·simp only [seval]
      rfl
     refine pu 4 60 ?_ ?_ rfl rfl (any_of HT_.out (by kernel_rfl)) (Or.inl ⟨by rfl, ?_⟩) ?_ ?_
     rotate_left 2
     ·intro w'
      go_simp
      with_reducible rfl
     ·simp only [seval]
      rfl
     refine tk 0 56 ?_ ?_ rfl rfl (take_ofW HT_.out HW_.out (by kernel_rfl)) (Or.inl ⟨by rfl, ?_⟩) hHeld ?_ ?_
     rotate_left 2
     ·rintro w' ⟨s0, s1, s2, s3, s4, s5, s6, s7⟩
      go_simp
      with_reducible rfl
     ·simp only [seval]
      rfl
     refine tk 1 57 ?_ ?_ rfl rfl (take_ofW HT_.out HW_.out (by kernel_rfl)) (Or.inl ⟨by rfl, ?_⟩) hHeld ?_ ?_
     rotate_left 2
     ·rintro w' ⟨s0, s1, s2, s3, s4, s5, s6, s7⟩
      go_simp
      with_reducible rfl
     ·simp only [seval]
      rfl
     refine one_ (i := 5) (N := some 61) #[true, true, true, true, true, true, false, false, false, false] rfl rfl (one_of HT_.out (by kernel_rfl)) (by decide) (fun K hK => ?_)
     refine goes_ Try.func130 (by kernel_rfl) rfl #[.pointer (some ⟨gz0, 0, none⟩), .slice Ao77 x10_2.length co77, .int .i64 16] (by rfl) rfl rfl (by (try simp only [bitvec_to_nat]); rfl) ?_
     with_reducible refine (spec_reader_spoil.calls k2 gz0 tz4 xz4 _ _ x10_2 16 tz19 tz20 w _ ?side1 ?side2 ?side3 ?side4 ?side5 A75.out).mono ?_
     (case side1 => repeat (with_reducible exact aA.out))
     (case side2 => repeat (with_reducible exact HB.out))
     (case side3 => repeat (exact (Kd.R_reads' HO_10.out).2.2))
     (case side4 => exact (Kd.R_reads' HO_10.out).2.1)
     (case side5 => exact far_slice (IsS144.own_ne aA.out HO_10.out (by decide)))
     rintro e w78 ⟨vz6, rfl, ho0, hi, hb, hk⟩
     refine ⟨_, rfl, ?_⟩
     replace HO_8 := mk (Kd.N_mono (Kd.N_told (Kd.N_oldK (Kd.N_mono (ok := fun k_ => ((w.heap.size ≤ k_) ∧ (some k_ ≠ (.slice Ao77 x10_2.length co77 : Value).ownBlock ∧ (some k_ ≠ (.slice Ao16 tz0.length co16 : Value).ownBlock ∧ (some k_ ≠ (aC : Value).ownBlock ∧ (k_ ≠ gbz2 ∧ (k_ ≠ gbz3 ∧ (k_ ≠ gbz0 ∧ (k_ ≠ gbz1 ∧ k_ ≠ gz0))))))))) HO_8.out (fun k_ hk_ => (⟨hk_, hk_.2.2.2.2.2.2.2.2⟩ : _ ∧ k_ ≠ gz0))) hk) (Kd.Q_base ho0)) (fun _ h_ => h_.1))
     replace BKz1 := mk (KeepBut.blk hk (g' := gbz2) (o := .cells #[.int .i64 0, .int .i64 0, .int .i64 0, .slice none 0 0] 27 (0, 0)) BKz1.out NBz14.out (by simp))
     replace BKz2 := mk (KeepBut.blk hk (g' := gbz3) (o := .cells #[.int .i64 0, .int .i64 0, .int .i64 0, .slice none 0 0] 27 (0, 0)) BKz2.out NBz15.out (by simp))
     replace BKz0 := mk (KeepBut.blk hk (g' := gbz0) (o := .cells #[.int .i64 tz1, .int .i64 tz2, .int .i64 tz3, .slice Ao16 tz0.length co16] 27 (0, 0)) BKz0.out NBz16.out (by simp))
     replace BKz3 := mk (KeepBut.blk hk (g' := gbz1) (o := .cells #[.int .i64 xz0, .int .i64 xz1, .int .i64 xz2, aC] 27 (0, 0)) BKz3.out NBz9.out (by simp))
     have HOz8 := mk (Kd.Q_lower (Kd.Q_new' (Kd.Q_new' (Kd.Q_new' (Kd.Q_newM (M := fun k_ => (w.heap.size ≤ k_)) ho0 (below_size HB.out) (fun k_ h_ => h_)) (Kd.R_lt HO_10.out)) (Kd.Q_lt HOz0.out)) (Kd.Q_lt HOz1.out)) (below_size HB.out))
     replace HO_10 := mk (Kd.R_mono (Kd.R_told (Kd.R_oldK (IsS144.apart (show IsS144 w _ gz0 tz4 xz4 from by exact aA.out) HO_10.out (by decide)) hk) (Kd.Q_base ho0)) (fun _ h_ => h_.1))
     replace HOz0 := mk (Kd.Q_mono (Kd.Q_told (Kd.Q_oldK (IsS144.apartQ (show IsS144 w _ gz0 tz4 xz4 from by exact aA.out) HOz0.out (by decide)) hk) (Kd.Q_base ho0)) (fun _ h_ => h_.1))
     replace HOz1 := mk (Kd.Q_mono (Kd.Q_told (Kd.Q_oldK (IsS144.apartQ (show IsS144 w _ gz0 tz4 xz4 from by exact aA.out) HOz1.out (by decide)) hk) (Kd.Q_base ho0)) (fun _ h_ => h_.1))
     replace HB := mk (hb)
     replace aA := mk (hi)
     (try clear hb)
     (try clear hk)
     (try clear hi)
     (try clear ho0)
     obtain ⟨Ao82, co82, eo82, _⟩ := Kd.Q_slice HOz1.out
     (subst eo82)
     refine hK.out _ _ ⟨blk_cell BKz3.out 0, blk_cell BKz3.out 1, blk_cell BKz3.out 2, blk_cell BKz3.out 3, blk_cell BKz0.out 0, blk_cell BKz0.out 1, blk_cell BKz0.out 2, blk_cell BKz0.out 3⟩ (fun hHeld => ?_)
     clear hK K
     refine norm_ (a' := ?_) ?_ ?_
     rotate_left
     ·show Act.put _ (some 61) _ = _
      simp only [seval]
      rfl
     refine one_ (i := 6) (N := none) #[true, true, true, true, true, true, true, false, false, false] rfl rfl (one_of HT_.out (by kernel_rfl)) (by decide) (fun K hK => ?_)
     obtain ⟨hs79, -, -, -, hfs79, -⟩ := c4 BKz1.out
     have hns79_1 := NBz8.out
     have hns79_2 := NBz3.out
     have hns79_3 := NBz1.out
     have hms79_1 := NBz7.out
     have hms79_2 := NBz10.out
     have hms79_3 := NBz5.out
     obtain ⟨-, hs80, -, -, -, hfs80, -⟩ := c4 BKz1.out
     have hns80_1 := NBz8.out
     have hns80_2 := NBz3.out
     have hns80_3 := NBz1.out
     have hms80_1 := NBz7.out
     have hms80_2 := NBz10.out
     have hms80_3 := NBz5.out
     obtain ⟨-, -, hs81, -, -, -, hfs81, -⟩ := c4 BKz1.out
     have hns81_1 := NBz8.out
     have hns81_2 := NBz3.out
     have hns81_3 := NBz1.out
     have hms81_1 := NBz7.out
     have hms81_2 := NBz10.out
     have hms81_3 := NBz5.out
     obtain ⟨-, -, -, hs83, -, -, -, hfs83⟩ := c4 BKz1.out
     have hns83_1 := NBz8.out
     have hns83_2 := NBz3.out
     have hns83_3 := NBz1.out
     have hms83_1 := NBz7.out
     have hms83_2 := NBz10.out
     have hms83_3 := NBz5.out
     refine skip_ (w1 := ?_) (by rfl) rfl ?_ ?_
     rotate_left
     ·go_simp
      rfl
     refine hK.out _ _ ⟨(e4 NBz1.out hHeld.1), (e4 NBz1.out hHeld.2.1), (e4 NBz1.out hHeld.2.2.1), (e4 NBz1.out hHeld.2.2.2.1), (e4 NBz3.out hHeld.2.2.2.2.1), (e4 NBz3.out hHeld.2.2.2.2.2.1), (e4 NBz3.out hHeld.2.2.2.2.2.2.1), (e4 NBz3.out hHeld.2.2.2.2.2.2.2)⟩ (fun hHeld => ?_)
     clear hK K
     refine one_ (i := 7) (N := none) #[true, true, true, true, true, true, true, true, false, false] rfl rfl (one_of HT_.out (by kernel_rfl)) (by decide) (fun K hK => ?_)
     obtain ⟨hs84, -, -, -, hfs84, -⟩ := c4 BKz2.out
     have hns84_0 := NBz7.out
     have hns84_2 := NBz4.out
     have hns84_3 := NBz2.out
     have hms84_0 := NBz8.out
     have hms84_2 := NBz11.out
     have hms84_3 := NBz6.out
     obtain ⟨-, hs85, -, -, -, hfs85, -⟩ := c4 BKz2.out
     have hns85_0 := NBz7.out
     have hns85_2 := NBz4.out
     have hns85_3 := NBz2.out
     have hms85_0 := NBz8.out
     have hms85_2 := NBz11.out
     have hms85_3 := NBz6.out
     obtain ⟨-, -, hs86, -, -, -, hfs86, -⟩ := c4 BKz2.out
     have hns86_0 := NBz7.out
     have hns86_2 := NBz4.out
     have hns86_3 := NBz2.out
     have hms86_0 := NBz8.out
     have hms86_2 := NBz11.out
     have hms86_3 := NBz6.out
     obtain ⟨-, -, -, hs87, -, -, -, hfs87⟩ := c4 BKz2.out
     have hns87_0 := NBz7.out
     have hns87_2 := NBz4.out
     have hns87_3 := NBz2.out
     have hms87_0 := NBz8.out
     have hms87_2 := NBz11.out
     have hms87_3 := NBz6.out
     refine skip_ (w1 := ?_) (by rfl) rfl ?_ ?_
     rotate_left
     ·go_simp
      rfl
     refine hK.out _ _ ⟨(e4 NBz2.out hHeld.1), (e4 NBz2.out hHeld.2.1), (e4 NBz2.out hHeld.2.2.1), (e4 NBz2.out hHeld.2.2.2.1), (e4 NBz4.out hHeld.2.2.2.2.1), (e4 NBz4.out hHeld.2.2.2.2.2.1), (e4 NBz4.out hHeld.2.2.2.2.2.2.1), (e4 NBz4.out hHeld.2.2.2.2.2.2.2)⟩ (fun hHeld => ?_)
     clear hK K
     refine pu 8 4 ?_ ?_ rfl rfl (any_of HT_.out (by kernel_rfl)) (Or.inl ⟨by rfl, ?_⟩) ?_ ?_
     rotate_left 2
     ·intro w'
      go_simp
      with_reducible rfl
     ·simp only [seval]
      rfl
     refine pu 9 5 ?_ ?_ rfl rfl (any_of HT_.out (by kernel_rfl)) (Or.inl ⟨by rfl, ?_⟩) ?_ ?_
     rotate_left 2
     ·intro w'
      go_simp
      with_reducible rfl
     ·simp only [seval]
      rfl
     refine done_ (done_of HT_.out (by kernel_rfl)) ?_
     try go_wp2
     refine bodyPost_ret (results_list (rs := [.cell 2 27, .cell 3 27, .tmp 4, .tmp 5]) rfl (by simp) (.cell gbz2 27 #[.int .i64 xz0, .int .i64 xz1, .int .i64 xz2, .slice Ao82 xz3.length co82] (0, 0) _ rfl (by refine f4 ?_ NBz7.out; refine p4 (.int .i64 0) (.int .i64 0) (.int .i64 0) (.slice none 0 0) ?_; exact BKz1.out) Try.underlying27 rfl (by kernel_rfl) (.cell gbz3 27 #[.int .i64 tz1, .int .i64 tz2, .int .i64 tz3, .slice Ao16 tz0.length co16] (0, 0) _ rfl (by refine p4 (.int .i64 0) (.int .i64 0) (.int .i64 0) (.slice none 0 0) ?_; refine f4 ?_ NBz8.out; exact BKz2.out) Try.underlying27 rfl (by kernel_rfl) (.tmp (.tmp .nil))))) rfl ?_
     exact ⟨_, _, _, _, by rfl, by exact Kd.Q_mono (Q4 (Kd.Q_far (p := ⟨gbz2, 3, none⟩) (Kd.Q_far (p := ⟨gbz2, 2, none⟩) (Kd.Q_far (p := ⟨gbz2, 1, none⟩) (Kd.Q_far (p := ⟨gbz2, 0, none⟩) (Kd.Q_types (Kd.Q_types HOz1.out BKz1.out (by decide)) BKz2.out (by decide)) (fun _ hk => hk.1.2) (.int .i64 xz0)) (fun _ hk => hk.1.2) (.int .i64 xz1)) (fun _ hk => hk.1.2) (.int .i64 xz2)) (fun _ hk => hk.1.2) (.slice Ao82 xz3.length co82)) (.int .i64 tz1) (.int .i64 tz2) (.int .i64 tz3) (.slice Ao16 tz0.length co16)) (fun _ hk => ⟨hk.1.1.1.1, ⟨hk.1.1.1.2.2, hk.1.1.2⟩⟩), by exact Kd.Q_mono (Q4 (Kd.Q_far (p := ⟨gbz2, 3, none⟩) (Kd.Q_far (p := ⟨gbz2, 2, none⟩) (Kd.Q_far (p := ⟨gbz2, 1, none⟩) (Kd.Q_far (p := ⟨gbz2, 0, none⟩) (Kd.Q_types (Kd.Q_types HOz0.out BKz1.out (by decide)) BKz2.out (by decide)) (fun _ hk => hk.1.2) (.int .i64 xz0)) (fun _ hk => hk.1.2) (.int .i64 xz1)) (fun _ hk => hk.1.2) (.int .i64 xz2)) (fun _ hk => hk.1.2) (.slice Ao82 xz3.length co82)) (.int .i64 tz1) (.int .i64 tz2) (.int .i64 tz3) (.slice Ao16 tz0.length co16)) (fun _ hk => ⟨hk.1.1.1.1, ⟨hk.1.1.1.2.2, hk.1.1.2⟩⟩), by exact Kd.N_mono (N4 (Kd.N_far (p := ⟨gbz2, 3, none⟩) (Kd.N_far (p := ⟨gbz2, 2, none⟩) (Kd.N_far (p := ⟨gbz2, 1, none⟩) (Kd.N_far (p := ⟨gbz2, 0, none⟩) (Kd.N_mono (Kd.N_mono HO_8.out (fun k_ hk => (⟨hk, hk.1.2.2.2.2.1⟩ : _ ∧ k_ ≠ gbz2))) (fun k_ hk => (⟨hk, hk.1.1.2.2.2.2.2.1⟩ : _ ∧ k_ ≠ gbz3))) (fun _ hk => hk.1.2) (.int .i64 xz0)) (fun _ hk => hk.1.2) (.int .i64 xz1)) (fun _ hk => hk.1.2) (.int .i64 xz2)) (fun _ hk => hk.1.2) (.slice Ao82 xz3.length co82)) (.int .i64 tz1) (.int .i64 tz2) (.int .i64 tz3) (.slice Ao16 tz0.length co16)) (fun _ hk => ⟨hk.1.1.1.1, ⟨hk.1.1.1.2.2.2.1, ⟨hk.1.1.1.2.2.1, hk.1.1.2⟩⟩⟩), by exact Kd.Q_mono (Q4 (Kd.Q_far (p := ⟨gbz2, 3, none⟩) (Kd.Q_far (p := ⟨gbz2, 2, none⟩) (Kd.Q_far (p := ⟨gbz2, 1, none⟩) (Kd.Q_far (p := ⟨gbz2, 0, none⟩) (Kd.Q_types (Kd.Q_types HOz8.out BKz1.out (by decide)) BKz2.out (by decide)) (fun _ hk => hk.1.2) (.int .i64 xz0)) (fun _ hk => hk.1.2) (.int .i64 xz1)) (fun _ hk => hk.1.2) (.int .i64 xz2)) (fun _ hk => hk.1.2) (.slice Ao82 xz3.length co82)) (.int .i64 tz1) (.int .i64 tz2) (.int .i64 tz3) (.slice Ao16 tz0.length co16)) (fun _ hk => ⟨hk.1.1.1.1.1.1, ⟨hk.1.1.2, hk.1.1.1.2⟩⟩), by repeat (with_reducible first | exact HB.out | refine below_set ?_ GEz1.out | refine below_set ?_ GEz2.out)⟩

end Go.Proofs.Ytnofkbbcbpjhfaa.Q

/- Plain words: numbers that do not wrap, elements of lists, rounds that are enough. -/
namespace Go.Proofs.Ytnofkbbcbpjhfaa.Pure
open Go.RowKit Go.Proofs.Ytnofkbbcbpjhfaa.Q Go.Proofs.YtnofkbbcbpjhfaaW.PrintWords Go.Proofs.YtnofkbbcbpjhfaaW.PrintLast Go.Proofs.YtnofkbbcbpjhfaaW.PrintMore
set_option linter.unusedVariables false
set_option linter.unusedSimpArgs false

theorem w64 {x : Int} (h1 : -9223372036854775808 ≤ x) (h2 : x ≤ 9223372036854775807) : wrap64 x = x := by unfold wrap64; omega
theorem w64n (n : Nat) (h : n < 9223372036854775807) : wrap64 ((n : Int) + 1) = ((n + 1 : Nat) : Int) := by unfold wrap64; omega
theorem rd_nat (l : List Int) (i : Nat) (h : i < l.length) : rd l (i : Int) = l[i] := by simp [rd, h]
theorem tdiv_nn (a b : Int) (h : 0 ≤ a) : Int.tdiv a b = a / b := Int.tdiv_eq_ediv_of_nonneg h
theorem tmod_nn (a b : Int) (h : 0 ≤ a) : Int.tmod a b = a % b := Int.tmod_eq_emod_of_nonneg h
theorem ev_of {α : Type} {g : Nat → Option α} {r : α} (K : Nat) (h : ∀ k, K < k → g k = some r) : Ev g r := ⟨K + 1, fun k hk => h k (by omega)⟩
theorem ev_const {α : Type} {o : Option α} {r : α} (h : o = some r) : Ev (fun _ => o) r := ⟨0, fun _ _ => h⟩
theorem ev_bind {α β : Type} {g : Nat → Option α} {f : Nat → α → Option β} {a : α} {r : β} (h : Ev g a) (k : Ev (fun n => f n a) r) : Ev (fun n => (g n).bind (f n)) r := Ev.bind h k
theorem ev_now {α β : Type} {o : Option α} {f : Nat → α → Option β} {a : α} {r : β} (h : o = some a) (k : Ev (fun n => f n a) r) : Ev (fun n => o.bind (f n)) r := Ev.bind (ev_const h) k
theorem ev_pos {α : Type} {c : Prop} [Decidable c] {f g : Nat → Option α} {r : α} (h : c) (k : Ev f r) : Ev (fun n => if c then f n else g n) r := by
 simpa [h] using k
theorem ev_neg {α : Type} {c : Prop} [Decidable c] {f g : Nat → Option α} {r : α} (h : ¬ c) (k : Ev g r) : Ev (fun n => if c then f n else g n) r := by
 simpa [h] using k
theorem mn_def (a b : Int) : mn a b = min a b := by unfold mn; omega
theorem mx_def (a b : Int) : mx a b = max a b := by unfold mx; omega
theorem ev_up {σ ρ : Type} (n : Nat) (L : Nat → Nat → σ → Option ρ) (Inv : Nat → σ → Prop) (F : Nat → σ → ρ)
  (step : ∀ i s, i < n → Inv i s → Ev (fun k => L k i s) (F i s) ∨ ∃ s', (∀ k, L (k + 1) i s = L k (i + 1) s') ∧ Inv (i + 1) s' ∧ F (i + 1) s' = F i s)
  (last : ∀ s, Inv n s → Ev (fun k => L k n s) (F n s)) :
  ∀ d i s, i + d = n → Inv i s → Ev (fun k => L k i s) (F i s) := by
 intro d
 induction d with
 | zero =>
  intro i s hi hinv
  have : i = n := by omega
  subst this
  exact last s hinv
 | succ d ih =>
  intro i s hi hinv
  rcases step i s (by omega) hinv with h | ⟨s', h, hi', hF⟩
  ·exact h
  ·rw [← hF]
   exact Ev.step h (ih (i + 1) s' (by omega) hi')
theorem ev_up2 {σ ρ : Type} (n : Nat) (L : Nat → Nat → σ → Option ρ) (Inv : Nat → σ → Prop) (F : Nat → σ → ρ)
  (step : ∀ i s, i < n → Inv i s → Ev (fun k => L k i s) (F i s) ∨ ∃ s', (∀ r, Ev (fun k => L k (i + 1) s') r → Ev (fun k => L k i s) r) ∧ Inv (i + 1) s' ∧ F (i + 1) s' = F i s)
  (last : ∀ s, Inv n s → Ev (fun k => L k n s) (F n s)) :
  ∀ d i s, i + d = n → Inv i s → Ev (fun k => L k i s) (F i s) := by
 intro d
 induction d with
 | zero =>
  intro i s hi hinv
  have : i = n := by omega
  subst this
  exact last s hinv
 | succ d ih =>
  intro i s hi hinv
  rcases step i s (by omega) hinv with h | ⟨s', h, hi', hF⟩
  ·exact h
  ·rw [← hF]
   exact h _ (ih (i + 1) s' (by omega) hi')
theorem ev_val {α : Type} {g : Nat → Option α} {r r' : α} (h : Ev g r) (e : r = r') : Ev g r' := e ▸ h
theorem take_set {α : Type} (s : List α) (i : Nat) (c : α) (h : i < s.length) : (s.set i c).take (i + 1) = s.take i ++ [c] := by
 rw [List.take_succ_eq_append_getElem (by simpa using h), List.take_set_of_le (Nat.le_refl i)]
 simp

/- Images: valid ones, as the program and the reference have it; copies of lists of numbers. -/

def byteI (n : Int) : Bool := decide (0 ≤ n) && decide (n ≤ 255)
def shapeI (w h p : Int) : Bool := decide (1 ≤ w ∧ w ≤ 16 ∧ 1 ≤ h ∧ h ≤ 16 ∧ 1 ≤ p ∧ p ≤ 4)
theorem shapeI_iff (w h p : Int) : shapeI w h p = true ↔ 1 ≤ w ∧ w ≤ 16 ∧ 1 ≤ h ∧ h ≤ 16 ∧ 1 ≤ p ∧ p ≤ 4 := by simp [shapeI]
def validI (w h p : Int) (d : List Int) : Bool := shapeI w h p && (decide ((d.length : Int) = w * h * p) && d.all byteI)
theorem validI_iff (w h p : Int) (d : List Int) : validI w h p d = true ↔ (1 ≤ w ∧ w ≤ 16 ∧ 1 ≤ h ∧ h ≤ 16 ∧ 1 ≤ p ∧ p ≤ 4) ∧ (d.length : Int) = w * h * p ∧ ∀ n ∈ d, 0 ≤ n ∧ n ≤ 255 := by
 simp [validI, shapeI_iff, byteI, and_assoc]
theorem shape_prod {w h p : Int} (hs : 1 ≤ w ∧ w ≤ 16 ∧ 1 ≤ h ∧ h ≤ 16 ∧ 1 ≤ p ∧ p ≤ 4) : 0 ≤ w * h ∧ w * h ≤ 256 ∧ 0 ≤ w * h * p ∧ w * h * p ≤ 1024 := by
 have h1 : 0 ≤ w * h := Int.mul_nonneg (by omega) (by omega)
 have h2 : w * h ≤ 16 * 16 := Int.mul_le_mul (by omega) (by omega) (by omega) (by omega)
 have h3 : 0 ≤ w * h * p := Int.mul_nonneg h1 (by omega)
 have h4 : w * h * p ≤ 256 * 4 := Int.mul_le_mul (by omega) (by omega) (by omega) (by omega)
 omega
theorem shape_wrap {w h p : Int} (hs : 1 ≤ w ∧ w ≤ 16 ∧ 1 ≤ h ∧ h ≤ 16 ∧ 1 ≤ p ∧ p ≤ 4) : wrap64 (wrap64 (w * h) * p) = w * h * p := by
 have := shape_prod hs
 rw [w64 (x := w * h) (by omega) (by omega), w64 (by omega) (by omega)]
theorem impl_isSide_eq (a : Int) : impl_isSide.f a = some (decide (1 ≤ a ∧ a ≤ 16)) := by
 unfold impl_isSide.f
 by_cases c : a ≥ 1
 ·rw [if_pos c]; congr 1; rw [decide_eq_decide]; omega
 ·rw [if_neg c, decide_eq_false (by omega)]
theorem impl_isShape_eq (w h p : Int) : impl_isShape.f w h p = some (shapeI w h p) := by
 unfold impl_isShape.f shapeI
 rw [impl_isSide_eq, impl_isSide_eq]
 simp only [Option.bind_some]
 by_cases c1 : 1 ≤ w ∧ w ≤ 16
 ·rw [if_pos (by simpa using c1)]
  by_cases c2 : 1 ≤ h ∧ h ≤ 16
  ·rw [if_pos (by simpa using c2)]
   by_cases c3 : p ≥ 1
   ·rw [if_pos c3]; congr 1; rw [decide_eq_decide]; omega
   ·rw [if_neg c3, decide_eq_false (by omega)]
  ·rw [if_neg (by simpa using c2), decide_eq_false (by omega)]
 ·rw [if_neg (by simpa using c1), decide_eq_false (by omega)]
theorem areBytesI_eq (l : List Int) : impl_areBytes.f l = some (l.all byteI) := by
 unfold impl_areBytes.f
 congr 1
 rw [List.not_any_eq_all_not]
 congr 1
 funext n
 unfold notByte byteI
 rw [Bool.eq_iff_iff]
 simp
theorem impl_isImage_eq (w h p : Int) (d : List Int) : impl_isImage.f w h p d = some (validI w h p d) := by
 unfold impl_isImage.f validI
 rw [impl_isShape_eq, areBytesI_eq]
 simp only [Option.bind_some]
 by_cases c : shapeI w h p = true
 ·rw [if_pos c, shape_wrap ((shapeI_iff w h p).1 c), c]
  by_cases e : (d.length : Int) = w * h * p
  ·rw [if_pos e, decide_eq_true e]; rfl
  ·rw [if_neg e, decide_eq_false e]; rfl
 ·rw [if_neg c, Bool.eq_false_iff.2 c]; rfl
theorem spec_inRangeI_eq (n a b : Int) : spec_inRange.f n a b = some (decide (a ≤ n) && decide (n ≤ b)) := by
 unfold spec_inRange.f
 by_cases c : a ≤ n
 ·rw [if_pos c, decide_eq_true c, Bool.true_and]
 ·rw [if_neg c, decide_eq_false c, Bool.false_and]
theorem spec_validShape_eq (w h p : Int) : spec_validShape.f w h p = some (shapeI w h p) := by
 unfold spec_validShape.f shapeI
 rw [spec_inRangeI_eq, spec_inRangeI_eq, spec_inRangeI_eq]
 simp only [Option.bind_some]
 by_cases c1 : 1 ≤ w ∧ w ≤ 16
 ·rw [if_pos (by simpa using c1)]
  by_cases c2 : 1 ≤ h ∧ h ≤ 16
  ·rw [if_pos (by simpa using c2)]; congr 1; rw [Bool.eq_iff_iff]; simp; omega
  ·rw [if_neg (by simpa using c2), decide_eq_false (by omega)]
 ·rw [if_neg (by simpa using c1), decide_eq_false (by omega)]
theorem spec_allInI_ev (l : List Int) (hl : l.length ≤ 1000000000000) : Ev (fun k => spec_allIn.f k l 0 255) (l.all byteI) := by
 have key := ev_up l.length (fun k i (_ : Unit) => spec_allIn.l0 k l 0 255 (i : Int)) (fun _ _ => True) (fun i _ => (l.drop i).all byteI)
  (by
   intro i s hi _
   have hd : (l.drop i).all byteI = (byteI l[i] && (l.drop (i + 1)).all byteI) := by rw [List.drop_eq_getElem_cons hi, List.all_cons]
   cases hb : byteI l[i] with
   | true =>
    right
    refine ⟨(), fun k => ?_, trivial, by rw [hd, hb, Bool.true_and]⟩
    simp only [spec_allIn.l0]
    rw [if_pos (by omega), if_pos (by omega), rd_nat l i hi, spec_inRangeI_eq]
    simp only [Option.bind_some]
    rw [if_pos (show (decide (0 ≤ l[i]) && decide (l[i] ≤ 255)) = true from hb), w64n i (by omega)]
   | false =>
    left
    rw [hd, hb, Bool.false_and]
    refine Ev.step (f := fun _ => some false) (fun k => ?_) (Ev.now false)
    simp only [spec_allIn.l0]
    rw [if_pos (by omega), if_pos (by omega), rd_nat l i hi, spec_inRangeI_eq]
    simp only [Option.bind_some]
    rw [if_neg (Bool.eq_false_iff.1 (show (decide (0 ≤ l[i]) && decide (l[i] ≤ 255)) = false from hb))])
  (by
   intro s _
   rw [List.drop_length]
   refine Ev.step (f := fun _ => some true) (fun k => ?_) (Ev.now true)
   simp only [spec_allIn.l0]
   rw [if_neg (by omega)])
  l.length 0 () (by omega) trivial
 unfold spec_allIn.f
 simpa using key
theorem spec_validImage_ev (w h p : Int) (d : List Int) (hl : d.length ≤ 1000000000000) : Ev (fun k => spec_validImage.f k w h p d) (validI w h p d) := by
 unfold spec_validImage.f validI
 refine ev_now (spec_validShape_eq w h p) ?_
 by_cases c : shapeI w h p = true
 ·refine ev_pos c ?_
  rw [shape_wrap ((shapeI_iff w h p).1 c), c, Bool.true_and]
  by_cases e : (d.length : Int) = w * h * p
  ·refine ev_pos e ?_
   rw [decide_eq_true e, Bool.true_and]
   exact ev_bind (spec_allInI_ev d hl) (Ev.now _)
  ·refine ev_neg e ?_
   rw [decide_eq_false e]
   exact Ev.now _
 ·refine ev_neg c ?_
  rw [Bool.eq_false_iff.2 c]
  exact Ev.now _

/- Two images of the same shape. -/

def sameV (w h p : Int) (d : List Int) (w' h' p' : Int) (d' : List Int) : Bool := validI w h p d && (validI w' h' p' d' && decide (w = w' ∧ h = h' ∧ p = p'))
theorem sameV_iff (w h p : Int) (d : List Int) (w' h' p' : Int) (d' : List Int) : sameV w h p d w' h' p' d' = true ↔ validI w h p d = true ∧ validI w' h' p' d' = true ∧ w = w' ∧ h = h' ∧ p = p' := by
 simp [sameV]
theorem alikeB (w h p w' h' p' : Int) : (if w = w' then (if h = h' then (some (p == p')) else (some false)) else (some false)) = some (decide (w = w' ∧ h = h' ∧ p = p')) := by
 by_cases c1 : w = w'
 ·rw [if_pos c1]
  by_cases c2 : h = h'
  ·rw [if_pos c2]
   by_cases c3 : p = p'
   ·rw [decide_eq_true (show w = w' ∧ h = h' ∧ p = p' from ⟨c1, c2, c3⟩), beq_iff_eq.2 c3]
   ·rw [decide_eq_false (by simp [c3]), beq_eq_false_iff_ne.2 c3]
  ·rw [if_neg c2, decide_eq_false (by simp [c2])]
 ·rw [if_neg c1, decide_eq_false (by simp [c1])]
theorem impl_alike_eq (w h p : Int) (d : List Int) (w' h' p' : Int) (d' : List Int) : impl_alikeImages.f w h p d w' h' p' d' = some (decide (w = w' ∧ h = h' ∧ p = p')) := by
 unfold impl_alikeImages.f
 exact alikeB w h p w' h' p'

/- What the program's and the reference's BlendNumber come to, over whole numbers alone. -/

def P255 (n : Int) : Int := (2 * n + 255) / 510
theorem part255_eq (n : Int) (h0 : 0 ≤ n) (h1 : n ≤ 10000000) : impl_part255.f n = some (P255 n) := by
 unfold impl_part255.f P255
 rw [w64 (x := 2 * n) (by omega) (by omega), w64 (x := 2 * n + 255) (by omega) (by omega), tdiv_nn _ _ (by omega), w64 (by omega) (by omega)]
theorem P255_range (n : Int) (h0 : 0 ≤ n) (h1 : n ≤ 65025) : 0 ≤ P255 n ∧ P255 n ≤ 255 := by unfold P255; omega
theorem prod_range (a b : Int) (ha : 0 ≤ a) (ha' : a ≤ 255) (hb : 0 ≤ b) (hb' : b ≤ 255) : 0 ≤ a * b ∧ a * b ≤ 65025 := by
 refine ⟨Int.mul_nonneg ha hb, ?_⟩
 have := Int.mul_le_mul ha' hb' hb (by omega : (0 : Int) ≤ 255)
 omega
def mixN (mode a b : Int) : Int :=
 if mode = 1 then P255 (a * b) else if mode = 2 then 255 - P255 ((255 - a) * (255 - b)) else if mode = 3 then min a b else if mode = 4 then max a b else b
theorem mixN_range (mode a b : Int) (ha : 0 ≤ a) (ha' : a ≤ 255) (hb : 0 ≤ b) (hb' : b ≤ 255) : 0 ≤ mixN mode a b ∧ mixN mode a b ≤ 255 := by
 have h1 := prod_range a b ha ha' hb hb'
 have h2 := prod_range (255 - a) (255 - b) (by omega) (by omega) (by omega) (by omega)
 have h3 := P255_range _ h1.1 h1.2
 have h4 := P255_range _ h2.1 h2.2
 unfold mixN
 split
 ·exact h3
 split
 ·omega
 split
 ·omega
 split
 ·omega
 ·omega
def coverN (mode a b alpha : Int) : Int := P255 (alpha * mixN mode a b + (255 - alpha) * a)
theorem cover_sum (m a alpha : Int) (ha : 0 ≤ a) (ha' : a ≤ 255) (hm : 0 ≤ m) (hm' : m ≤ 255) (h : 0 ≤ alpha) (h' : alpha ≤ 255) :
  255 * min a m ≤ alpha * m + (255 - alpha) * a ∧ alpha * m + (255 - alpha) * a ≤ 255 * max a m := by
 have e : (255 - alpha) * a = 255 * a - alpha * a := by rw [Int.sub_mul]
 rw [e]
 have k1 : alpha * m - alpha * a = alpha * (m - a) := by rw [Int.mul_sub]
 by_cases c : a ≤ m
 ·have i1 : 0 ≤ alpha * (m - a) := Int.mul_nonneg h (by omega)
  have i2 : alpha * (m - a) ≤ 255 * (m - a) := Int.mul_le_mul_of_nonneg_right h' (by omega)
  omega
 ·have i1 : 0 ≤ alpha * (a - m) := Int.mul_nonneg h (by omega)
  have i2 : alpha * (a - m) ≤ 255 * (a - m) := Int.mul_le_mul_of_nonneg_right h' (by omega)
  have k2 : alpha * m - alpha * a = -(alpha * (a - m)) := by rw [Int.mul_sub]; omega
  omega
theorem cover_between (mode a b alpha : Int) (ha : 0 ≤ a) (ha' : a ≤ 255) (hb : 0 ≤ b) (hb' : b ≤ 255) (h : 0 ≤ alpha) (h' : alpha ≤ 255) :
  min a (mixN mode a b) ≤ coverN mode a b alpha ∧ coverN mode a b alpha ≤ max a (mixN mode a b) := by
 have hm := mixN_range mode a b ha ha' hb hb'
 have hs := cover_sum (mixN mode a b) a alpha ha ha' hm.1 hm.2 h h'
 unfold coverN
 generalize mixN mode a b = m at *
 generalize alpha * m + (255 - alpha) * a = s at *
 unfold P255
 omega
theorem impl_sum (m a alpha : Int) (ha : 0 ≤ a) (ha' : a ≤ 255) (hm : 0 ≤ m) (hm' : m ≤ 255) (h : 0 ≤ alpha) (h' : alpha ≤ 255) :
  wrap64 (wrap64 (alpha * m) + wrap64 (wrap64 (255 - alpha) * a)) = alpha * m + (255 - alpha) * a ∧ 0 ≤ alpha * m + (255 - alpha) * a ∧ alpha * m + (255 - alpha) * a ≤ 65025 := by
 have h1 := prod_range alpha m h h' hm hm'
 have h2 := prod_range (255 - alpha) a (by omega) (by omega) ha ha'
 have h3 := cover_sum m a alpha ha ha' hm hm' h h'
 rw [w64 (x := 255 - alpha) (by omega) (by omega), w64 (x := alpha * m) (by omega) (by omega), w64 (x := (255 - alpha) * a) (by omega) (by omega), w64 (by omega) (by omega)]
 exact ⟨rfl, by omega, by omega⟩
theorem blended_eq (mode a b alpha : Int) (ha : 0 ≤ a) (ha' : a ≤ 255) (hb : 0 ≤ b) (hb' : b ≤ 255) (h : 0 ≤ alpha) (h' : alpha ≤ 255) :
  impl_blended.f mode a b alpha = some (coverN mode a b alpha) := by
 have p1 := prod_range a b ha ha' hb hb'
 have p2 := prod_range (255 - a) (255 - b) (by omega) (by omega) (by omega) (by omega)
 have hm := mixN_range mode a b ha ha' hb hb'
 have q1 := P255_range _ p1.1 p1.2
 have q2 := P255_range _ p2.1 p2.2
 unfold impl_blended.f coverN
 by_cases c1 : mode = 1
 ·rw [if_pos c1, w64 (by omega) (by omega), part255_eq _ p1.1 (by omega)]
  simp only [Option.bind_some]
  have e : mixN mode a b = P255 (a * b) := by simp [mixN, c1]
  rw [e]
  obtain ⟨s1, s2, s3⟩ := impl_sum (P255 (a * b)) a alpha ha ha' q1.1 q1.2 h h'
  rw [s1, part255_eq _ s2 (by omega)]; rfl
 rw [if_neg c1]
 by_cases c2 : mode = 2
 ·rw [if_pos c2, w64 (x := 255 - a) (by omega) (by omega), w64 (x := 255 - b) (by omega) (by omega), w64 (by omega) (by omega), part255_eq _ p2.1 (by omega)]
  simp only [Option.bind_some]
  have e : mixN mode a b = 255 - P255 ((255 - a) * (255 - b)) := by simp [mixN, c2]
  rw [e, w64 (x := 255 - P255 ((255 - a) * (255 - b))) (by omega) (by omega)]
  obtain ⟨s1, s2, s3⟩ := impl_sum (255 - P255 ((255 - a) * (255 - b))) a alpha ha ha' (by omega) (by omega) h h'
  rw [s1, part255_eq _ s2 (by omega)]; rfl
 rw [if_neg c2]
 by_cases c3 : mode = 3
 ·rw [if_pos c3]
  have e : mixN mode a b = mn a b := by simp [mixN, c3, mn_def]
  rw [e] at hm ⊢
  obtain ⟨s1, s2, s3⟩ := impl_sum (mn a b) a alpha ha ha' hm.1 hm.2 h h'
  rw [s1, part255_eq _ s2 (by omega)]; rfl
 rw [if_neg c3]
 by_cases c4 : mode = 4
 ·rw [if_pos c4]
  have e : mixN mode a b = mx a b := by simp [mixN, c4, mx_def]
  rw [e] at hm ⊢
  obtain ⟨s1, s2, s3⟩ := impl_sum (mx a b) a alpha ha ha' hm.1 hm.2 h h'
  rw [s1, part255_eq _ s2 (by omega)]; rfl
 rw [if_neg c4]
 have e : mixN mode a b = b := by simp [mixN, c1, c2, c3, c4]
 rw [e] at hm ⊢
 obtain ⟨s1, s2, s3⟩ := impl_sum b a alpha ha ha' hm.1 hm.2 h h'
 rw [s1, part255_eq _ s2 (by omega)]; rfl
theorem mix_eq (mode a b : Int) (ha : 0 ≤ a) (ha' : a ≤ 255) (hb : 0 ≤ b) (hb' : b ≤ 255) : spec_mix.f mode a b = some (mixN mode a b) := by
 have p1 := prod_range a b ha ha' hb hb'
 have p2 := prod_range (255 - a) (255 - b) (by omega) (by omega) (by omega) (by omega)
 have e1 : 2 * a * b = 2 * (a * b) := Int.mul_assoc ..
 have e2 : 2 * (255 - a) * (255 - b) = 2 * ((255 - a) * (255 - b)) := Int.mul_assoc ..
 unfold spec_mix.f mixN P255
 rw [mn_def, mx_def]
 repeat (split; · first
  | rfl
  | (rw [w64 (x := 2 * a) (by omega) (by omega), e1, w64 (x := 2 * (a * b)) (by omega) (by omega), w64 (x := 2 * (a * b) + 255) (by omega) (by omega), tdiv_nn _ _ (by omega), w64 (by omega) (by omega)])
  | (rw [w64 (x := 255 - a) (by omega) (by omega), w64 (x := 255 - b) (by omega) (by omega), w64 (x := 2 * (255 - a)) (by omega) (by omega), e2, w64 (x := 2 * ((255 - a) * (255 - b))) (by omega) (by omega), w64 (x := 2 * ((255 - a) * (255 - b)) + 255) (by omega) (by omega), tdiv_nn _ _ (by omega), w64 (x := (2 * ((255 - a) * (255 - b)) + 255) / 510) (by omega) (by omega), w64 (by omega) (by omega)]))
 rfl
theorem blend_eq (mode a b alpha : Int) (ha : 0 ≤ a) (ha' : a ≤ 255) (hb : 0 ≤ b) (hb' : b ≤ 255) (h : 0 ≤ alpha) (h' : alpha ≤ 255) :
  spec_blend.f mode a b alpha = some (coverN mode a b alpha) := by
 have hm := mixN_range mode a b ha ha' hb hb'
 unfold spec_blend.f coverN
 rw [mix_eq mode a b ha ha' hb hb']
 simp only [Option.bind_some]
 obtain ⟨s1, s2, s3⟩ := impl_sum (mixN mode a b) a alpha ha ha' hm.1 hm.2 h h'
 rw [s1]
 generalize alpha * mixN mode a b + (255 - alpha) * a = s at *
 unfold P255
 rw [w64 (x := 2 * s) (by omega) (by omega), w64 (x := 2 * s + 255) (by omega) (by omega), tdiv_nn _ _ (by omega), w64 (by omega) (by omega)]

/- Layers: valid ones, as the program and the reference have it; copies of a layer. -/

def layerV (w h p : Int) (d : List Int) (x y m a : Int) (pl : Int) : Bool := validI w h p d && decide (p = pl ∧ -16 ≤ x ∧ x ≤ 16 ∧ -16 ≤ y ∧ y ≤ 16 ∧ 0 ≤ m ∧ m ≤ 4 ∧ 0 ≤ a ∧ a ≤ 255)
theorem layerV_iff (w h p : Int) (d : List Int) (x y m a : Int) (pl : Int) : layerV w h p d x y m a pl = true ↔ validI w h p d = true ∧ p = pl ∧ -16 ≤ x ∧ x ≤ 16 ∧ -16 ≤ y ∧ y ≤ 16 ∧ 0 ≤ m ∧ m ≤ 4 ∧ 0 ≤ a ∧ a ≤ 255 := by simp [layerV]
theorem impl_isModeI_eq (m : Int) : impl_isMode.f m = some (decide (0 ≤ m ∧ m ≤ 4)) := by
 unfold impl_isMode.f
 by_cases c : m ≥ 0
 ·rw [if_pos c]; congr 1; rw [decide_eq_decide]; omega
 ·rw [if_neg c, decide_eq_false (by omega)]
theorem impl_isLayer_eq (w h p : Int) (d : List Int) (x y m a : Int) (b : Bool) (pl : Int) : impl_isLayer.f w h p d x y m a b pl = some (layerV w h p d x y m a pl) := by
 unfold impl_isLayer.f layerV
 rw [impl_isImage_eq, impl_isModeI_eq]
 simp only [Option.bind_some]
 by_cases c : validI w h p d = true
 ·rw [if_pos c, c, Bool.true_and]
  by_cases c1 : p = pl
  ·rw [if_pos c1]
   by_cases c2 : x ≥ -16
   ·rw [if_pos c2]
    by_cases c3 : x ≤ 16
    ·rw [if_pos c3]
     by_cases c4 : y ≥ -16
     ·rw [if_pos c4]
      by_cases c5 : y ≤ 16
      ·rw [if_pos c5]
       by_cases c6 : 0 ≤ m ∧ m ≤ 4
       ·rw [if_pos (by simpa using c6)]
        by_cases c7 : a ≥ 0
        ·rw [if_pos c7]; congr 1; rw [decide_eq_decide]; omega
        ·rw [if_neg c7, decide_eq_false (by omega)]
       ·rw [if_neg (by simpa using c6), decide_eq_false (by omega)]
      ·rw [if_neg c5, decide_eq_false (by omega)]
     ·rw [if_neg c4, decide_eq_false (by omega)]
    ·rw [if_neg c3, decide_eq_false (by omega)]
   ·rw [if_neg c2, decide_eq_false (by omega)]
  ·rw [if_neg c1, decide_eq_false (by omega)]
 ·rw [if_neg c, Bool.eq_false_iff.2 c, Bool.false_and]
theorem spec_validLayer_ev (w h p : Int) (d : List Int) (x y m a : Int) (b : Bool) (pl : Int) (hl : d.length ≤ 1000000000000) : Ev (fun k => spec_validLayer.f k w h p d x y m a b pl) (layerV w h p d x y m a pl) := by
 unfold spec_validLayer.f layerV
 refine ev_bind (spec_validImage_ev w h p d hl) ?_
 by_cases c : validI w h p d = true
 ·refine ev_pos c ?_
  rw [c, Bool.true_and]
  refine ev_const ?_
  rw [spec_inRangeI_eq, spec_inRangeI_eq, spec_inRangeI_eq, spec_inRangeI_eq]
  simp only [Option.bind_some]
  by_cases c1 : p = pl
  ·rw [if_pos c1]
   by_cases c2 : -16 ≤ x ∧ x ≤ 16
   ·rw [if_pos (by simpa using c2)]
    by_cases c3 : -16 ≤ y ∧ y ≤ 16
    ·rw [if_pos (by simpa using c3)]
     by_cases c4 : 0 ≤ m ∧ m ≤ 4
     ·rw [if_pos (by simpa using c4)]; congr 1; rw [Bool.eq_iff_iff]; simp; omega
     ·rw [if_neg (by simpa using c4), decide_eq_false (by omega)]
    ·rw [if_neg (by simpa using c3), decide_eq_false (by omega)]
   ·rw [if_neg (by simpa using c2), decide_eq_false (by omega)]
  ·rw [if_neg c1, decide_eq_false (by omega)]
 ·refine ev_neg c ?_
  rw [Bool.eq_false_iff.2 c, Bool.false_and]
  exact Ev.now _

/- Copies of a list of Box: they are the list. -/

abbrev Box := S47

/- The boxes of an image's tiles, as the program and the reference have them. -/

def colsOf (w : Nat) : Nat := (w + 3) / 4
def tileN (w h : Nat) (t : Nat) : Box := ⟨((t % colsOf w * 4 : Nat) : Int), ((t / colsOf w * 4 : Nat) : Int), mn 4 ((w : Int) - ((t % colsOf w * 4 : Nat) : Int)), mn 4 ((h : Int) - ((t / colsOf w * 4 : Nat) : Int))⟩
def tilesN (w h : Nat) (n : Nat) : List Box := (List.range n).map (tileN w h)
def tilesV (w h : Nat) : List Box := tilesN w h (colsOf w * colsOf h)
theorem tilesN_length (w h n : Nat) : (tilesN w h n).length = n := by simp [tilesN]
theorem tilesN_succ (w h n : Nat) : tilesN w h (n + 1) = tilesN w h n ++ [tileN w h n] := by simp [tilesN, List.range_succ]
theorem cols_bounds (w : Nat) (h1 : 1 ≤ w) (h2 : w ≤ 16) : 1 ≤ colsOf w ∧ colsOf w ≤ 4 := by unfold colsOf; omega
theorem tiles_count (w h : Nat) (h1 : 1 ≤ w) (h2 : w ≤ 16) (h3 : 1 ≤ h) (h4 : h ≤ 16) : 1 ≤ colsOf w * colsOf h ∧ colsOf w * colsOf h ≤ 16 := by
 have a := cols_bounds w h1 h2
 have b := cols_bounds h h3 h4
 have := Nat.mul_le_mul a.2 b.2
 have := Nat.mul_le_mul a.1 b.1
 omega
theorem tileN_at (w h r c : Nat) (hc : c < colsOf w) : tileN w h (r * colsOf w + c) = ⟨((c * 4 : Nat) : Int), ((r * 4 : Nat) : Int), mn 4 ((w : Int) - ((c * 4 : Nat) : Int)), mn 4 ((h : Int) - ((r * 4 : Nat) : Int))⟩ := by
 have e1 : (r * colsOf w + c) % colsOf w = c := by rw [Nat.mul_comm, Nat.mul_add_mod, Nat.mod_eq_of_lt hc]
 have e2 : (r * colsOf w + c) / colsOf w = r := by rw [Nat.mul_comm, Nat.mul_add_div (by omega), Nat.div_eq_of_lt hc, Nat.add_zero]
 unfold tileN
 rw [e1, e2]
theorem impl_tileBoxes_ev (w h : Nat) (p : Int) (d : List Int) (h1 : 1 ≤ w) (h2 : w ≤ 16) (h3 : 1 ≤ h) (h4 : h ≤ 16) : Ev (fun k => impl_tileBoxes.f k w h p d) (tilesV w h) := by
 have hc := cols_bounds w h1 h2
 have hr := cols_bounds h h3 h4
 have key := ev_up2 (colsOf h) (fun k r (s : List Box) => impl_tileBoxes.l0 k s ((r * 4 : Nat) : Int) w h p d) (fun r s => s = tilesN w h (r * colsOf w)) (fun _ _ => tilesV w h)
  (by
   intro r s hrr hs
   right
   refine ⟨tilesN w h ((r + 1) * colsOf w), fun R hR => ?_, rfl, rfl⟩
   have inner := ev_up2 (colsOf w) (fun k c (s : List Box) => impl_tileBoxes.l1 k s ((r * 4 : Nat) : Int) ((c * 4 : Nat) : Int) w h p d) (fun c s => s = tilesN w h (r * colsOf w + c)) (fun _ _ => R)
    (by
     intro c s hcc hs
     right
     refine ⟨tilesN w h (r * colsOf w + (c + 1)), fun R' hR' => ?_, rfl, rfl⟩
     refine Ev.step (fun k => ?_) hR'
     have hlen : s.length = r * colsOf w + c := by rw [hs, tilesN_length]
     have hm : r * colsOf w ≤ 4 * 4 := Nat.mul_le_mul (by omega) hc.2
     have hcw : c * 4 < w := by unfold colsOf at hcc; omega
     have hrh : r * 4 < h := by unfold colsOf at hrr; omega
     simp only [impl_tileBoxes.l1]
     rw [if_pos (by omega), if_pos (by omega), w64 (x := ((c * 4 : Nat) : Int) + 4) (by omega) (by omega), w64 (x := (w : Int) - ((c * 4 : Nat) : Int)) (by omega) (by omega), w64 (x := (h : Int) - ((r * 4 : Nat) : Int)) (by omega) (by omega), ← Nat.add_assoc, tilesN_succ, tileN_at w h r c hcc, ← hs, show ((c * 4 : Nat) : Int) + 4 = (((c + 1) * 4 : Nat) : Int) by omega])
    (by
     intro s hs
     refine Ev.step (fun k => ?_) (show Ev (fun k => impl_tileBoxes.l0 k s (((r + 1) * 4 : Nat) : Int) w h p d) R from by rw [hs, ← Nat.succ_mul]; exact hR)
     have hcw : ¬ colsOf w * 4 < w := by unfold colsOf; omega
     simp only [impl_tileBoxes.l1]
     rw [if_neg (by omega), w64 (x := ((r * 4 : Nat) : Int) + 4) (by omega) (by omega), show ((r * 4 : Nat) : Int) + 4 = (((r + 1) * 4 : Nat) : Int) by omega])
    (colsOf w) 0 s (by omega) (by rw [hs, Nat.add_zero])
   have inner' : Ev (fun k => impl_tileBoxes.l1 k s ((r * 4 : Nat) : Int) 0 w h p d) R := inner
   refine Ev.step (fun k => ?_) inner'
   have hrh : r * 4 < h := by unfold colsOf at hrr; omega
   simp only [impl_tileBoxes.l0]
   rw [if_pos (by omega)])
  (by
   intro s hs
   refine Ev.step (f := fun _ => some s) (fun k => ?_) (ev_const ?_)
   ·have hrh : ¬ colsOf h * 4 < h := by unfold colsOf; omega
    simp only [impl_tileBoxes.l0]
    rw [if_neg (by omega)]
   ·rw [hs, Nat.mul_comm]; rfl)
  (colsOf h) 0 [] (by omega) (by simp [tilesN])
 unfold impl_tileBoxes.f
 simpa using key
theorem colsI (w : Nat) (h2 : w ≤ 16) : wrap64 (Int.tdiv (wrap64 ((wrap64 ((w : Int) + 4)) - 1)) 4) = ((colsOf w : Nat) : Int) := by
 rw [w64 (x := (w : Int) + 4) (by omega) (by omega), w64 (x := (w : Int) + 4 - 1) (by omega) (by omega), tdiv_nn _ _ (by omega), w64 (by omega) (by omega)]
 unfold colsOf
 omega
theorem spec_tileCount_eq (w h : Nat) (p : Int) (d : List Int) (h1 : 1 ≤ w) (h2 : w ≤ 16) (h3 : 1 ≤ h) (h4 : h ≤ 16) : spec_tileCount.f w h p d = some ((colsOf w * colsOf h : Nat) : Int) := by
 have := tiles_count w h h1 h2 h3 h4
 unfold spec_tileCount.f
 rw [colsI w h2, colsI h h4, ← Int.natCast_mul, w64 (by omega) (by omega)]
theorem spec_tileBox_eq (w h : Nat) (p : Int) (d : List Int) (t : Nat) (h1 : 1 ≤ w) (h2 : w ≤ 16) (h3 : 1 ≤ h) (h4 : h ≤ 16) (ht : t < 1000) : spec_tileBox.f w h p d t = some ((tileN w h t).f0, (tileN w h t).f1, (tileN w h t).f2, (tileN w h t).f3) := by
 have hc := cols_bounds w h1 h2
 have hm : t % colsOf w < colsOf w := Nat.mod_lt _ (by omega)
 have hd : t / colsOf w ≤ t := Nat.div_le_self _ _
 have e1 : Int.tmod (t : Int) ((colsOf w : Nat) : Int) = ((t % colsOf w : Nat) : Int) := by rw [tmod_nn _ _ (by omega)]; rfl
 have e2 : Int.tdiv (t : Int) ((colsOf w : Nat) : Int) = ((t / colsOf w : Nat) : Int) := by rw [tdiv_nn _ _ (by omega)]; rfl
 unfold spec_tileBox.f tileN
 rw [colsI w h2, if_neg (by omega), e1, e2]
 generalize t % colsOf w = a at *
 generalize t / colsOf w = b at *
 rw [w64 (x := ((b : Nat) : Int)) (by omega) (by omega), w64 (x := ((b : Nat) : Int) * 4) (by omega) (by omega), w64 (x := ((a : Nat) : Int) * 4) (by omega) (by omega), w64 (x := (w : Int) - ((a : Nat) : Int) * 4) (by omega) (by omega), w64 (x := (h : Int) - ((b : Nat) : Int) * 4) (by omega) (by omega)]
 simp
def tilesOf (w h p : Int) (d : List Int) : List Box := if validI w h p d = true then tilesV w.toNat h.toNat else []

/- The reader of draws: whatever the code's bytes are, it answers, in range. -/

/-- What a reader reads from: at most 2000 bytes. -/
def Bytes (b : List Int) : Prop := b.length ≤ 2000 ∧ ∀ x ∈ b, 0 ≤ x ∧ x ≤ 255
theorem Bytes.rd_ {b : List Int} (h : Bytes b) (i : Int) : 0 ≤ rd b i ∧ rd b i ≤ 255 := by
  unfold rd
  by_cases c : i.toNat < b.length
  · rw [List.getD_eq_getElem?_getD, List.getElem?_eq_getElem c]; exact h.2 _ (List.getElem_mem c)
  · rw [List.getD_eq_getElem?_getD, List.getElem?_eq_none (by omega)]; simp
theorem xor_nn (a b : Int) (ha : 0 ≤ a) (ha' : a < 4611686018427387904) (hb : 0 ≤ b) (hb' : b < 4611686018427387904) : 0 ≤ Go.bits .xor .i64 a b := by
  obtain ⟨a, rfl⟩ := Int.eq_ofNat_of_zero_le ha
  obtain ⟨b, rfl⟩ := Int.eq_ofNat_of_zero_le hb
  have ha2 : a < 2 ^ 62 := by have : (2 : Nat) ^ 62 = 4611686018427387904 := by decide +kernel
                              omega
  have hb2 : b < 2 ^ 62 := by have : (2 : Nat) ^ 62 = 4611686018427387904 := by decide +kernel
                              omega
  have e64 : IntKind.bits .i64 = 64 := rfl
  have hx := Nat.xor_lt_two_pow ha2 hb2
  have h62 : (2 : Nat) ^ 62 = 4611686018427387904 := by decide +kernel
  have h64 : (2 : Nat) ^ 64 = 18446744073709551616 := by decide +kernel
  simp only [Go.bits, BitVec.ofInt_natCast, BitVec.toNat_xor, BitVec.toNat_ofNat, e64]
  rw [Nat.mod_eq_of_lt (by omega), Nat.mod_eq_of_lt (by omega), IntKind.wrap_i64]
  generalize a ^^^ b = z at *
  omega
theorem tmod_range (x n : Int) (hx : 0 ≤ x) (hn : 1 ≤ n) : 0 ≤ Int.tmod x n ∧ Int.tmod x n < n := by
  rw [tmod_nn _ _ hx]
  exact ⟨Int.emod_nonneg _ (by omega), Int.emod_lt_of_pos _ (by omega)⟩
theorem pick_at (b : List Int) (p n : Int) (hb : Bytes b) (hp0 : 0 ≤ p) (hp : p ≤ 1000000000000) :
    ∃ v, (∀ k, 0 < k → spec_reader_pick.f k b p n = some (v, p + 1)) ∧ 0 ≤ v ∧ (1 ≤ n → v < n) ∧ (n < 1 → v = 0) := by
  by_cases hn : n < 1
  · refine ⟨0, fun k hk => ?_, by omega, by omega, fun _ => rfl⟩
    obtain ⟨k, rfl⟩ : ∃ m, k = m + 1 := ⟨k - 1, by omega⟩
    unfold spec_reader_pick.f
    rw [if_pos hn, w64 (by omega) (by omega)]
    simp only [spec_reader_pick.j0, if_true]
  by_cases he : b.length = 0
  · refine ⟨0, fun k hk => ?_, by omega, by omega, fun _ => rfl⟩
    obtain ⟨k, rfl⟩ : ∃ m, k = m + 1 := ⟨k - 1, by omega⟩
    unfold spec_reader_pick.f
    rw [if_neg hn, w64 (by omega) (by omega)]
    simp only [spec_reader_pick.j0, he]; simp
  have hlen := hb.1
  by_cases hlt : p < (b.length : Int)
  · have hr := hb.rd_ p
    have ht := tmod_range (rd b p) n hr.1 (by omega)
    refine ⟨Int.tmod (rd b p) n, fun k hk => ?_, ht.1, fun _ => ht.2, by omega⟩
    obtain ⟨k, rfl⟩ : ∃ m, k = m + 1 := ⟨k - 1, by omega⟩
    unfold spec_reader_pick.f
    rw [if_neg hn, w64 (x := p + 1) (by omega) (by omega)]
    simp only [spec_reader_pick.j0]
    rw [if_neg (by simp only [beq_iff_eq]; omega), w64 (x := p + 1 - 1) (by omega) (by omega), show p + 1 - 1 = p by omega, if_pos hlt, if_pos hp0, if_neg (by omega), w64 (x := rd b p) (by omega) (by omega)]
  · have h1 := tmod_range p (b.length : Int) hp0 (by omega)
    have h2 := tmod_range (p * 7 + 3) (b.length : Int) (by omega) (by omega)
    have r1 := hb.rd_ (Int.tmod p (b.length : Int))
    have r2 := hb.rd_ (Int.tmod (p * 7 + 3) (b.length : Int))
    have hd : 0 ≤ Int.tdiv p (b.length : Int) ∧ Int.tdiv p (b.length : Int) ≤ p := by
      rw [tdiv_nn _ _ hp0]
      exact ⟨Int.ediv_nonneg hp0 (by omega), Int.ediv_le_self _ hp0⟩
    generalize h1e : Int.tmod p (b.length : Int) = t1 at *
    generalize h2e : Int.tmod (p * 7 + 3) (b.length : Int) = t2 at *
    generalize hde : Int.tdiv p (b.length : Int) = d at *
    generalize hr1e : rd b t1 = x1 at *
    generalize hr2e : rd b t2 = x2 at *
    have hx := xor_nn (x1 * 131 + x2 * 1117 + p * 29 + d * 53) ((x1 * 131 + x2 * 1117 + p * 29 + d * 53) / 64) (by omega) (by omega) (by omega) (by omega)
    have ht := tmod_range _ n hx (by omega)
    refine ⟨Int.tmod (Go.bits .xor .i64 (x1 * 131 + x2 * 1117 + p * 29 + d * 53) ((x1 * 131 + x2 * 1117 + p * 29 + d * 53) / 64)) n, fun k hk => ?_, ht.1, fun _ => ht.2, by omega⟩
    obtain ⟨k, rfl⟩ : ∃ m, k = m + 1 := ⟨k - 1, by omega⟩
    unfold spec_reader_pick.f
    rw [if_neg hn, w64 (x := p + 1) (by omega) (by omega)]
    simp only [spec_reader_pick.j0]
    rw [if_neg (by simp only [beq_iff_eq]; omega), w64 (x := p + 1 - 1) (by omega) (by omega), show p + 1 - 1 = p by omega, if_neg hlt, if_neg (by omega),
      w64 (x := p * 7) (by omega) (by omega), w64 (x := p * 7 + 3) (by omega) (by omega), h1e, h2e, hde, hr1e, hr2e, if_pos (by omega), if_pos (by omega), if_pos (by omega), if_pos (by omega), if_neg (by omega),
      w64 (x := x1) (by omega) (by omega), w64 (x := x2) (by omega) (by omega), w64 (x := d) (by omega) (by omega), w64 (x := x1 * 131) (by omega) (by omega), w64 (x := x2 * 1117) (by omega) (by omega), w64 (x := p * 29) (by omega) (by omega), w64 (x := d * 53) (by omega) (by omega),
      w64 (x := x1 * 131 + x2 * 1117) (by omega) (by omega), w64 (x := x1 * 131 + x2 * 1117 + p * 29) (by omega) (by omega), w64 (x := x1 * 131 + x2 * 1117 + p * 29 + d * 53) (by omega) (by omega), tdiv_nn _ 64 (by omega),
      w64 (x := (x1 * 131 + x2 * 1117 + p * 29 + d * 53) / 64) (by omega) (by omega)]
theorem one_at (b : List Int) (p : Int) (l : List Int) (hl : 0 < l.length) (hl' : l.length ≤ 1000) (hb : Bytes b) (hp0 : 0 ≤ p) (hp : p ≤ 1000000000000) :
    ∃ v, (∀ k, 0 < k → spec_reader_one.f k b p l = some (v, p + 1)) ∧ v ∈ l := by
  obtain ⟨v, hv, h0, h1, _⟩ := pick_at b p (l.length : Int) hb hp0 hp
  have h1' := h1 (by omega)
  obtain ⟨v, rfl⟩ := Int.eq_ofNat_of_zero_le h0
  refine ⟨l[v]'(by omega), fun k hk => ?_, List.getElem_mem _⟩
  unfold spec_reader_one.f
  rw [hv k hk]
  simp only [Option.bind_some]
  rw [if_pos (by omega), if_pos (by omega), rd_nat l v (by omega)]
theorem newReader_at (l : List Int) (h : ∀ x ∈ l, 0 ≤ x ∧ x ≤ 255) : ∃ b, spec_newReader.f l = some (b, 0) ∧ Bytes b := by
  unfold spec_newReader.f
  by_cases c : (l.length : Int) > 2000
  · rw [if_pos c, if_pos (by omega)]
    exact ⟨_, rfl, by rw [List.length_take]; omega, fun x hx => h x (List.mem_of_mem_take hx)⟩
  · rw [if_neg c]
    exact ⟨_, rfl, by omega, h⟩
/-- What a law is told of its code: bytes. -/
theorem code_bytes (l : List Int) (h : ∀ x ∈ l, (Lit.int .u8 x).wf = true) : ∀ x ∈ l, 0 ≤ x ∧ x ≤ 255 := by
  intro x hx
  have := h x hx
  simp only [Lit.wf, Bool.and_eq_true, decide_eq_true_eq] at this
  have e1 : IntKind.min .u8 = 0 := by decide
  have e2 : IntKind.max .u8 = 255 := by decide
  omega

/- Images that are drawn from bytes. -/

theorem one_in (b : List Int) (p : Int) (l : List Int) (hl : 0 < l.length) (hl' : l.length ≤ 1000) (hb : Bytes b) (hp0 : 0 ≤ p) (hp : p ≤ 1000000000000) : ∃ v, Ev (fun k => spec_reader_one.f k b p l) (v, p + 1) ∧ v ∈ l := by
 obtain ⟨v, h, hv⟩ := one_at b p l hl hl' hb hp0 hp
 exact ⟨v, ev_of 0 h, hv⟩
theorem pick_in (b : List Int) (p n : Int) (hn : 1 ≤ n) (hb : Bytes b) (hp0 : 0 ≤ p) (hp : p ≤ 1000000000000) : ∃ v, Ev (fun k => spec_reader_pick.f k b p n) (v, p + 1) ∧ 0 ≤ v ∧ v < n := by
 obtain ⟨v, h, h0, h1, _⟩ := pick_at b p n hb hp0 hp
 exact ⟨v, ev_of 0 h, h0, h1 hn⟩
theorem newImage_eq (w h p : Int) (hs : 1 ≤ w ∧ w ≤ 16 ∧ 1 ≤ h ∧ h ≤ 16 ∧ 1 ≤ p ∧ p ≤ 4) : spec_newImage.f w h p = some (w, h, p, List.replicate (w * h * p).toNat 0) := by
 have := shape_prod hs
 unfold spec_newImage.f
 rw [shape_wrap hs, if_pos (by omega), if_pos (by omega)]
theorem randomLoop (b : List Int) (hb : Bytes b) (m : Int) (w h p : Int) : ∀ (n i : Nat) (x pos : Int) (d : List Int), i + n = d.length → 0 ≤ pos → pos + n ≤ 1000000000000 → d.length ≤ 1000000 →
  ∃ (d' : List Int) (q : Int), d'.length = d.length ∧ pos ≤ q ∧ q ≤ pos + n ∧ Ev (fun k => spec_randomImage.l0 k m x (i : Int) b pos w h p d) (w, h, p, d', q) := by
 intro n
 induction n with
 | zero =>
  intro i x pos d hi h0 h1 h2
  refine ⟨d, pos, rfl, by omega, by omega, ?_⟩
  refine Ev.step (f := fun _ => some (w, h, p, d, pos)) (fun k => ?_) (Ev.now _)
  simp only [spec_randomImage.l0]
  rw [if_neg (by omega)]
 | succ n ih =>
  intro i x pos d hi h0 h1 h2
  have go : ∀ (v x' pos' : Int), pos ≤ pos' → pos' ≤ pos + 1 → ∃ (d' : List Int) (q : Int), d'.length = d.length ∧ pos ≤ q ∧ q ≤ pos + ((n + 1 : Nat) : Int) ∧ Ev (fun k => spec_randomImage.l0 k m x' ((i + 1 : Nat) : Int) b pos' w h p (d.set i v)) (w, h, p, d', q) := by
   intro v x' pos' a1 a2
   obtain ⟨d', q, e1, e2, e3, e4⟩ := ih (i + 1) x' pos' (d.set i v) (by rw [List.length_set]; omega) (by omega) (by omega) (by rw [List.length_set]; omega)
   exact ⟨d', q, by rw [e1, List.length_set], by omega, by omega, e4⟩
  by_cases c0 : m = 0
  ·obtain ⟨v, hv, _, _⟩ := pick_in b pos 256 (by omega) hb h0 (by omega)
   obtain ⟨d', q, e1, e2, e3, e4⟩ := go v v (pos + 1) (by omega) (by omega)
   refine ⟨d', q, e1, e2, e3, ?_⟩
   refine Ev.step (f := fun k => (spec_reader_pick.f k b pos 256).bind fun bt => if 0 ≤ (i : Int) then spec_randomImage.l0 k m bt.1 (wrap64 ((i : Int) + 1)) b bt.2 w h p (d.set (i : Int).toNat bt.1) else none) (fun k => ?_) ?_
   ·simp only [spec_randomImage.l0]
    rw [if_pos (by omega), if_pos c0]
   ·refine ev_bind hv (ev_pos (by omega) ?_)
    simp only [Int.toNat_natCast, w64n i (by omega)]
    exact e4
  ·by_cases c1 : m = 1
   ·obtain ⟨v, hv, _, _⟩ := pick_in b pos 5 (by omega) hb h0 (by omega)
    obtain ⟨d', q, e1, e2, e3, e4⟩ := go (Int.tmod (wrap64 ((wrap64 (x + v)) + 254)) 256) (Int.tmod (wrap64 ((wrap64 (x + v)) + 254)) 256) (pos + 1) (by omega) (by omega)
    refine ⟨d', q, e1, e2, e3, ?_⟩
    refine Ev.step (f := fun k => (spec_reader_pick.f k b pos 5).bind fun bt => if 0 ≤ (i : Int) then spec_randomImage.l0 k m (Int.tmod (wrap64 ((wrap64 (x + bt.1)) + 254)) 256) (wrap64 ((i : Int) + 1)) b bt.2 w h p (d.set (i : Int).toNat (Int.tmod (wrap64 ((wrap64 (x + bt.1)) + 254)) 256)) else none) (fun k => ?_) ?_
    ·simp only [spec_randomImage.l0]
     rw [if_pos (by omega), if_neg c0, if_pos c1]
    ·refine ev_bind hv (ev_pos (by omega) ?_)
     simp only [Int.toNat_natCast, w64n i (by omega)]
     exact e4
   ·by_cases c2 : m = 2
    ·obtain ⟨v, hv, _, _⟩ := pick_in b pos 4 (by omega) hb h0 (by omega)
     obtain ⟨d', q, e1, e2, e3, e4⟩ := go (wrap64 (60 * v)) (wrap64 (60 * v)) (pos + 1) (by omega) (by omega)
     refine ⟨d', q, e1, e2, e3, ?_⟩
     refine Ev.step (f := fun k => (spec_reader_pick.f k b pos 4).bind fun bt => if 0 ≤ (i : Int) then spec_randomImage.l0 k m (wrap64 (60 * bt.1)) (wrap64 ((i : Int) + 1)) b bt.2 w h p (d.set (i : Int).toNat (wrap64 (60 * bt.1))) else none) (fun k => ?_) ?_
     ·simp only [spec_randomImage.l0]
      rw [if_pos (by omega), if_neg c0, if_neg c1, if_pos c2]
     ·refine ev_bind hv (ev_pos (by omega) ?_)
      simp only [Int.toNat_natCast, w64n i (by omega)]
      exact e4
    ·obtain ⟨d', q, e1, e2, e3, e4⟩ := go x x pos (by omega) (by omega)
     refine ⟨d', q, e1, e2, e3, Ev.step (fun k => ?_) e4⟩
     simp only [spec_randomImage.l0]
     rw [if_pos (by omega), if_neg c0, if_neg c1, if_neg c2, if_pos (by omega), Int.toNat_natCast, w64n i (by omega)]
theorem randomImage_ev (b : List Int) (pos p : Int) (hb : Bytes b) (h0 : 0 ≤ pos) (h1 : pos ≤ 100000000) (hp : 1 ≤ p ∧ p ≤ 4) :
  ∃ (w h : Int) (d : List Int) (q : Int), 1 ≤ w ∧ w ≤ 8 ∧ 1 ≤ h ∧ h ≤ 8 ∧ (d.length : Int) = w * h * p ∧ 1 ≤ d.length ∧ d.length ≤ 1024 ∧ pos ≤ q ∧ q ≤ pos + 2000 ∧ Ev (fun k => spec_randomImage.f k b pos p) (w, h, p, d, q) := by
 obtain ⟨w, hw, mw⟩ := one_in b pos [3, 4, 2, 5, 1, 8, 6] (by simp) (by simp) hb h0 (by omega)
 obtain ⟨h, hh, mh⟩ := one_in b (pos + 1) [3, 2, 4, 1, 5, 8] (by simp) (by simp) hb (by omega) (by omega)
 obtain ⟨m, hm, _, _⟩ := pick_in b (pos + 1 + 1) 4 (by omega) hb (by omega) (by omega)
 obtain ⟨x, hx, _, _⟩ := pick_in b (pos + 1 + 1 + 1) 256 (by omega) hb (by omega) (by omega)
 have bw : 1 ≤ w ∧ w ≤ 8 := by simp only [List.mem_cons, List.not_mem_nil, or_false] at mw; omega
 have bh : 1 ≤ h ∧ h ≤ 8 := by simp only [List.mem_cons, List.not_mem_nil, or_false] at mh; omega
 have hs : 1 ≤ w ∧ w ≤ 16 ∧ 1 ≤ h ∧ h ≤ 16 ∧ 1 ≤ p ∧ p ≤ 4 := by omega
 have hpr := shape_prod hs
 have hpos : 1 ≤ w * h * p := by
  have e1 : 1 * 1 ≤ w * h := Int.mul_le_mul (by omega) (by omega) (by omega) (by omega)
  have e2 : 1 * 1 ≤ w * h * p := Int.mul_le_mul (by omega) (by omega) (by omega) (by omega)
  omega
 have hlen : (List.replicate (w * h * p).toNat (0 : Int)).length = (w * h * p).toNat := List.length_replicate
 obtain ⟨d', q, e1, e2, e3, e4⟩ := randomLoop b hb m w h p (w * h * p).toNat 0 x (pos + 1 + 1 + 1 + 1) (List.replicate (w * h * p).toNat 0) (by omega) (by omega) (by omega) (by omega)
 refine ⟨w, h, d', q, bw.1, bw.2, bh.1, bh.2, by omega, by omega, by omega, by omega, by omega, ?_⟩
 unfold spec_randomImage.f
 exact ev_bind hw (ev_bind hh (ev_now (newImage_eq w h p hs) (ev_bind hm (ev_bind hx e4))))
theorem anyPlanes_ev (b : List Int) (pos : Int) (hb : Bytes b) (h0 : 0 ≤ pos) (h1 : pos ≤ 100000000) : ∃ p, 1 ≤ p ∧ p ≤ 4 ∧ Ev (fun k => spec_anyPlanes.f k b pos) (p, pos + 1) := by
 obtain ⟨p, hp, mp⟩ := one_in b pos [1, 3, 1, 4, 2] (by simp) (by simp) hb h0 (by omega)
 simp only [List.mem_cons, List.not_mem_nil, or_false] at mp
 refine ⟨p, by omega, by omega, ?_⟩
 unfold spec_anyPlanes.f
 exact ev_bind hp (Ev.now _)
theorem spoilImage_ev (b : List Int) (pos : Int) (w h p : Int) (d : List Int) (hb : Bytes b) (h0 : 0 ≤ pos) (h1 : pos ≤ 100000000) (hd : 1 ≤ d.length) :
  ∃ (w' h' p' : Int) (d' : List Int) (q : Int), d'.length ≤ d.length ∧ pos ≤ q ∧ q ≤ pos + 2 ∧ Ev (fun k => spec_spoilImage.f k b pos w h p d) (w', h', p', d', q) := by
 obtain ⟨v, hv, _, _⟩ := pick_in b pos 40 (by omega) hb h0 (by omega)
 unfold spec_spoilImage.f
 by_cases c0 : v = 0
 ·obtain ⟨x, hx, _⟩ := one_in b (pos + 1) [0, 17, wrap64 (w + 1)] (by simp) (by simp) hb (by omega) (by omega)
  exact ⟨x, h, p, d, pos + 1 + 1, by omega, by omega, by omega, ev_bind hv (ev_pos c0 (ev_bind hx (Ev.now _)))⟩
 ·by_cases c1 : v = 1
  ·exact ⟨w, h, p, d.drop (1 : Int).toNat, pos + 1, by rw [List.length_drop]; omega, by omega, by omega, ev_bind hv (ev_neg c0 (ev_pos c1 (ev_pos (by omega) (Ev.now _))))⟩
  ·by_cases c2 : v = 2
   ·obtain ⟨x, hx, _⟩ := one_in b (pos + 1) [(-1), 256] (by simp) (by simp) hb (by omega) (by omega)
    exact ⟨w, h, p, d.set (0 : Int).toNat x, pos + 1 + 1, by rw [List.length_set]; omega, by omega, by omega, ev_bind hv (ev_neg c0 (ev_neg c1 (ev_pos c2 (ev_bind hx (ev_pos (by omega) (Ev.now _))))))⟩
   ·by_cases c3 : v = 3
    ·obtain ⟨x, hx, _⟩ := one_in b (pos + 1) [0, 5] (by simp) (by simp) hb (by omega) (by omega)
     exact ⟨w, h, x, d, pos + 1 + 1, by omega, by omega, by omega, ev_bind hv (ev_neg c0 (ev_neg c1 (ev_neg c2 (ev_pos c3 (ev_bind hx (Ev.now _))))))⟩
    ·exact ⟨w, h, p, d, pos + 1, by omega, by omega, by omega, ev_bind hv (ev_neg c0 (ev_neg c1 (ev_neg c2 (ev_neg c3 (Ev.now _)))))⟩
theorem anyImage_ev (b : List Int) (pos : Int) (hb : Bytes b) (h0 : 0 ≤ pos) (h1 : pos ≤ 90000000) :
  ∃ (w h p : Int) (d : List Int) (q : Int), d.length ≤ 1024 ∧ pos ≤ q ∧ q ≤ pos + 3000 ∧ Ev (fun k => spec_anyImage.f k b pos) (w, h, p, d, q) := by
 obtain ⟨p, p1, p2, hp⟩ := anyPlanes_ev b pos hb h0 (by omega)
 obtain ⟨w, h, d, q, _, _, _, _, _, d1, d2, q1, q2, hr⟩ := randomImage_ev b (pos + 1) p hb (by omega) (by omega) ⟨p1, p2⟩
 obtain ⟨w', h', p', d', q', d3, q3, q4, hs⟩ := spoilImage_ev b q w h p d hb (by omega) (by omega) d1
 refine ⟨w', h', p', d', q', by omega, by omega, by omega, ?_⟩
 unfold spec_anyImage.f
 exact ev_bind hp (ev_bind hr (ev_bind hs (Ev.now _)))

/- Layers that are drawn from bytes. -/

theorem randomLayer_ev (b : List Int) (pos p : Int) (hb : Bytes b) (h0 : 0 ≤ pos) (h1 : pos ≤ 50000000) (hp : 1 ≤ p ∧ p ≤ 4) :
  ∃ (w h : Int) (d : List Int) (x y m a : Int) (hid : Bool) (q : Int), d.length ≤ 1024 ∧ pos ≤ q ∧ q ≤ pos + 3000 ∧ Ev (fun k => spec_randomLayer.f k b pos p) (w, h, p, d, x, y, m, a, hid, q) := by
 obtain ⟨w, h, d, q, _, _, _, _, _, _, hd, q1, q2, hr⟩ := randomImage_ev b pos p hb h0 (by omega) hp
 obtain ⟨v1, g1, _⟩ := pick_in b q 7 (by omega) hb (by omega) (by omega)
 obtain ⟨v2, g2, _⟩ := pick_in b (q + 1) 5 (by omega) hb (by omega) (by omega)
 obtain ⟨v3, g3, _⟩ := pick_in b (q + 1 + 1) 5 (by omega) hb (by omega) (by omega)
 obtain ⟨v4, g4, _⟩ := pick_in b (q + 1 + 1 + 1) 5 (by omega) hb (by omega) (by omega)
 obtain ⟨v5, g5, _⟩ := one_in b (q + 1 + 1 + 1 + 1) [255, 128, 0, 200] (by simp) (by simp) hb (by omega) (by omega)
 refine ⟨w, h, d, wrap64 (v1 - 3), wrap64 (v2 - 2), v3, v5, v4 == 0, q + 1 + 1 + 1 + 1 + 1, hd, by omega, by omega, ?_⟩
 unfold spec_randomLayer.f
 exact ev_bind hr (ev_bind g1 (ev_bind g2 (ev_bind g3 (ev_bind g4 (ev_bind g5 (Ev.now _))))))
theorem anyLayer_ev (b : List Int) (pos p : Int) (hb : Bytes b) (h0 : 0 ≤ pos) (h1 : pos ≤ 40000000) :
  ∃ (w h p' : Int) (d : List Int) (x y m a : Int) (hid : Bool) (q : Int), d.length ≤ 1024 ∧ pos ≤ q ∧ q ≤ pos + 10000 ∧ Ev (fun k => spec_anyLayer.f k b pos p) (w, h, p', d, x, y, m, a, hid, q) := by
 have hp : 1 ≤ mx 1 (mn p 4) ∧ mx 1 (mn p 4) ≤ 4 := by
  unfold mx mn
  split <;> split <;> omega
 obtain ⟨w, h, d, x, y, m, a, hid, q, hd, q1, q2, hr⟩ := randomLayer_ev b pos (mx 1 (mn p 4)) hb h0 (by omega) hp
 obtain ⟨v, g, _⟩ := pick_in b q 24 (by omega) hb (by omega) (by omega)
 unfold spec_anyLayer.f
 by_cases c0 : v = 0
 ·obtain ⟨z, gz, _⟩ := one_in b (q + 1) [(-1), 5] (by simp) (by simp) hb (by omega) (by omega)
  exact ⟨w, h, _, d, x, y, z, a, hid, q + 1 + 1, hd, by omega, by omega, ev_bind hr (ev_bind g (ev_pos c0 (ev_bind gz (Ev.now _))))⟩
 ·by_cases c1 : v = 1
  ·obtain ⟨z, gz, _⟩ := one_in b (q + 1) [(-1), 256] (by simp) (by simp) hb (by omega) (by omega)
   exact ⟨w, h, _, d, x, y, m, z, hid, q + 1 + 1, hd, by omega, by omega, ev_bind hr (ev_bind g (ev_neg c0 (ev_pos c1 (ev_bind gz (Ev.now _)))))⟩
  ·by_cases c2 : v = 2
   ·obtain ⟨z, gz, _⟩ := one_in b (q + 1) [(-16), (-17), 16, 17] (by simp) (by simp) hb (by omega) (by omega)
    exact ⟨w, h, _, d, z, y, m, a, hid, q + 1 + 1, hd, by omega, by omega, ev_bind hr (ev_bind g (ev_neg c0 (ev_neg c1 (ev_pos c2 (ev_bind gz (Ev.now _))))))⟩
   ·by_cases c3 : v = 3
    ·obtain ⟨w2, h2, p2, d2, q', hd2, q3, q4, hi⟩ := anyImage_ev b (q + 1) hb (by omega) (by omega)
     exact ⟨w2, h2, p2, d2, x, y, m, a, hid, q', hd2, by omega, by omega, ev_bind hr (ev_bind g (ev_neg c0 (ev_neg c1 (ev_neg c2 (ev_pos c3 (ev_bind hi (Ev.now _)))))))⟩
    ·exact ⟨w, h, _, d, x, y, m, a, hid, q + 1, hd, by omega, by omega, ev_bind hr (ev_bind g (ev_neg c0 (ev_neg c1 (ev_neg c2 (ev_neg c3 (Ev.now _))))))⟩

/- Rows of layers that are drawn from bytes. -/

abbrev LayD := S55
theorem anyLayers_loop (b : List Int) (hb : Bytes b) (p : Int) : ∀ (n : Nat) (l : List LayD) (pos : Int), n ≤ 7 → 0 ≤ pos → pos ≤ 400000 - 20000 * n → l.length + n ≤ 7 → (∀ s ∈ l, s.f0.f3.length ≤ 1024) →
  ∃ (l' : List LayD) (q : Int), l'.length ≤ 7 ∧ (∀ s ∈ l', s.f0.f3.length ≤ 1024) ∧ pos ≤ q ∧ q ≤ 400000 ∧ Ev (fun k => spec_anyLayers.l0 k p l (n : Int) b pos) (l', q) := by
 intro n
 induction n with
 | zero => exact fun l pos _ h0 h1 hl hs => ⟨l, pos, by omega, hs, by omega, by omega, Ev.step (f := fun _ => some (l, pos)) (fun k => by simp only [spec_anyLayers.l0]; rw [if_neg (by simp)]) (Ev.now _)⟩
 | succ n ih =>
  intro l pos hn h0 h1 hl hs
  have hp : 1 ≤ mx 1 (mn p 4) ∧ mx 1 (mn p 4) ≤ 4 := by
   unfold mx mn
   split <;> split <;> omega
  obtain ⟨w, h, d, x, y, m, a, hid, q, hd, q1, q2, hr⟩ := randomLayer_ev b pos (mx 1 (mn p 4)) hb h0 (by omega) hp
  obtain ⟨v, hv, v0, v1⟩ := pick_in b q 20 (by omega) hb (by omega) (by omega)
  have e1 : wrap64 (((n + 1 : Nat) : Int) - 1) = (n : Int) := by rw [w64 (by omega) (by omega)]; omega
  by_cases c : v = 0
  ·obtain ⟨w2, h2, p2, d2, x2, y2, m2, a2, hid2, q', hd2, q3, q4, hr2⟩ := anyLayer_ev b (q + 1) p hb (by omega) (by omega)
   obtain ⟨l', z, r1, r2, r3, r4, r5⟩ := ih (l ++ [(⟨⟨w2, h2, p2, d2⟩, x2, y2, m2, a2, hid2⟩ : LayD)]) q' (by omega) (by omega) (by omega) (by simp; omega) (fun s h => by
    rcases List.mem_append.1 h with h | h
    ·exact hs s h
    ·rw [List.mem_singleton.1 h]; exact hd2)
   refine ⟨l', z, r1, r2, by omega, r4, Ev.step (f := fun k => (spec_randomLayer.f k b pos (mx 1 (mn p 4))).bind fun u => (spec_reader_pick.f k b u.2.2.2.2.2.2.2.2.2 20).bind fun t => if t.1 = 0 then ((spec_anyLayer.f k b t.2 p).bind fun g => if l.length < 1599289640401 then spec_anyLayers.l0 k p (l ++ [(⟨⟨g.1, g.2.1, g.2.2.1, g.2.2.2.1⟩, g.2.2.2.2.1, g.2.2.2.2.2.1, g.2.2.2.2.2.2.1, g.2.2.2.2.2.2.2.1, g.2.2.2.2.2.2.2.2.1⟩ : LayD)]) (n : Int) b g.2.2.2.2.2.2.2.2.2 else none) else (if l.length < 1599289640401 then spec_anyLayers.l0 k p (l ++ [(⟨⟨u.1, u.2.1, u.2.2.1, u.2.2.2.1⟩, u.2.2.2.2.1, u.2.2.2.2.2.1, u.2.2.2.2.2.2.1, u.2.2.2.2.2.2.2.1, u.2.2.2.2.2.2.2.2.1⟩ : LayD)]) (n : Int) b t.2 else none)) (fun k => ?_) (ev_bind hr (ev_bind hv (ev_pos c (ev_bind hr2 (ev_pos (by omega) r5)))))⟩
   simp only [spec_anyLayers.l0]
   rw [if_pos (by omega), e1]
  ·obtain ⟨l', z, r1, r2, r3, r4, r5⟩ := ih (l ++ [(⟨⟨w, h, mx 1 (mn p 4), d⟩, x, y, m, a, hid⟩ : LayD)]) (q + 1) (by omega) (by omega) (by omega) (by simp; omega) (fun s h => by
    rcases List.mem_append.1 h with h | h
    ·exact hs s h
    ·rw [List.mem_singleton.1 h]; exact hd)
   refine ⟨l', z, r1, r2, by omega, r4, Ev.step (f := fun k => (spec_randomLayer.f k b pos (mx 1 (mn p 4))).bind fun u => (spec_reader_pick.f k b u.2.2.2.2.2.2.2.2.2 20).bind fun t => if t.1 = 0 then ((spec_anyLayer.f k b t.2 p).bind fun g => if l.length < 1599289640401 then spec_anyLayers.l0 k p (l ++ [(⟨⟨g.1, g.2.1, g.2.2.1, g.2.2.2.1⟩, g.2.2.2.2.1, g.2.2.2.2.2.1, g.2.2.2.2.2.2.1, g.2.2.2.2.2.2.2.1, g.2.2.2.2.2.2.2.2.1⟩ : LayD)]) (n : Int) b g.2.2.2.2.2.2.2.2.2 else none) else (if l.length < 1599289640401 then spec_anyLayers.l0 k p (l ++ [(⟨⟨u.1, u.2.1, u.2.2.1, u.2.2.2.1⟩, u.2.2.2.2.1, u.2.2.2.2.2.1, u.2.2.2.2.2.2.1, u.2.2.2.2.2.2.2.1, u.2.2.2.2.2.2.2.2.1⟩ : LayD)]) (n : Int) b t.2 else none)) (fun k => ?_) (ev_bind hr (ev_bind hv (ev_neg c (ev_pos (by omega) r5))))⟩
   simp only [spec_anyLayers.l0]
   rw [if_pos (by omega), e1]
theorem drawLayers (code : List Int) (hw : ∀ x ∈ code, (Lit.int .u8 x).wf = true) : ∃ (w h p : Int) (d : List Int) (l : List LayD), d.length ≤ 1024 ∧ l.length ≤ 7 ∧ (∀ s ∈ l, s.f0.f3.length ≤ 1024) ∧ Ev (fun k => spec_DrawFlattenLayers.f k code) (w, h, p, d, l) := by
 obtain ⟨b, hb, hB⟩ := newReader_at code (code_bytes code hw)
 obtain ⟨w, h, p, d, q, hd, q1, q2, he⟩ := anyImage_ev b 0 hB (by omega) (by omega)
 obtain ⟨v, hv, hm⟩ := one_in b q [1, 2, 3, 0, 6, 7] (by simp) (by simp) hB (by omega) (by omega)
 have hn : 0 ≤ v ∧ v ≤ 7 := by simp at hm; omega
 obtain ⟨n, rfl⟩ := Int.eq_ofNat_of_zero_le hn.1
 obtain ⟨l', q', r1, r2, _, _, r3⟩ := anyLayers_loop b hB p n [] (q + 1) (by omega) (by omega) (by omega) (by simp; omega) (fun s h => by simp at h)
 refine ⟨w, h, p, d, l', hd, r1, r2, ?_⟩
 unfold spec_DrawFlattenLayers.f spec_anyLayers.f
 exact ev_now hb (ev_bind he (ev_bind (ev_bind hv r3) (Ev.now _)))

/- TileBoxes, as the program and the reference have it. -/

theorem impl_TileBoxes_ev (w h p : Int) (d : List Int) : Ev (fun k => impl_TileBoxes.f k w h p d) (tilesOf w h p d) := by
 unfold impl_TileBoxes.f tilesOf
 refine ev_now (impl_isImage_eq w h p d) ?_
 by_cases c : validI w h p d = true
 ·rw [if_pos c]
  refine ev_pos c ?_
  have hv := (validI_iff w h p d).1 c
  obtain ⟨W, rfl⟩ := Int.eq_ofNat_of_zero_le (show 0 ≤ w by omega)
  obtain ⟨H, rfl⟩ := Int.eq_ofNat_of_zero_le (show 0 ≤ h by omega)
  exact ev_bind (impl_tileBoxes_ev W H p d (by omega) (by omega) (by omega) (by omega)) (Ev.now _)
 ·rw [if_neg c]
  exact ev_neg c (Ev.now _)

/- Lists of numbers and images, compared one by one. -/

theorem equalIntsC (l m : List Int) (hl : l.length ≤ 1000000) : Ev (fun k => laws_equalInts.f k l m) (decide (l = m)) := by
 unfold laws_equalInts.f
 by_cases hn : l.length = m.length
 ·have key := ev_up l.length (fun k i (_ : Unit) => laws_equalInts.l0 k l m (i : Int)) (fun _ _ => True) (fun i _ => decide (l.drop i = m.drop i))
   (by
    intro i s hi _
    have e1 := List.drop_eq_getElem_cons hi
    have e2 := List.drop_eq_getElem_cons (show i < m.length by omega)
    by_cases c : l[i] = m[i]'(by omega)
    ·refine .inr ⟨(), fun k => ?_, trivial, ?_⟩
     ·simp only [laws_equalInts.l0]
      rw [if_pos (by omega), if_pos (by omega), if_pos (by omega), rd_nat l i hi, rd_nat m i (by omega), if_pos c, w64n i (by omega)]
     ·rw [e1, e2, decide_eq_decide, List.cons.injEq]
      exact ⟨fun h => ⟨c, h⟩, fun h => h.2⟩
    ·left
     rw [e1, e2, decide_eq_false (by rw [List.cons.injEq]; exact fun h => c h.1)]
     refine Ev.step (f := fun _ => some false) (fun k => ?_) (Ev.now _)
     simp only [laws_equalInts.l0]
     rw [if_pos (by omega), if_pos (by omega), if_pos (by omega), rd_nat l i hi, rd_nat m i (by omega), if_neg c])
   (by
    intro s _
    refine Ev.step (f := fun _ => some true) (fun k => ?_) (ev_const (by rw [List.drop_length, hn, List.drop_length]; rfl))
    simp only [laws_equalInts.l0]
    rw [if_neg (by omega)])
   l.length 0 () (by omega) trivial
  exact ev_pos (by omega) (by simpa using key)
 ·refine ev_neg (by omega) ?_
  rw [decide_eq_false (fun h => hn (by rw [h]))]
  exact Ev.now _
theorem equalImage_ev (a b p : Int) (d : List Int) (a' b' p' : Int) (d' : List Int) (hl : d.length ≤ 1000000) : Ev (fun k => laws_equalImage.f k a b p d a' b' p' d') (decide (a = a' ∧ b = b' ∧ p = p' ∧ d = d')) := by
 unfold laws_equalImage.f
 by_cases c1 : a = a'
 ·refine ev_pos c1 ?_
  by_cases c2 : b = b'
  ·refine ev_pos c2 ?_
   by_cases c3 : p = p'
   ·refine ev_pos c3 ?_
    rw [decide_eq_decide.2 (show (a = a' ∧ b = b' ∧ p = p' ∧ d = d') ↔ d = d' from ⟨fun h => h.2.2.2, fun h => ⟨c1, c2, c3, h⟩⟩)]
    exact ev_bind (equalIntsC d d' hl) (Ev.now _)
   ·refine ev_neg c3 ?_
    rw [decide_eq_false (fun h => c3 h.2.2.1)]
    exact Ev.now _
  ·refine ev_neg c2 ?_
   rw [decide_eq_false (fun h => c2 h.2.1)]
   exact Ev.now _
 ·refine ev_neg c1 ?_
  rw [decide_eq_false (fun h => c1 h.1)]
  exact Ev.now _
end Go.Proofs.Ytnofkbbcbpjhfaa.Pure

/- (impl.Image).at: the numbers of a pixel, in the memory of the image. -/
namespace Go.Proofs.Ytnofkbbcbpjhfaa.Q
open Go.RowKit Go.Proofs.YtnofkbbcbpjhfaaW.PrintWords Go.Proofs.YtnofkbbcbpjhfaaW.PrintLast Go.Proofs.YtnofkbbcbpjhfaaW.PrintMore
attribute [local go_sem] max2_int min2_int max_two min_two max_three min_three max_four min_four
set_option linter.unusedVariables false
set_option linter.unusedSimpArgs false
open Go.Proofs.Ytnofkbbcbpjhfaa.Pure

def pixT (d : List Int) (j p : Int) : List Int := (d.take (wrap64 (j + p) : Int).toNat).drop (j : Int).toNat
set_option maxHeartbeats 1600000 in
set_option maxRecDepth 100000 in
theorem at_callsX (a b p : Int) (A : Option Addr) (c n : Nat) (x y j : Int) (hc : n ≤ c) (hj : wrap64 ((wrap64 ((wrap64 (y * a)) + x)) * p) = j) (h0 : 0 ≤ j) (h1 : j ≤ wrap64 (j + p)) (h2 : wrap64 (j + p) ≤ (n : Int)) (A' : Option Addr) (hA : A' = if c = j.toNat then A else A.map (·.add (j.toNat * 1))) (w : World) :
  Calls Try.prog 109 #[.agg #[.int .i64 a, .int .i64 b, .int .i64 p, .slice A n c], .int .i64 x, .int .i64 y] w fun e w' => e = .returned (.slice A' ((wrap64 (j + p)).toNat - j.toNat) (c - j.toNat)) ∧ Below w.heap.size w w' := by
 obtain ⟨i0, hi0, _, hsz, _⟩ := info_parts info3
 have hcut := cut_mid (P := Try.prog) 22 3 .i64 .i64 Try.underlying22 hi0 1 hsz A n c j (wrap64 (j + p)) h0 h1 h2 hc
 rw [← hA] at hcut
 clear hA
 have hu := Try.underlying27
 have hjw : (IntKind.i64.wrap ((wrap64 ((wrap64 (y * a)) + x)) * p)) = j := (i64_w _).trans hj
 have d0 : decide (0 ≤ j) = true := decide_eq_true h0
 have d1 : decide (j ≤ wrap64 (j + p)) = true := decide_eq_true h1
 have d2 : decide (wrap64 (j + p) ≤ (n : Int)) = true := decide_eq_true h2
 have e0 := eq_true h0
 have e1 := eq_true h1
 have e2 := eq_true h2
 clear hi0 hsz hj
 go_enter Try.func109, Try.ntmps109
 go_wp2_with (first | ((with_reducible refine gate_dst (N := 3) rfl ?_); refine box_event ?hg (N := 3) ?hd (cs := #[.int .i64 a, .int .i64 b, .int .i64 p, .slice A n c]) (t := 27) ?hr ?_; (case hd => rfl); (case hg => rfl); (case hr => first | (go_simp; done) | (go_simp; rfl)); intro gb hg w9 hbox hb; have HB := Aside0.mk (below_step (Below.refl w.heap.size w) hb); have BK := Aside0.mk hbox; have hcz0 : w9.cell? ⟨gb, 0, none⟩ = some (.int .i64 a) := (blk_cell BK.out 0).trans rfl; have hcz1 : w9.cell? ⟨gb, 1, none⟩ = some (.int .i64 b) := (blk_cell BK.out 1).trans rfl; have hcz2 : w9.cell? ⟨gb, 2, none⟩ = some (.int .i64 p) := (blk_cell BK.out 2).trans rfl; have hcz3 : w9.cell? ⟨gb, 3, none⟩ = some (.slice A n c) := (blk_cell BK.out 3).trans rfl; clear hbox hb hg))
 go_ret
 exact ⟨rfl, HB.out⟩
theorem pixT_length (d : List Int) (j p : Int) (h2 : wrap64 (j + p) ≤ (d.length : Int)) : (pixT d j p).length = (wrap64 (j + p)).toNat - j.toNat := by
 unfold pixT
 rw [List.length_drop, List.length_take, Nat.min_eq_left (by omega)]
theorem pixT_C {w : World} {A : Option Addr} {c : Nat} {d : List Int} {j p : Int} (h : Kd.C (Kd.int .i64) w A d.length d) (hc : d.length ≤ c) (h1 : j ≤ wrap64 (j + p)) (h2 : wrap64 (j + p) ≤ (d.length : Int)) :
  Kd.C (Kd.int .i64) w (if c = j.toNat then A else A.map (·.add (j.toNat * 1))) (pixT d j p).length (pixT d j p) := Kd.C_mid h (by omega) (by omega) hc
theorem at_calls (a b p : Int) (A : Option Addr) (c : Nat) (d : List Int) (x y j : Int) (hc : d.length ≤ c) (hj : wrap64 ((wrap64 ((wrap64 (y * a)) + x)) * p) = j) (h0 : 0 ≤ j) (h1 : j ≤ wrap64 (j + p)) (h2 : wrap64 (j + p) ≤ (d.length : Int)) :
  ∃ (A' : Option Addr) (c' : Nat), (pixT d j p).length ≤ c' ∧ ∀ w : World, Kd.C (Kd.int .i64) w A d.length d → (Kd.C (Kd.int .i64) w A' (pixT d j p).length (pixT d j p) ∧
   Calls Try.prog 109 #[.agg #[.int .i64 a, .int .i64 b, .int .i64 p, .slice A d.length c], .int .i64 x, .int .i64 y] w fun e w' => e = .returned (.slice A' (pixT d j p).length c') ∧ Below w.heap.size w w') := by
 refine ⟨_, c - j.toNat, by rw [pixT_length d j p h2]; omega, fun w hr => ⟨pixT_C hr hc h1 h2, ?_⟩⟩
 rw [pixT_length d j p h2]
 exact at_callsX a b p A c d.length x y j hc hj h0 h1 h2 _ rfl w
end Go.Proofs.Ytnofkbbcbpjhfaa.Q

/- impl.imageBy: the image whose pixels a function value tells. -/
namespace Go.Proofs.Ytnofkbbcbpjhfaa.Q
open Go.RowKit Go.Proofs.YtnofkbbcbpjhfaaW.PrintWords Go.Proofs.YtnofkbbcbpjhfaaW.PrintLast Go.Proofs.YtnofkbbcbpjhfaaW.PrintMore
open Go.Proofs.YtnofkbbcbpjhfaaW.PrintWords.Aside0 (mk)
attribute [local go_sem] max2_int min2_int max_two min_two max_three min_three max_four min_four
set_option linter.unusedVariables false
set_option linter.unusedSimpArgs false
open Go.Proofs.Ytnofkbbcbpjhfaa.Pure

set_option maxHeartbeats 4000000 in
set_option maxRecDepth 100000 in
theorem imageBy_calls (q : Nat) (lb : Array Value) (px : Nat → Nat → List Int) (a b : Nat) (p : Int) (ha : a ≤ 16) (hb_ : b ≤ 16) (w : World)
  (eg : ∀ args W, (callFunc q args).run Try.prog W = .ok (.enter q args) W) (hpl : ∀ x y, x < a → y < b → (px x y).length ≤ 4)
  (hp : ∀ (W : World) (x y : Nat), x < a → y < b → Below w.heap.size w W → Calls Try.prog q (#[.int .i64 (x : Int), .int .i64 (y : Int)] ++ lb) W fun e W' => ∃ (A : Option Addr) (c : Nat), e = .returned (.slice A (px x y).length c) ∧ Kd.C (Kd.int .i64) W' A (px x y).length (px x y) ∧ (px x y).length ≤ c ∧ Below W.heap.size W W') :
  Calls Try.prog 107 #[.int .i64 (a : Int), .int .i64 (b : Int), .int .i64 p, .func (.func q) #[] lb] w fun e w' => ∃ v3_ : Value, e = .returned (.agg #[.int .i64 (a : Int), .int .i64 (b : Int), .int .i64 p, v3_]) ∧ Kd.R (Kd.int .i64) 3 w' w.heap.size (fun _ => True) v3_ (imgD px a b) ∧ Below w.heap.size w w' := by
 have HP := mk hp
 have EG := mk eg
 have HB0 := mk (Below.refl w.heap.size w)
 have hu := Try.underlying27
 have hui := Try.underlying22
 clear hp eg
 go_enter Try.func107, Try.ntmps107
 go_wp2_with (first
  | ((with_reducible refine gate_dst (N := 8) rfl ?_); refine box_event (by rfl) (N := 8) (by rfl) (cs := #[.int .i64 0, .int .i64 0, .int .i64 0, .slice none 0 0]) (t := 27) (by go_simp; done) ?_; intro g8 hg_ w1 hbox hb; have HB1 := mk (below_then HB0.out HB0.out.size hb); have K1 := mk hbox; have Gg8 := mk (show w.heap.size ≤ g8 from by rw [hg_]; exact HB0.out.size); clear hbox hb hg_))
 have HGM := blk_new w1 (.cells #[.int .i64 (a : Int), .int .i64 (b : Int), .int .i64 p, .slice none 0 0] 27 (0, 0))
 obtain ⟨g9, hg9⟩ : ∃ g9, g9 = w1.heap.size := ⟨_, rfl⟩
 have G89 : g8 < g9 := by rw [hg9]; exact blk_lt K1.out
 have GE9 : w.heap.size ≤ g9 := by have := Gg8.out; omega
 rw [← hg9] at HGM ⊢
 go_loopw [17] (fun v17 W => ∃ y : Nat, v17 = .int .i64 y ∧ y ≤ b ∧ (∃ (v : Value) (D : List Int), Aside0 (D = imgD px a y) ∧ Aside0 (D.length ≤ 64 * y) ∧ Aside0 (Kd.R (Kd.int .i64) 3 W w.heap.size (fun _ => True) v D) ∧ Aside0 (W.heap[g9]? = some (.cells #[.int .i64 (a : Int), .int .i64 (b : Int), .int .i64 p, v] 27 (0, 0)))) ∧ Aside0 (W.heap[g8]? = some (.cells #[.int .i64 0, .int .i64 0, .int .i64 0, .slice none 0 0] 27 (0, 0))) ∧ Aside0 (Below w.heap.size w W)) (fun v17 _ => b - (intOf v17).toNat)
 case atStart => exact ⟨0, rfl, by omega, ⟨_, [], ⟨rfl⟩, ⟨by simp⟩, ⟨Kd.R_nil _ _ _ _ _⟩, ⟨HGM⟩⟩, ⟨blk_alloc K1.out _⟩, ⟨below_alloc HB1.out _⟩⟩
 case round =>
  clear HGM hg9
  obtain ⟨y, rfl, hy, ⟨v, D, hD, hdl, hr, h9⟩, h8, hb⟩ := hrel
  by_cases hly : y < b
  ·have hdy : decide ((y : Int) < (b : Int)) = true := by simp; omega
   go_wp2
   go_loopw [21] (fun v21 W => ∃ x : Nat, v21 = .int .i64 x ∧ x ≤ a ∧ (∃ (v : Value) (D : List Int), Aside0 (D = imgD px a y ++ rowD px x y) ∧ Aside0 (D.length ≤ 64 * y + 4 * x) ∧ Aside0 (Kd.R (Kd.int .i64) 3 W w.heap.size (fun _ => True) v D) ∧ Aside0 (W.heap[g9]? = some (.cells #[.int .i64 (a : Int), .int .i64 (b : Int), .int .i64 p, v] 27 (0, 0)))) ∧ Aside0 (W.heap[g8]? = some (.cells #[.int .i64 0, .int .i64 0, .int .i64 0, .slice none 0 0] 27 (0, 0))) ∧ Aside0 (Below w.heap.size w W)) (fun v21 _ => a - (intOf v21).toNat)
   case atStart => exact ⟨0, rfl, by omega, ⟨v, D, ⟨by rw [hD.out]; simp [rowD]⟩, hdl, hr, h9⟩, h8, hb⟩
   case round =>
    clear hr h9 h8 hb hdl hD
    obtain ⟨x, rfl, hx, ⟨v, D, hD, hdl, hr, h9⟩, h8, hb⟩ := hrel
    by_cases hlx : x < a
    ·have hdx : decide ((x : Int) < (a : Int)) = true := by simp; omega
     go_wp2
     refine start_ (n := 9) (S := fun w' => w'.cell? ⟨g9, 3, none⟩ = some v) (ds := [8]) #[false, false, false, false, false, false, false, false, false] (by kernel_rfl) rfl rfl (((blk_cell (w := wr.drew) h9.out 3).trans rfl)) (fun hHeld => ?_)
     refine pu 0 24 ?_ ?_ rfl rfl (by kernel_rfl) (Or.inl ⟨by rfl, ?_⟩) ?_ ?_
     rotate_left 2
     ·intro w'
      go_simp
      with_reducible rfl
     ·simp only [seval]
      rfl
     refine pu 2 26 ?_ ?_ rfl rfl (by kernel_rfl) (Or.inl ⟨by rfl, ?_⟩) ?_ ?_
     rotate_left 2
     ·intro w'
      go_simp
      with_reducible rfl
     ·simp only [seval]
      rfl
     refine pu 3 27 ?_ ?_ rfl rfl (by kernel_rfl) (Or.inl ⟨by rfl, ?_⟩) ?_ ?_
     rotate_left 2
     ·intro w'
      go_simp
      with_reducible rfl
     ·simp only [seval]
      rfl
     refine pu 4 28 ?_ ?_ rfl rfl (by kernel_rfl) (Or.inl ⟨by rfl, ?_⟩) ?_ ?_
     rotate_left 2
     ·intro w'
      go_simp
      with_reducible rfl
     ·simp only [seval]
      rfl
     refine tk 1 25 ?_ ?_ rfl rfl (by kernel_rfl) (Or.inl ⟨by rfl, ?_⟩) hHeld ?_ ?_
     rotate_left 2
     ·intro w' s0
      go_simp
      with_reducible rfl
     ·simp only [seval]
      rfl
     refine one_ (i := 5) (N := some 29) #[true, true, true, true, true, true, false, false, false] rfl rfl (by kernel_rfl) (by decide) (fun K hK => ?_)
     refine call_ q (#[.int .i64 (x : Int), .int .i64 (y : Int)] ++ lb) (by rfl) rfl (fn_runs q lb EG.out rfl rfl _ (by simp only [bitvec_to_nat]; rfl)) ?_
     refine (HP.out _ x y hlx hly (below_drew hb.out)).mono ?_
     rintro e w3 ⟨A, c, rfl, hC, hl3, hb3⟩
     refine ⟨_, rfl, ?_⟩
     have h93 := mk (blk_below (w := wr.drew) h9.out hb3)
     have h83 := mk (blk_below (w := wr.drew) h8.out hb3)
     have hr3 := mk (Kd.R_below (Kd.R_drew hr.out) hb3)
     have hbb3 := mk (below_then (below_drew hb.out) (below_drew hb.out).size hb3)
     have hC3 := mk hC
     have hl3' := mk hl3
     have HPL := mk (hpl x y hlx hly)
     clear hb3 hC hl3
     refine hK.out _ _ (((blk_cell h93.out 3).trans rfl)) (fun hHeld => ?_)
     clear hK K
     refine norm_ (a' := ?_) ?_ ?_
     rotate_left
     ·show Act.put _ (some 29) _ = _
      simp only [seval]
      rfl
     refine one_ (i := 6) (N := some 30) #[true, true, true, true, true, true, true, false, false] rfl rfl (by kernel_rfl) (by decide) (fun K hK => ?_)
     refine Kd.R_append_rows_step (Kd.int .i64) (w0 := w) w.heap.size (by rfl) (.tmp 25) (.tmp 29) 22 3 (.int .i64 0) 8 rfl Try.underlying22 info3 rfl (by decide) (by omega) v D (px x y) _ _ _ (fun _ => True) (fun _ => False) rfl rfl hr3.out hC3.out (fun _ _ h => h) (fun _ h => h.elim) (fun _ _ => trivial) hbb3.out hbb3.out.size (by have := HPL.out; have := hdl.out; omega) ?_
     intro v5 w5 ho hb5 hg hat
     have h95 := mk (blk_grown h93.out hg (Kd.R_ne hr3.out h93.out (by decide)))
     have h85 := mk (blk_grown h83.out hg (Kd.R_ne hr3.out h83.out (by decide)))
     have ho5 := mk ho
     have hbb5 := mk hb5
     clear ho hb5 hg hat
     obtain ⟨A5, q5, e5⟩ := Kd.R_slice ho5.out
     subst e5
     refine hK.out _ _ (((blk_cell h95.out 3).trans rfl)) (fun hHeld => ?_)
     clear hK K
     refine norm_ (a' := ?_) ?_ ?_
     rotate_left
     ·show Act.put _ (some 30) _ = _
      simp only [seval]
      rfl
     refine pu 7 31 ?_ ?_ rfl rfl (by kernel_rfl) (Or.inl ⟨by rfl, ?_⟩) ?_ ?_
     rotate_left 2
     ·intro w'
      go_simp
      with_reducible rfl
     ·simp only [seval]
      rfl
     refine last_ (i := 8) (N := none) #[true, true, true, true, true, true, true, true, true] rfl rfl (by kernel_rfl) (by decide) (fun K hK => ?_)
     have c95 := (blk_cell h95.out 3).trans rfl
     have f95 := blk_frozen h95.out 3
     refine skip_ (w1 := ?_) (by rfl) rfl ?_ ?_
     rotate_left
     ·go_simp
      rfl
     refine hK.out _ _ ?_
     clear hK K
     refine done_ (by kernel_rfl) ?_
     go_wp2
     exact ⟨⟨x + 1, by go_num, by omega, ⟨_, D ++ px x y, ⟨by rw [hD.out, rowD_succ, List.append_assoc]⟩, ⟨by rw [List.length_append]; have := hdl.out; have := HPL.out; omega⟩, ⟨Kd.R_mono (Kd.R_far (p := ⟨g9, 3, none⟩) (Kd.R_types ho5.out h95.out (by decide)) (fun _ hk => hk.2) _) (fun _ _ => trivial)⟩, ⟨blk_put h95.out 3 _ (by rw [List.length_append]; rfl)⟩⟩, ⟨blk_far h85.out (by simp; omega) _⟩, ⟨below_set hbb5.out (by omega)⟩⟩, by simp [intOf]; omega⟩
    have hdx : decide ((x : Int) < (a : Int)) = false := by simp; omega
    have hxe : x = a := by omega
    subst hxe
    go_wp2
    go_roundw
    case rel => exact ⟨y + 1, by go_num, by omega, ⟨v, D, ⟨by rw [hD.out, imgD_succ]⟩, ⟨by have := hdl.out; omega⟩, hr, h9⟩, h8, hb⟩
    case measure => simp [intOf]; omega
  have hdy : decide ((y : Int) < (b : Int)) = false := by simp; omega
  have hye : y = b := by omega
  subst hye
  have m0 := blk_cell h9.out 0; have m1 := blk_cell h9.out 1; have m2 := blk_cell h9.out 2; have m3 := blk_cell h9.out 3
  have z0 := blk_cell h8.out 0; have z1 := blk_cell h8.out 1; have z2 := blk_cell h8.out 2; have z3 := blk_cell h8.out 3
  have y0 := blk_frozen h8.out 0; have y1 := blk_frozen h8.out 1; have y2 := blk_frozen h8.out 2; have y3 := blk_frozen h8.out 3
  obtain ⟨A5, q5, e5⟩ := Kd.R_slice hr.out
  subst e5
  go_wp2
  have hD' := hD.out
  subst hD'
  have RR := Kd.R_types hr.out h8.out (by decide)
  have G8 := Gg8.out
  have H8 := h8.out
  refine bodyPost_ret (results_cell_row rfl _ _ g8 27 #[.int .i64 (a : Int), .int .i64 (y : Int), .int .i64 p, .slice A5 (imgD px a y).length q5] (0, 0) _ rfl (by
   refine blk_put (cs := #[.int .i64 (a : Int), .int .i64 (y : Int), .int .i64 p, .slice none 0 0]) ?_ 3 _ rfl
   refine blk_put (cs := #[.int .i64 (a : Int), .int .i64 (y : Int), .int .i64 0, .slice none 0 0]) ?_ 2 _ rfl
   refine blk_put (cs := #[.int .i64 (a : Int), .int .i64 0, .int .i64 0, .slice none 0 0]) ?_ 1 _ rfl
   refine blk_put (cs := #[.int .i64 0, .int .i64 0, .int .i64 0, .slice none 0 0]) ?_ 0 _ rfl
   exact H8
   ) hu rfl (by kernel_rfl)) rfl ?_
  exact ⟨_, rfl, Kd.R_mono (Kd.R_far (Kd.R_far (Kd.R_far (Kd.R_far RR (fun k hk => hk.2) _) (fun k hk => hk.2) _) (fun k hk => hk.2) _) (fun k hk => hk.2) _) (fun _ _ => trivial), below_set (below_set (below_set (below_set hb.out (by omega)) (by omega)) (by omega)) (by omega)⟩
end Go.Proofs.Ytnofkbbcbpjhfaa.Q

/- A pixel's numbers, and where they lie. -/
namespace Go.Proofs.Ytnofkbbcbpjhfaa.Pure
open Go.RowKit Go.Proofs.Ytnofkbbcbpjhfaa.Q Go.Proofs.YtnofkbbcbpjhfaaW.PrintWords Go.Proofs.YtnofkbbcbpjhfaaW.PrintLast Go.Proofs.YtnofkbbcbpjhfaaW.PrintMore
set_option linter.unusedVariables false
set_option linter.unusedSimpArgs false

def pixJ (a p : Int) (x y : Nat) : Int := wrap64 ((wrap64 ((wrap64 ((y : Int) * a)) + (x : Int))) * p)
theorem pixJ_is {a b p : Int} {d : List Int} (hv : validI a b p d = true) {x y : Nat} (hx : (x : Int) < a) (hy : (y : Int) < b) : 0 ≤ pixJ a p x y ∧ pixJ a p x y ≤ 1024 ∧ pixJ a p x y = ((y : Int) * a + x) * p ∧ pixJ a p x y + p ≤ (d.length : Int) := by
 have h := (validI_iff a b p d).1 hv
 have hp := shape_prod h.1
 have h1 : 0 ≤ (y : Int) * a := Int.mul_nonneg (by omega) (by omega)
 have h2 : (y : Int) * a ≤ (b - 1) * a := Int.mul_le_mul_of_nonneg_right (by omega) (by omega)
 have h3 : (b - 1) * a = a * b - a := by rw [Int.sub_mul, Int.mul_comm b a]; omega
 have h4 : 0 ≤ ((y : Int) * a + x) * p := Int.mul_nonneg (by omega) (by omega)
 have h5 : ((y : Int) * a + x) * p ≤ (a * b - 1) * p := Int.mul_le_mul_of_nonneg_right (by omega) (by omega)
 have h6 : (a * b - 1) * p = a * b * p - p := by rw [Int.sub_mul]; omega
 have e : pixJ a p x y = ((y : Int) * a + x) * p := by
  unfold pixJ
  rw [w64 (x := (y : Int) * a) (by omega) (by omega), w64 (x := (y : Int) * a + (x : Int)) (by omega) (by omega), w64 (by omega) (by omega)]
 omega
end Go.Proofs.Ytnofkbbcbpjhfaa.Pure

/- A pixel's numbers read out of an image that is valid. -/
namespace Go.Proofs.Ytnofkbbcbpjhfaa.Q
open Go.RowKit Go.Proofs.YtnofkbbcbpjhfaaW.PrintWords Go.Proofs.YtnofkbbcbpjhfaaW.PrintLast Go.Proofs.YtnofkbbcbpjhfaaW.PrintMore
attribute [local go_sem] max2_int min2_int max_two min_two max_three min_three max_four min_four
set_option linter.unusedVariables false
set_option linter.unusedSimpArgs false
open Go.Proofs.Ytnofkbbcbpjhfaa.Pure

def pxAt (a p : Int) (d : List Int) (x y : Nat) : List Int := pixT d (pixJ a p x y) p
theorem pxAt_len {a b p : Int} {d : List Int} (hv : validI a b p d = true) {x y : Nat} (hx : (x : Int) < a) (hy : (y : Int) < b) : ((pxAt a p d x y).length : Int) = p := by
  have hb := pixJ_is hv hx hy
  have hs := ((validI_iff a b p d).1 hv).1
  unfold pxAt
  rw [pixT_length _ _ _ (by rw [w64 (by omega) (by omega)]; omega), w64 (by omega) (by omega)]
  omega
theorem pxAt_le {a b p : Int} {d : List Int} (hv : validI a b p d = true) {x y : Nat} (hx : (x : Int) < a) (hy : (y : Int) < b) : (pxAt a p d x y).length ≤ 4 := by
  have h1 := pxAt_len hv hx hy
  have hs := ((validI_iff a b p d).1 hv).1
  omega
theorem at_px {a b p : Int} (A : Option Addr) (c : Nat) {d : List Int} (hv : validI a b p d = true) (hc : d.length ≤ c) {x y : Nat} (hx : (x : Int) < a) (hy : (y : Int) < b) :
    ∃ (A' : Option Addr) (c' : Nat), (pxAt a p d x y).length ≤ c' ∧ ∀ w : World, Kd.C (Kd.int .i64) w A d.length d → (Kd.C (Kd.int .i64) w A' (pxAt a p d x y).length (pxAt a p d x y) ∧
      Calls Try.prog 109 #[.agg #[.int .i64 a, .int .i64 b, .int .i64 p, .slice A d.length c], .int .i64 (x : Int), .int .i64 (y : Int)] w fun e w' => e = .returned (.slice A' (pxAt a p d x y).length c') ∧ Below w.heap.size w w') := by
  have hb := pixJ_is hv hx hy
  have hs := ((validI_iff a b p d).1 hv).1
  have hw : wrap64 (pixJ a p x y + p) = pixJ a p x y + p := w64 (by omega) (by omega)
  exact at_calls a b p A c d (x : Int) (y : Int) (pixJ a p x y) hc rfl (by omega) (by omega) (by omega)
end Go.Proofs.Ytnofkbbcbpjhfaa.Q

/- impl.coverImage's function value: a pixel that is covered by a layer's. -/
namespace Go.Proofs.Ytnofkbbcbpjhfaa.Q
open Go.RowKit Go.Proofs.YtnofkbbcbpjhfaaW.PrintWords Go.Proofs.YtnofkbbcbpjhfaaW.PrintLast Go.Proofs.YtnofkbbcbpjhfaaW.PrintMore
open Go.Proofs.YtnofkbbcbpjhfaaW.PrintWords.Aside0 (mk)
attribute [local go_sem] max2_int min2_int max_two min_two max_three min_three max_four min_four
set_option linter.unusedVariables false
set_option linter.unusedSimpArgs false
open Go.Proofs.Ytnofkbbcbpjhfaa.Pure

def blV (mode alpha n u : Int) : Int := (impl_blended.f mode n u alpha).getD 0
theorem blV_is (mode alpha n u : Int) : impl_blended.f mode n u alpha = some (blV mode alpha n u) := by
 have h : ∃ v, impl_blended.f mode n u alpha = some v := by
  unfold impl_blended.f impl_part255.f
  simp only [Option.bind_some]
  repeat' split
  all_goals exact ⟨_, rfl⟩
 obtain ⟨v, hv⟩ := h
 unfold blV
 rw [hv]; rfl
def inBoxZ (X Y lw lh : Int) (x y : Nat) : Bool := decide (X ≤ (x : Int) ∧ (x : Int) < X + lw ∧ Y ≤ (y : Int) ∧ (y : Int) < Y + lh)
theorem impl_Box_has_int (X Y lw lh : Int) (x y : Nat) (h1 : -1000 ≤ X ∧ X ≤ 1000) (h2 : -1000 ≤ Y ∧ Y ≤ 1000) (h3 : 0 ≤ lw ∧ lw ≤ 1000) (h4 : 0 ≤ lh ∧ lh ≤ 1000) : impl_Box_has.f X Y lw lh (x : Int) (y : Int) = some (inBoxZ X Y lw lh x y) := by
 unfold impl_Box_has.f inBoxZ
 rw [w64 (x := X + lw) (by omega) (by omega), w64 (x := Y + lh) (by omega) (by omega)]
 by_cases c1 : (x : Int) ≥ X
 ·rw [if_pos c1]
  by_cases c2 : (x : Int) < X + lw
  ·rw [if_pos c2]
   by_cases c3 : (y : Int) ≥ Y
   ·rw [if_pos c3]; congr 1; rw [decide_eq_decide]; omega
   rw [if_neg c3, decide_eq_false (by omega)]
  rw [if_neg c2, decide_eq_false (by omega)]
 rw [if_neg c1, decide_eq_false (by omega)]
def coverPx (a p : Int) (d : List Int) (lw : Int) (lh : Int) (ld : List Int) (X Y mode alpha : Int) (x y : Nat) : List Int :=
 if inBoxZ X Y lw lh x y = true then List.zipWith (blV mode alpha) (pxAt a p d x y) (pxAt lw p ld ((x : Int) - X).toNat ((y : Int) - Y).toNat) else pxAt a p d x y
set_option maxHeartbeats 4000000 in
set_option maxRecDepth 100000 in
theorem cover1_out (a b p : Int) (A : Option Addr) (c : Nat) (d : List Int) (hv : validI a b p d = true) (hc : d.length ≤ c) (lw lh X Y mode alpha : Int) (hid : Bool) (AL : Option Addr) (cl : Nat) (ld : List Int) (hvl : validI lw lh p ld = true) (hcl : ld.length ≤ cl) (hX : -16 ≤ X ∧ X ≤ 16) (hY : -16 ≤ Y ∧ Y ≤ 16) (x y : Nat) (hx : (x : Int) < a) (hy : (y : Int) < b) (B : Nat) (B3 : Nat) (w : World) (h1 : w.heap[B]? = some (.cells #[.int .i64 a, .int .i64 b, .int .i64 p, .slice A d.length c] 27 (0, 0))) (h3 : w.heap[B3]? = some (.cells #[.int .i64 lw, .int .i64 lh, .int .i64 p, .slice AL ld.length cl, .int .i64 X, .int .i64 Y, .int .i64 mode, .int .i64 alpha, .bool hid] 55 (0, 0))) (hr : Kd.C (Kd.int .i64) w A d.length d) (hrl : Kd.C (Kd.int .i64) w AL ld.length ld) (hin : inBoxZ X Y lw lh x y = false) :
  Calls Try.prog 142 (#[.int .i64 (x : Int), .int .i64 (y : Int)] ++ #[.pointer (some ⟨B, 0, none⟩), .pointer (some ⟨B3, 0, none⟩)]) w fun e w' => ∃ (A' : Option Addr) (c' : Nat), e = .returned (.slice A' (pxAt a p d x y).length c') ∧ Kd.C (Kd.int .i64) w' A' (pxAt a p d x y).length (pxAt a p d x y) ∧ (pxAt a p d x y).length ≤ c' ∧ Below w.heap.size w w' := by
 have hsl := ((validI_iff lw lh p ld).1 hvl).1
 have HH := mk (impl_Box_has_int X Y lw lh x y (by omega) (by omega) (by omega) (by omega))
 have HLB := mk (show impl_Layer_box.f lw lh p ld X Y mode alpha hid = some (X, Y, lw, lh) from rfl)
 rw [hin] at HH
 obtain ⟨A', c', hc', HA⟩ := at_px (x := x) (y := y) A c hv hc hx hy
 have HRL := mk hrl
 have HCL := mk hcl
 have H3 := mk h3
 have k0 := (blk_cell h1 0).trans rfl; have k1 := (blk_cell h1 1).trans rfl; have k2 := (blk_cell h1 2).trans rfl; have k3 := (blk_cell h1 3).trans rfl
 generalize pxAt a p d x y = px at *
 have HA' := mk (HA w hr)
 clear HA hr h1 hv hc hvl hcl hin hsl hX hY
 simp only [List.append_toArray, List.cons_append, List.nil_append]
 go_enter Try.func142, Try.ntmps142
 go_wp2_with (first | (go_at_call 109; (with_reducible refine (HA'.out.2).mono ?_); rintro e w2 ⟨rfl, hb⟩; have HB2 := mk hb; have h32 := mk (blk_below H3.out hb); obtain ⟨q0, q1, q2, q3, q4, q5, q6, q7, q8, -⟩ := c9 h32.out; clear hb) | (go_at_call 104; (with_reducible refine (impl_Layer_box.calls lw lh p AL cl ld X Y mode alpha hid _ _ _ _ w2 (Kd.C_below HRL.out HB2.out) HCL.out HLB.out).mono ?_); rintro e w3 ⟨rfl, hb⟩; have HB3 := mk (below_then HB2.out HB2.out.size hb); clear hb) | (go_at_call 97; (with_reducible refine (impl_Box_has.calls X Y lw lh (x : Int) (y : Int) _ _ HH.out).mono ?_); rintro e w4 ⟨rfl, hb⟩; have HB4 := mk (below_then HB3.out HB3.out.size hb); clear hb))
 go_ret
 exact ⟨A', c', rfl, Kd.C_below HA'.out.1 HB4.out, hc', HB4.out⟩
set_option maxHeartbeats 4000000 in
set_option maxRecDepth 100000 in
theorem cover1_in (a b p : Int) (A : Option Addr) (c : Nat) (d : List Int) (hv : validI a b p d = true) (hc : d.length ≤ c) (lw lh X Y mode alpha : Int) (hid : Bool) (AL : Option Addr) (cl : Nat) (ld : List Int) (hvl : validI lw lh p ld = true) (hcl : ld.length ≤ cl) (hX : -16 ≤ X ∧ X ≤ 16) (hY : -16 ≤ Y ∧ Y ≤ 16) (x y : Nat) (hx : (x : Int) < a) (hy : (y : Int) < b) (B : Nat) (B3 : Nat) (w : World) (h1 : w.heap[B]? = some (.cells #[.int .i64 a, .int .i64 b, .int .i64 p, .slice A d.length c] 27 (0, 0))) (h3 : w.heap[B3]? = some (.cells #[.int .i64 lw, .int .i64 lh, .int .i64 p, .slice AL ld.length cl, .int .i64 X, .int .i64 Y, .int .i64 mode, .int .i64 alpha, .bool hid] 55 (0, 0))) (hr : Kd.C (Kd.int .i64) w A d.length d) (hrl : Kd.C (Kd.int .i64) w AL ld.length ld) (hin : inBoxZ X Y lw lh x y = true) :
  Calls Try.prog 142 (#[.int .i64 (x : Int), .int .i64 (y : Int)] ++ #[.pointer (some ⟨B, 0, none⟩), .pointer (some ⟨B3, 0, none⟩)]) w fun e w' => ∃ v : Value, e = .returned v ∧ Kd.R (Kd.int .i64) 3 w' w.heap.size (fun _ => True) v (List.zipWith (blV mode alpha) (pxAt a p d x y) (pxAt lw p ld ((x : Int) - X).toNat ((y : Int) - Y).toNat)) ∧ Below w.heap.size w w' := by
 have hsl := ((validI_iff lw lh p ld).1 hvl).1
 have hs := ((validI_iff a b p d).1 hv).1
 have HH := mk (impl_Box_has_int X Y lw lh x y (by omega) (by omega) (by omega) (by omega))
 have HLB := mk (show impl_Layer_box.f lw lh p ld X Y mode alpha hid = some (X, Y, lw, lh) from rfl)
 have hin' : X ≤ (x : Int) ∧ (x : Int) < X + lw ∧ Y ≤ (y : Int) ∧ (y : Int) < Y + lh := by unfold inBoxZ at hin; exact of_decide_eq_true hin
 rw [hin] at HH
 obtain ⟨A', c', hc', HA⟩ := at_px (x := x) (y := y) A c hv hc hx hy
 obtain ⟨i', hi'⟩ := Int.eq_ofNat_of_zero_le (show 0 ≤ (x : Int) - X by omega)
 obtain ⟨j', hj'⟩ := Int.eq_ofNat_of_zero_le (show 0 ≤ (y : Int) - Y by omega)
 rw [hi', hj', Int.toNat_natCast, Int.toNat_natCast]
 obtain ⟨A2, c2, hc2, HA2⟩ := at_px (x := i') (y := j') AL cl hvl hcl (by omega) (by omega)
 have hwi : wrap64 ((x : Int) - X) = (i' : Int) := by rw [w64 (by omega) (by omega)]; exact hi'
 have hwj : wrap64 ((y : Int) - Y) = (j' : Int) := by rw [w64 (by omega) (by omega)]; exact hj'
 rw [← hwi, ← hwj] at HA2
 have hLp := pxAt_len hv hx hy
 have hUp := pxAt_len hvl (x := i') (y := j') (by omega) (by omega)
 have HRL := mk hrl
 have HCL := mk hcl
 have H3 := mk h3
 have HC1 := mk (HA w hr).1
 have HC2 := mk (HA2 w hrl).1
 have k0 := (blk_cell h1 0).trans rfl; have k1 := (blk_cell h1 1).trans rfl; have k2 := (blk_cell h1 2).trans rfl; have k3 := (blk_cell h1 3).trans rfl
 generalize pxAt a p d x y = L at *
 generalize pxAt lw p ld i' j' = U at *
 have HA' := mk (HA w hr)
 replace HA2 := mk HA2
 have hLU : U.length = L.length := by omega
 have HLU := mk hLU
 have HL4 := mk (show L.length ≤ 4 by omega)
 have HXY := mk (And.intro hX (And.intro hY hs))
 clear HA hr h1 hv hc hvl hcl hin hsl hs hi' hj' hwi hwj hLp hUp h3 hrl hLU
 have hui := Try.underlying22
 simp only [List.append_toArray, List.cons_append, List.nil_append]
 go_enter Try.func142, Try.ntmps142
 go_wp2_with (first | (go_at_call 109; (with_reducible refine (HA'.out.2).mono ?_); rintro e w2 ⟨rfl, hb⟩; have HB2 := mk hb; have h32 := mk (blk_below H3.out hb); obtain ⟨q0, q1, q2, q3, q4, q5, q6, q7, q8, -⟩ := c9 h32.out; clear hb) | (go_at_call 104; (with_reducible refine (impl_Layer_box.calls lw lh p AL cl ld X Y mode alpha hid _ _ _ _ w2 (Kd.C_below HRL.out HB2.out) HCL.out HLB.out).mono ?_); rintro e w3 ⟨rfl, hb⟩; have HB3 := mk (below_then HB2.out HB2.out.size hb); have h33 := mk (blk_below h32.out hb); clear hb) | (go_at_call 97; (with_reducible refine (impl_Box_has.calls X Y lw lh (x : Int) (y : Int) _ _ HH.out).mono ?_); rintro e w4 ⟨rfl, hb⟩; have HB4 := mk (below_then HB3.out HB3.out.size hb); have h34 := mk (blk_below h33.out hb); obtain ⟨r0, r1, r2, r3, r4, r5, r6, r7, r8, -⟩ := c9 h34.out; clear hb) | (go_at_call 109; (with_reducible refine ((HA2.out w4 (Kd.C_below HRL.out HB4.out)).2).mono ?_); rintro e w5 ⟨rfl, hb⟩; have HB5 := mk (below_then HB4.out HB4.out.size hb); have h35 := mk (blk_below h34.out hb); clear hb))
 have h3z := blk_alloc h35.out (.cells #[] 3)
 go_loopw [9, 37] (fun v9 v37 W => ∃ i : Nat, v37 = .int .i64 i ∧ i ≤ L.length ∧ (∃ (v : Value) (D : List Int), v = v9 ∧ Aside0 (D = (List.zipWith (blV mode alpha) L U).take i) ∧ Aside0 (D.length ≤ 4) ∧ Aside0 (Kd.R (Kd.int .i64) 3 W w.heap.size (fun _ => True) v D)) ∧ Aside0 (W.heap[B3]? = some (.cells #[.int .i64 lw, .int .i64 lh, .int .i64 p, .slice AL ld.length cl, .int .i64 X, .int .i64 Y, .int .i64 mode, .int .i64 alpha, .bool hid] 55 (0, 0))) ∧ Aside0 (Below w.heap.size w W)) (fun _ v37 _ => L.length - (intOf v37).toNat)
 case atStart => exact ⟨0, rfl, by omega, ⟨_, [], rfl, ⟨by simp⟩, ⟨by simp⟩, ⟨R_empty _ _ _ _ HB5.out.size⟩⟩, ⟨h3z⟩, ⟨below_alloc HB5.out _⟩⟩
 case round =>
  obtain ⟨i, rfl, hi, ⟨v, D, rfl, hD, hdl, hr⟩, h3, hb⟩ := hrel
  clear h3z
  by_cases hil : i < L.length
  ·have hdi : decide ((i : Int) < (L.length : Int)) = true := by simp; omega
   have hiu : i < U.length := by have := HLU.out; omega
   have hdu : decide ((i : Int) < (U.length : Int)) = true := by simp; omega
   obtain ⟨ad1, e1, hxl⟩ := Kd.at_int (Kd.C_below HC1.out hb.out) (i : Int) (by omega) (by omega)
   obtain ⟨ad2, e2, hxu⟩ := Kd.at_int (Kd.C_below HC2.out hb.out) (i : Int) (by omega) (by omega)
   subst e1
   subst e2
   rw [Int.toNat_natCast, rd_nat L i hil] at hxl
   rw [Int.toNat_natCast, rd_nat U i hiu] at hxu
   go_wp2
   refine start_ (n := 14) (S := fun w' => w'.cell? ⟨B3, 6, none⟩ = some (.int .i64 mode) ∧ w'.cell? ⟨B3, 7, none⟩ = some (.int .i64 alpha) ∧ w'.cell? (ad2.add i) = some (.int .i64 (U[i]'hiu))) (ds := [12]) #[false, false, false, false, false, false, false, false, false, false, false, false, false, false] (by kernel_rfl) rfl rfl ⟨((blk_cell (blk_below (w := wr) h3.out (below_drew (Below.refl _ _))) 6).trans rfl), ((blk_cell (blk_below (w := wr) h3.out (below_drew (Below.refl _ _))) 7).trans rfl), (((below_drew (Below.refl _ _)).cell (World.block_lt_of_cell? _ _ hxu)).trans hxu)⟩ (fun hHeld => ?_)
   refine pu 0 42 ?_ ?_ rfl rfl (by kernel_rfl) (Or.inl ⟨by rfl, ?_⟩) ?_ ?_
   rotate_left 2
   ·intro w'
    go_simp
    with_reducible rfl
   ·simp only [seval]
    rfl
   refine pu 1 43 ?_ ?_ rfl rfl (by kernel_rfl) (Or.inl ⟨by rfl, ?_⟩) ?_ ?_
   rotate_left 2
   ·intro w'
    go_simp
    with_reducible rfl
   ·simp only [seval]
    rfl
   refine pu 3 45 ?_ ?_ rfl rfl (by kernel_rfl) (Or.inl ⟨by rfl, ?_⟩) ?_ ?_
   rotate_left 2
   ·intro w'
    go_simp
    with_reducible rfl
   ·simp only [seval]
    rfl
   refine pu 4 46 ?_ ?_ rfl rfl (by kernel_rfl) (Or.inl ⟨by rfl, ?_⟩) ?_ ?_
   rotate_left 2
   ·intro w'
    go_simp
    with_reducible rfl
   ·simp only [seval]
    rfl
   refine pu 5 47 ?_ ?_ rfl rfl (by kernel_rfl) (Or.inl ⟨by rfl, ?_⟩) ?_ ?_
   rotate_left 2
   ·intro w'
    go_simp
    with_reducible rfl
   ·simp only [seval]
    rfl
   refine pu 6 48 ?_ ?_ rfl rfl (by kernel_rfl) (Or.inl ⟨by rfl, ?_⟩) ?_ ?_
   rotate_left 2
   ·intro w'
    go_simp
    with_reducible rfl
   ·simp only [seval]
    rfl
   refine pu 8 50 ?_ ?_ rfl rfl (by kernel_rfl) (Or.inl ⟨by rfl, ?_⟩) ?_ ?_
   rotate_left 2
   ·intro w'
    go_simp
    with_reducible rfl
   ·simp only [seval]
    rfl
   refine tk 2 44 ?_ ?_ rfl rfl (by kernel_rfl) (Or.inl ⟨by rfl, ?_⟩) hHeld ?_ ?_
   rotate_left 2
   ·rintro w' ⟨s0, s1, s2⟩
    go_simp
    with_reducible rfl
   ·simp only [seval]
    rfl
   refine tk 7 49 ?_ ?_ rfl rfl (by kernel_rfl) (Or.inl ⟨by rfl, ?_⟩) hHeld ?_ ?_
   rotate_left 2
   ·rintro w' ⟨s0, s1, s2⟩
    go_simp
    with_reducible rfl
   ·simp only [seval]
    rfl
   refine tk 9 51 ?_ ?_ rfl rfl (by kernel_rfl) (Or.inl ⟨by rfl, ?_⟩) hHeld ?_ ?_
   rotate_left 2
   ·rintro w' ⟨s0, s1, s2⟩
    go_simp
    with_reducible rfl
   ·simp only [seval]
    rfl
   refine one_ (i := 10) (N := some 52) #[true, true, true, true, true, true, true, true, true, true, true, false, false, false] rfl rfl (by kernel_rfl) (by decide) (fun K hK => ?_)
   refine goes_ Try.func143 (by kernel_rfl) rfl #[.int .i64 mode, .int .i64 (L[i]'hil), .int .i64 (U[i]'hiu), .int .i64 alpha] (by rfl) rfl rfl (by simp only [bitvec_to_nat]; rfl) ?_
   with_reducible refine (impl_blended.calls mode (L[i]'hil) (U[i]'hiu) alpha (blV mode alpha (L[i]'hil) (U[i]'hiu)) _ (blV_is _ _ _ _)).mono ?_
   rintro e w3 ⟨rfl, hb3⟩
   refine ⟨_, rfl, ?_⟩
   have h33 := mk (blk_below (w := wr.drew) h3.out hb3)
   have hx3 := mk ((hb3.cell (World.block_lt_of_cell? _ _ hHeld.2.2)).trans hHeld.2.2)
   have hr3 := mk (Kd.R_below (Kd.R_drew hr.out) hb3)
   have hbb3 := mk (below_then (below_drew hb.out) (below_drew hb.out).size hb3)
   clear hb3
   refine hK.out _ _ ⟨((blk_cell h33.out 6).trans rfl), ((blk_cell h33.out 7).trans rfl), hx3.out⟩ (fun hHeld => ?_)
   clear hK K
   refine norm_ (a' := ?_) ?_ ?_
   rotate_left
   ·show Act.put _ (some 52) _ = _
    simp only [seval]
    rfl
   refine one_ (i := 11) (N := some 53) #[true, true, true, true, true, true, true, true, true, true, true, true, false, false] rfl rfl (by kernel_rfl) (by decide) (fun K hK => ?_)
   refine value_ (w1 := ?_) (v := ?_) (by rfl) rfl ?_ ?_
   rotate_left 2
   ·go_simp
    constructor
    ·rfl
    rfl
   refine hK.out _ _ ⟨((blk_cell (blk_alloc h33.out _) 6).trans rfl), ((blk_cell (blk_alloc h33.out _) 7).trans rfl), ((World.cell?_alloc_lt _ _ _ (World.block_lt_of_cell? _ _ hx3.out)).trans hx3.out)⟩ (fun hHeld => ?_)
   clear hK K
   refine norm_ (a' := ?_) ?_ ?_
   rotate_left
   ·show Act.put _ (some 53) _ = _
    simp only [seval]
    rfl
   refine last_ (i := 12) (N := some 54) #[true, true, true, true, true, true, true, true, true, true, true, true, true, false] rfl rfl (by kernel_rfl) (by decide) (fun K hK => ?_)
   refine Kd.R_append_step (Kd.int .i64) (w0 := w) w.heap.size (by rfl) (.tmp 42) (.tmp 53) 22 3 (.int .i64 0) 8 rfl Try.underlying22 info3 rfl (by decide) (by omega) v D (blV mode alpha (L[i]'hil) (U[i]'hiu)) [.int .i64 (blV mode alpha (L[i]'hil) (U[i]'hiu))] (fun _ => True) (fun _ => False) rfl rfl rfl (fun _ h => h.elim) (fun _ _ => trivial) hr3.out hbb3.out hbb3.out.size (by have := hdl.out; omega) ?_
   intro v5 w5 ho hb5 hg hat
   have h35 := mk (blk_grown h33.out hg (Kd.R_ne hr3.out h33.out (by decide)))
   have ho5 := mk ho
   have hbb5 := mk hb5
   clear ho hg hat hb5
   refine hK.out _ _ ?_
   clear hK K
   refine norm_ (a' := ?_) ?_ ?_
   rotate_left
   ·show Act.put _ (some 54) _ = _
    simp only [seval]
    rfl
   refine pu 13 9 ?_ ?_ rfl rfl (by kernel_rfl) (Or.inl ⟨by rfl, ?_⟩) ?_ ?_
   rotate_left 2
   ·intro w'
    go_simp
    with_reducible rfl
   ·simp only [seval]
    rfl
   refine done_ (by kernel_rfl) ?_
   go_wp2
   have hl4 := HL4.out
   exact ⟨⟨i + 1, by rw [w64n i (by omega)], by omega, ⟨v5, D ++ [blV mode alpha (L[i]'hil) (U[i]'hiu)], rfl, ⟨by rw [hD.out, List.take_succ_eq_append_getElem (by rw [List.length_zipWith]; omega), List.getElem_zipWith]⟩, ⟨by rw [List.length_append, hD.out, List.length_take, List.length_zipWith]; simp; omega⟩, ho5⟩, h35, hbb5⟩, by rw [w64n i (by omega)]; simp [intOf]; omega⟩
  have hdi : decide ((i : Int) < (L.length : Int)) = false := by simp; omega
  have hie : i = L.length := by omega
  subst hie
  go_wp2
  go_ret
  exact ⟨_, rfl, by
   have h := hr.out
   rw [hD.out, List.take_of_length_le (by rw [List.length_zipWith]; omega)] at h
   exact h, hb.out⟩
theorem cover1_calls (a b p : Int) (A : Option Addr) (c : Nat) (d : List Int) (hv : validI a b p d = true) (hc : d.length ≤ c) (lw lh X Y mode alpha : Int) (hid : Bool) (AL : Option Addr) (cl : Nat) (ld : List Int) (hvl : validI lw lh p ld = true) (hcl : ld.length ≤ cl) (hX : -16 ≤ X ∧ X ≤ 16) (hY : -16 ≤ Y ∧ Y ≤ 16) (x y : Nat) (hx : (x : Int) < a) (hy : (y : Int) < b) (B : Nat) (B3 : Nat) (w : World) (h1 : w.heap[B]? = some (.cells #[.int .i64 a, .int .i64 b, .int .i64 p, .slice A d.length c] 27 (0, 0))) (h3 : w.heap[B3]? = some (.cells #[.int .i64 lw, .int .i64 lh, .int .i64 p, .slice AL ld.length cl, .int .i64 X, .int .i64 Y, .int .i64 mode, .int .i64 alpha, .bool hid] 55 (0, 0))) (hr : Kd.C (Kd.int .i64) w A d.length d) (hrl : Kd.C (Kd.int .i64) w AL ld.length ld) :
  Calls Try.prog 142 (#[.int .i64 (x : Int), .int .i64 (y : Int)] ++ #[.pointer (some ⟨B, 0, none⟩), .pointer (some ⟨B3, 0, none⟩)]) w fun e w' => ∃ (A' : Option Addr) (c' : Nat), e = .returned (.slice A' (coverPx a p d lw lh ld X Y mode alpha x y).length c') ∧ Kd.C (Kd.int .i64) w' A' (coverPx a p d lw lh ld X Y mode alpha x y).length (coverPx a p d lw lh ld X Y mode alpha x y) ∧ (coverPx a p d lw lh ld X Y mode alpha x y).length ≤ c' ∧ Below w.heap.size w w' := by
 unfold coverPx
 cases hin : inBoxZ X Y lw lh x y with
 | false =>
  simp only [Bool.false_eq_true, if_false]
  exact cover1_out a b p A c d hv hc lw lh X Y mode alpha hid AL cl ld hvl hcl hX hY x y hx hy B B3 w h1 h3 hr hrl hin
 | true =>
  simp only [if_true]
  refine (cover1_in a b p A c d hv hc lw lh X Y mode alpha hid AL cl ld hvl hcl hX hY x y hx hy B B3 w h1 h3 hr hrl hin).mono ?_
  rintro e w' ⟨v, rfl, hR, hb⟩
  obtain ⟨A', c', rfl, hl, hC⟩ := Kd.R_reads hR
  exact ⟨A', c', rfl, hC, hl, hb⟩
theorem coverPx_le {a b p : Int} {d : List Int} (hv : validI a b p d = true) (lw lh : Int) (ld : List Int) (X Y mode alpha : Int) {x y : Nat} (hx : (x : Int) < a) (hy : (y : Int) < b) : (coverPx a p d lw lh ld X Y mode alpha x y).length ≤ 4 := by
 have h := pxAt_le hv hx hy
 unfold coverPx
 split
 ·rw [List.length_zipWith]; omega
 exact h

/- impl.coverImage: an image that is covered by a valid layer. -/

def impl_coverImage.f (a b p : Int) (d : List Int) (lw lh lp : Int) (ld : List Int) (X Y mode alpha : Int) (hid : Bool) : Option (Int × Int × Int × List Int) :=
 if validI a b p d = true ∧ validI lw lh lp ld = true ∧ lp = p ∧ (-16 ≤ X ∧ X ≤ 16) ∧ (-16 ≤ Y ∧ Y ≤ 16) then some (a, b, p, imgD (coverPx a p d lw lh ld X Y mode alpha) a.toNat b.toNat) else none
set_option maxHeartbeats 4000000 in
set_option maxRecDepth 100000 in
theorem cover_yes (a b : Nat) (p : Int) (A : Option Addr) (c : Nat) (d : List Int) (lw lh : Int) (AL : Option Addr) (cl : Nat) (ld : List Int) (X Y mode alpha : Int) (hid : Bool) (w : World) (hr0_3 : Kd.C (Kd.int .i64) w A d.length d) (hc0_3 : d.length ≤ c) (hr1_3 : Kd.C (Kd.int .i64) w AL ld.length ld) (hc1_3 : ld.length ≤ cl) (hv1 : validI a b p d = true) (hvl : validI lw lh p ld = true) (hX : -16 ≤ X ∧ X ≤ 16) (hY : -16 ≤ Y ∧ Y ≤ 16) :
  Calls Try.prog 105 #[.agg #[.int .i64 (a : Int), .int .i64 (b : Int), .int .i64 p, .slice A d.length c], .agg #[.int .i64 lw, .int .i64 lh, .int .i64 p, .slice AL ld.length cl, .int .i64 X, .int .i64 Y, .int .i64 mode, .int .i64 alpha, .bool hid]] w fun e w' => ∃ v3_ : Value, e = .returned (.agg #[.int .i64 (a : Int), .int .i64 (b : Int), .int .i64 p, v3_]) ∧ Kd.R (Kd.int .i64) 3 w' w.heap.size (fun _ => True) v3_ (imgD (coverPx a p d lw lh ld X Y mode alpha) a b) ∧ Below w.heap.size w w' := by
 have HC := mk hc0_3
 have HR := mk hr0_3
 have HCL := mk hc1_3
 have HRL := mk hr1_3
 have HB0 := mk (Below.refl w.heap.size w)
 have HV := mk hv1
 have HVL := mk hvl
 have HXY := mk (And.intro hX hY)
 have hu := Try.underlying27
 have hs := ((validI_iff a b p d).1 hv1).1
 have HPL := mk (show ∀ x y, x < a → y < b → (coverPx a p d lw lh ld X Y mode alpha x y).length ≤ 4 from fun x y hx hy => coverPx_le hv1 lw lh ld X Y mode alpha (by omega) (by omega))
 clear hr0_3 hc0_3 hr1_3 hc1_3 hv1 hvl hX hY
 go_enter Try.func105, Try.ntmps105
 go_wp2_with (first | ((with_reducible refine gate_dst (N := 2) rfl ?_); refine box_event (by rfl) (N := 2) (by rfl) (cs := #[.int .i64 (a : Int), .int .i64 (b : Int), .int .i64 p, .slice A d.length c]) (t := 27) (by go_simp; done) ?_; intro g1 hg_ w1 hbox hb; have HB1 := mk (below_then HB0.out HB0.out.size hb); have Kb0 := mk hbox; have Gg1 := mk (show w.heap.size ≤ g1 from by rw [hg_]; exact HB0.out.size); have Kg1_1 := mk hbox; clear hbox hb hg_) | ((with_reducible refine gate_dst (N := 3) rfl ?_); refine box_event (by rfl) (N := 3) (by rfl) (cs := #[.int .i64 lw, .int .i64 lh, .int .i64 p, .slice AL ld.length cl, .int .i64 X, .int .i64 Y, .int .i64 mode, .int .i64 alpha, .bool hid]) (t := 55) (by go_simp; done) ?_; intro g3 hg_ w2 hbox hb; have HB2 := mk (below_then HB1.out HB1.out.size hb); have Kb1 := mk hbox; have Gg3 := mk (show w.heap.size ≤ g3 from by rw [hg_]; exact HB1.out.size); have Kg1_2 := mk (blk_below Kg1_1.out hb); have Kg3_2 := mk hbox; clear hbox hb hg_) | ((with_reducible refine gate_dst (N := 4) rfl ?_); refine box_event (by rfl) (N := 4) (by rfl) (cs := #[.int .i64 0, .int .i64 0, .int .i64 0, .slice none 0 0]) (t := 27) (by go_simp; done) ?_; intro g2 hg_ w3 hbox hb; have HB3 := mk (below_then HB2.out HB2.out.size hb); have Kb2 := mk hbox; have Gg2 := mk (show w.heap.size ≤ g2 from by rw [hg_]; exact HB2.out.size); have Kg1_3 := mk (blk_below Kg1_2.out hb); have Kg3_3 := mk (blk_below Kg3_2.out hb); have Kg2_3 := mk hbox; have fg1_0 : w3.cell? ⟨g1, 0, none⟩ = some (.int .i64 (a : Int)) := (blk_cell Kg1_3.out 0).trans rfl; have fg1_1 : w3.cell? ⟨g1, 1, none⟩ = some (.int .i64 (b : Int)) := (blk_cell Kg1_3.out 1).trans rfl; have fg1_2 : w3.cell? ⟨g1, 2, none⟩ = some (.int .i64 p) := (blk_cell Kg1_3.out 2).trans rfl; have fg1_3 : w3.cell? ⟨g1, 3, none⟩ = some (.slice A d.length c) := (blk_cell Kg1_3.out 3).trans rfl; have fg3_0 : w3.cell? ⟨g3, 0, none⟩ = some (.int .i64 lw) := (blk_cell Kg3_3.out 0).trans rfl; have fg3_1 : w3.cell? ⟨g3, 1, none⟩ = some (.int .i64 lh) := (blk_cell Kg3_3.out 1).trans rfl; have fg3_2 : w3.cell? ⟨g3, 2, none⟩ = some (.int .i64 p) := (blk_cell Kg3_3.out 2).trans rfl; have fg3_3 : w3.cell? ⟨g3, 3, none⟩ = some (.slice AL ld.length cl) := (blk_cell Kg3_3.out 3).trans rfl; have fg3_4 : w3.cell? ⟨g3, 4, none⟩ = some (.int .i64 X) := (blk_cell Kg3_3.out 4).trans rfl; have fg3_5 : w3.cell? ⟨g3, 5, none⟩ = some (.int .i64 Y) := (blk_cell Kg3_3.out 5).trans rfl; have fg3_6 : w3.cell? ⟨g3, 6, none⟩ = some (.int .i64 mode) := (blk_cell Kg3_3.out 6).trans rfl; have fg3_7 : w3.cell? ⟨g3, 7, none⟩ = some (.int .i64 alpha) := (blk_cell Kg3_3.out 7).trans rfl; have fg3_8 : w3.cell? ⟨g3, 8, none⟩ = some (.bool hid) := (blk_cell Kg3_3.out 8).trans rfl; have fg2_0 : w3.cell? ⟨g2, 0, none⟩ = some (.int .i64 0) := (blk_cell Kg2_3.out 0).trans rfl; have fg2_1 : w3.cell? ⟨g2, 1, none⟩ = some (.int .i64 0) := (blk_cell Kg2_3.out 1).trans rfl; have fg2_2 : w3.cell? ⟨g2, 2, none⟩ = some (.int .i64 0) := (blk_cell Kg2_3.out 2).trans rfl; have fg2_3 : w3.cell? ⟨g2, 3, none⟩ = some (.slice none 0 0) := (blk_cell Kg2_3.out 3).trans rfl; have yg2_0 := blk_frozen Kg2_3.out 0; have yg2_1 := blk_frozen Kg2_3.out 1; have yg2_2 := blk_frozen Kg2_3.out 2; have yg2_3 := blk_frozen Kg2_3.out 3; clear hbox hb hg_) | (go_at_call 107; refine (imageBy_calls 142 #[.pointer (some ⟨g1, 0, none⟩), .pointer (some ⟨g3, 0, none⟩)] (coverPx a p d lw lh ld X Y mode alpha) a b p (by omega) (by omega) w3 (enters_of Try.func142 (by kernel_rfl) rfl) HPL.out (fun W x y hx hy hW => cover1_calls a b p A c d HV.out HC.out lw lh X Y mode alpha hid AL cl ld HVL.out HCL.out HXY.out.1 HXY.out.2 x y (by omega) (by omega) g1 g3 W (blk_below Kg1_3.out hW) (blk_below Kg3_3.out hW) (Kd.C_below (Kd.C_below HR.out HB3.out) hW) (Kd.C_below (Kd.C_below HRL.out HB3.out) hW))).mono ?_; rintro e w4 ⟨v4, rfl, hr4, hb_⟩; have HB4 := mk (below_then HB3.out HB3.out.size hb_); have Kg1_4 := mk (blk_below Kg1_3.out hb_); have eg1_4_0 : w4.cell? ⟨g1, 0, none⟩ = some (.int .i64 (a : Int)) := (blk_cell Kg1_4.out 0).trans rfl; have eg1_4_1 : w4.cell? ⟨g1, 1, none⟩ = some (.int .i64 (b : Int)) := (blk_cell Kg1_4.out 1).trans rfl; have eg1_4_2 : w4.cell? ⟨g1, 2, none⟩ = some (.int .i64 p) := (blk_cell Kg1_4.out 2).trans rfl; have eg1_4_3 : w4.cell? ⟨g1, 3, none⟩ = some (.slice A d.length c) := (blk_cell Kg1_4.out 3).trans rfl; have Kg3_4 := mk (blk_below Kg3_3.out hb_); have eg3_4_0 : w4.cell? ⟨g3, 0, none⟩ = some (.int .i64 lw) := (blk_cell Kg3_4.out 0).trans rfl; have eg3_4_1 : w4.cell? ⟨g3, 1, none⟩ = some (.int .i64 lh) := (blk_cell Kg3_4.out 1).trans rfl; have eg3_4_2 : w4.cell? ⟨g3, 2, none⟩ = some (.int .i64 p) := (blk_cell Kg3_4.out 2).trans rfl; have eg3_4_3 : w4.cell? ⟨g3, 3, none⟩ = some (.slice AL ld.length cl) := (blk_cell Kg3_4.out 3).trans rfl; have eg3_4_4 : w4.cell? ⟨g3, 4, none⟩ = some (.int .i64 X) := (blk_cell Kg3_4.out 4).trans rfl; have eg3_4_5 : w4.cell? ⟨g3, 5, none⟩ = some (.int .i64 Y) := (blk_cell Kg3_4.out 5).trans rfl; have eg3_4_6 : w4.cell? ⟨g3, 6, none⟩ = some (.int .i64 mode) := (blk_cell Kg3_4.out 6).trans rfl; have eg3_4_7 : w4.cell? ⟨g3, 7, none⟩ = some (.int .i64 alpha) := (blk_cell Kg3_4.out 7).trans rfl; have eg3_4_8 : w4.cell? ⟨g3, 8, none⟩ = some (.bool hid) := (blk_cell Kg3_4.out 8).trans rfl; have Kg2_4 := mk (blk_below Kg2_3.out hb_); have eg2_4_0 : w4.cell? ⟨g2, 0, none⟩ = some (.int .i64 0) := (blk_cell Kg2_4.out 0).trans rfl; have eg2_4_1 : w4.cell? ⟨g2, 1, none⟩ = some (.int .i64 0) := (blk_cell Kg2_4.out 1).trans rfl; have eg2_4_2 : w4.cell? ⟨g2, 2, none⟩ = some (.int .i64 0) := (blk_cell Kg2_4.out 2).trans rfl; have eg2_4_3 : w4.cell? ⟨g2, 3, none⟩ = some (.slice none 0 0) := (blk_cell Kg2_4.out 3).trans rfl; have yg2_4_0 := blk_frozen Kg2_4.out 0; have yg2_4_1 := blk_frozen Kg2_4.out 1; have yg2_4_2 := blk_frozen Kg2_4.out 2; have yg2_4_3 := blk_frozen Kg2_4.out 3; have HR4 := mk (Kd.R_lower hr4 HB3.out.size); obtain ⟨A4, c4, ev4⟩ := Kd.R_slice HR4.out; subst ev4; clear hr4 hb_))
 have G2 := Gg2.out
 have RR := Kd.R_types HR4.out Kg2_4.out (by decide)
 refine bodyPost_ret (results_cell_row rfl _ _ g2 27 #[.int .i64 (a : Int), .int .i64 (b : Int), .int .i64 p, .slice A4 (imgD (coverPx a p d lw lh ld X Y mode alpha) a b).length c4] (0, 0) _ rfl (by
  refine blk_put (cs := #[.int .i64 (a : Int), .int .i64 (b : Int), .int .i64 p, .slice none 0 0]) ?_ 3 _ rfl
  refine blk_put (cs := #[.int .i64 (a : Int), .int .i64 (b : Int), .int .i64 0, .slice none 0 0]) ?_ 2 _ rfl
  refine blk_put (cs := #[.int .i64 (a : Int), .int .i64 0, .int .i64 0, .slice none 0 0]) ?_ 1 _ rfl
  refine blk_put (cs := #[.int .i64 0, .int .i64 0, .int .i64 0, .slice none 0 0]) ?_ 0 _ rfl
  exact Kg2_4.out
  ) hu rfl (by kernel_rfl)) rfl ?_
 exact ⟨_, rfl, Kd.R_mono (Kd.R_far (Kd.R_far (Kd.R_far (Kd.R_far RR (fun k hk => hk.2) _) (fun k hk => hk.2) _) (fun k hk => hk.2) _) (fun k hk => hk.2) _) (fun _ _ => trivial), below_set (below_set (below_set (below_set HB4.out (by omega)) (by omega)) (by omega)) (by omega)⟩
theorem impl_coverImage.calls (a b p : Int) (A : Option Addr) (c : Nat) (d : List Int) (lw lh lp : Int) (AL : Option Addr) (cl : Nat) (ld : List Int) (X Y mode alpha : Int) (hid : Bool) (r1 r2 r3 : Int) (r4 : List Int) (w : World) (hr0_3 : Kd.C (Kd.int .i64) w A d.length d) (hc0_3 : d.length ≤ c) (hr1_3 : Kd.C (Kd.int .i64) w AL ld.length ld) (hc1_3 : ld.length ≤ cl) (h : impl_coverImage.f a b p d lw lh lp ld X Y mode alpha hid = some (r1, r2, r3, r4)) :
  Calls Try.prog 105 #[.agg #[.int .i64 a, .int .i64 b, .int .i64 p, .slice A d.length c], .agg #[.int .i64 lw, .int .i64 lh, .int .i64 lp, .slice AL ld.length cl, .int .i64 X, .int .i64 Y, .int .i64 mode, .int .i64 alpha, .bool hid]] w fun e w' => ∃ v3_ : Value, e = .returned (.agg #[.int .i64 r1, .int .i64 r2, .int .i64 r3, v3_]) ∧ Kd.R (Kd.int .i64) 3 w' w.heap.size (fun _ => True) v3_ r4 ∧ Below w.heap.size w w' := by
 unfold impl_coverImage.f at h
 by_cases hc : validI a b p d = true ∧ validI lw lh lp ld = true ∧ lp = p ∧ (-16 ≤ X ∧ X ≤ 16) ∧ (-16 ≤ Y ∧ Y ≤ 16)
 ·rw [if_pos hc] at h
  obtain ⟨hv1, hvl, rfl, hX, hY⟩ := hc
  have hs := ((validI_iff a b lp d).1 hv1).1
  obtain ⟨an, rfl⟩ := Int.eq_ofNat_of_zero_le (show 0 ≤ a by omega)
  obtain ⟨bn, rfl⟩ := Int.eq_ofNat_of_zero_le (show 0 ≤ b by omega)
  obtain ⟨rfl, rfl, rfl, rfl⟩ : (an : Int) = r1 ∧ (bn : Int) = r2 ∧ lp = r3 ∧ imgD (coverPx an lp d lw lh ld X Y mode alpha) an bn = r4 := by simpa using h
  exact cover_yes an bn lp A c d lw lh AL cl ld X Y mode alpha hid w hr0_3 hc0_3 hr1_3 hc1_3 hv1 hvl hX hY
 rw [if_neg hc] at h; cases h
end Go.Proofs.Ytnofkbbcbpjhfaa.Q

namespace Go.Proofs.Ytnofkbbcbpjhfaa.Q
open Go.RowKit Go.Proofs.YtnofkbbcbpjhfaaW.PrintWords Go.Proofs.YtnofkbbcbpjhfaaW.PrintLast Go.Proofs.YtnofkbbcbpjhfaaW.PrintMore
attribute [local go_sem] max2_int min2_int max_two min_two max_three min_three max_four min_four
set_option linter.unusedVariables false
set_option linter.unusedSimpArgs false
open Go.Proofs.YtnofkbbcbpjhfaaW.PrintWords.Aside0 (mk)
set_option maxHeartbeats 12000000
set_option maxRecDepth 100000
mutual
def impl_flatten.j0 : Nat → List S55 → Bool → Int → Int → Int → List Int → Option (Int × Int × Int × List Int × Bool)
 | 0, _, _, _, _, _, _ => none
 | k + 1, x1, x16, xz8, xz9, xz7, xz10 => if x16 = true then (some (0, 0, 0, ([] : List Int), false)) else ((impl_copyImage.f xz8 xz9 xz7 xz10).bind fun btz1 => (impl_flatten.l0 k x1 (x1.length : Int) 0 xz8 xz9 xz7 xz10 btz1.1 btz1.2.1 btz1.2.2.1 btz1.2.2.2))
def impl_flatten.l0 : Nat → List S55 → Int → Int → Int → Int → Int → List Int → Int → Int → Int → List Int → Option (Int × Int × Int × List Int × Bool)
 | 0, _, _, _, _, _, _, _, _, _, _, _ => none
 | k + 1, x20, x21, x22, xz8, xz9, xz7, xz10, xz11, xz12, xz13, xz14 => if x22 < x21 then (if 0 ≤ x22 then (if x22 < (x20.length : Int) then ((impl_isLayer.f ((rd_T55 x20 x22).f0.f0) ((rd_T55 x20 x22).f0.f1) ((rd_T55 x20 x22).f0.f2) ((rd_T55 x20 x22).f0.f3) ((rd_T55 x20 x22).f1) ((rd_T55 x20 x22).f2) ((rd_T55 x20 x22).f3) ((rd_T55 x20 x22).f4) ((rd_T55 x20 x22).f5) xz7).bind fun tz9 => (if tz9 = true then (if ((rd_T55 x20 x22).f5 = true) then (impl_flatten.l0 k x20 x21 (wrap64 (x22 + 1)) xz8 xz9 xz7 xz10 xz11 xz12 xz13 xz14) else ((impl_coverImage.f xz11 xz12 xz13 xz14 ((rd_T55 x20 x22).f0.f0) ((rd_T55 x20 x22).f0.f1) ((rd_T55 x20 x22).f0.f2) ((rd_T55 x20 x22).f0.f3) ((rd_T55 x20 x22).f1) ((rd_T55 x20 x22).f2) ((rd_T55 x20 x22).f3) ((rd_T55 x20 x22).f4) ((rd_T55 x20 x22).f5)).bind fun btz0 => (impl_flatten.l0 k x20 x21 (wrap64 (x22 + 1)) xz8 xz9 xz7 xz10 btz0.1 btz0.2.1 btz0.2.2.1 btz0.2.2.2))) else (some (0, 0, 0, ([] : List Int), false)))) else none) else none) else (some (xz11, xz12, xz13, xz14, true))
end
def impl_flatten.f (k : Nat) (a0_0 : Int) (a0_1 : Int) (a0_2 : Int) (l0_3 : List Int) (l1 : List S55) : Option (Int × Int × Int × List Int × Bool) := (impl_isImage.f a0_0 a0_1 a0_2 l0_3).bind fun tz2 => (if tz2 = true then (impl_flatten.j0 k l1 (decide ((l1.length : Int) > 6)) a0_0 a0_1 a0_2 l0_3) else (impl_flatten.j0 k l1 true a0_0 a0_1 a0_2 l0_3))
theorem impl_flatten.calls (k : Nat) (a0_0 : Int) (a0_1 : Int) (a0_2 : Int) (A0_3 : Option Addr) (c0_3 : Nat) (l0_3 : List Int) (A1 : Option Addr) (c1 : Nat) (l1 : List S55) (r1 : Int) (r2 : Int) (r3 : Int) (r4 : List Int) (r5 : Bool) (w : World) (hr0_3 : Kd.C (Kd.int .i64) w A0_3 l0_3.length l0_3) (hc0_3 : l0_3.length ≤ c0_3) (hr1 : Kd.C k55 w A1 l1.length l1) (hc1 : l1.length ≤ c1) (h : impl_flatten.f k a0_0 a0_1 a0_2 l0_3 l1 = some (r1, r2, r3, r4, r5)) :
  Calls Try.prog 119 #[.agg #[.int .i64 a0_0, .int .i64 a0_1, .int .i64 a0_2, .slice A0_3 l0_3.length c0_3], .slice A1 l1.length c1] w fun e w' => ∃ v3_ : Value, e = .returned (.tuple #[.agg #[.int .i64 r1, .int .i64 r2, .int .i64 r3, v3_], .bool r5]) ∧ Kd.R (Kd.int .i64) 3 w' w.heap.size (fun _ => True) v3_ r4 ∧ Below w.heap.size w w' := by
 have hu27 := Try.underlying27
 have hu55 := Try.underlying55
 have HR0_3 := mk hr0_3
 have HC0_3 := mk hc0_3
 clear hr0_3 hc0_3
 have HR1 := mk hr1
 have HC1 := mk hc1
 clear hr1 hc1
 have HB := mk (Below.refl w.heap.size w)
 have H : ((impl_isImage.f a0_0 a0_1 a0_2 l0_3).bind fun tz2 => (if tz2 = true then (impl_flatten.j0 k l1 (decide ((l1.length : Int) > 6)) a0_0 a0_1 a0_2 l0_3) else (impl_flatten.j0 k l1 true a0_0 a0_1 a0_2 l0_3))) = some (r1, r2, r3, r4, r5) := h
 clear h
 have HC3 := mk H
 clear H
 go_enter Try.func119, Try.ntmps119
 go_upto_region 1 with (first | ((with_reducible refine gate_dst (N := 2) rfl ?_); (try (refine gate_guard (by rfl) ?_; dsimp only)); refine box_event (by rfl) (N := 2) (by rfl) (cs := #[.int .i64 a0_0, .int .i64 a0_1, .int .i64 a0_2, .slice A0_3 l0_3.length c0_3]) (t := 27) (by go_simp; done) ?_; intro gbz3 hg w4 hbox hb; replace HB := mk (below_step HB.out hb); have BKz2 := mk (hbox); clear hb hbox hg) | ((with_reducible refine gate_dst (N := 4) rfl ?_); (try (refine gate_guard (by rfl) ?_; dsimp only)); refine box_event (by rfl) (N := 4) (by rfl) (cs := #[.int .i64 0, .int .i64 0, .int .i64 0, .slice none 0 0]) (t := 27) (by go_simp; done) ?_; intro gbz2 hg w5 hbox hb; have BKz1 := mk (hbox); have GEz1 := mk ((by rw [hg]; exact (below_size HB.out) : w.heap.size ≤ gbz2)); replace HB := mk (below_step HB.out hb); have NBz7 := mk ((by rw [hg]; exact Nat.ne_of_lt (blk_lt BKz2.out) : gbz3 ≠ gbz2)); have NBz8 := mk ((by rw [hg]; exact Nat.ne_of_gt (blk_lt BKz2.out) : gbz2 ≠ gbz3)); replace BKz2 := mk (blk_below BKz2.out hb); clear hb hbox hg))
 go_cut [16] (fun v16 wc => ∃ (kq : Nat) (x16_2 : Bool), v16 = .bool x16_2 ∧ Aside0 (impl_flatten.j0 kq l1 x16_2 a0_0 a0_1 a0_2 l0_3 = some (r1, r2, r3, r4, r5)) ∧ Aside0 (kq ≤ k) ∧ Aside0 (wc.heap[gbz3]? = some (.cells #[.int .i64 a0_0, .int .i64 a0_1, .int .i64 a0_2, (.slice A0_3 l0_3.length c0_3)] 27 (0, 0))) ∧ Aside0 (wc.heap[gbz2]? = some (.cells #[.int .i64 0, .int .i64 0, .int .i64 0, (.slice none 0 0)] 27 (0, 0))) ∧ Aside0 (Below w.heap.size w wc))
 case first =>
  have H := HC3.out
  clear HC3
  replace H := Option.bind_eq_some_iff.mp H
  obtain ⟨tz2, A60, H⟩ := H
  replace H : (if tz2 = true then (impl_flatten.j0 k l1 (decide ((l1.length : Int) > 6)) a0_0 a0_1 a0_2 l0_3) else (impl_flatten.j0 k l1 true a0_0 a0_1 a0_2 l0_3)) = some (r1, r2, r3, r4, r5) := H
  have A6 := mk A60
  clear A60
  by_cases c7 : tz2 = true
  ·subst c7
   have H1 : (impl_flatten.j0 k l1 (decide ((l1.length : Int) > 6)) a0_0 a0_1 a0_2 l0_3) = some (r1, r2, r3, r4, r5) := by rw [if_pos rfl] at H; exact H
   clear H
   have H := H1
   clear H1
   have H' := mk H
   clear H
   obtain ⟨hcz9_0, hcz9_1, hcz9_2, hcz9_3, -⟩ := c4 BKz2.out
   go_wp2_with (first | ((with_reducible refine gate_callee (f := 83) rfl ?_); refine goesL_ (some 10) rfl rfl Try.func83 (by kernel_rfl) rfl #[.agg #[.int .i64 a0_0, .int .i64 a0_1, .int .i64 a0_2, .slice A0_3 l0_3.length c0_3]] rfl (by (try simp only [bitvec_to_nat]); rfl) ?_; (with_reducible refine (impl_isImage.calls a0_0 a0_1 a0_2 _ _ l0_3 true _ ?side1 ?side2 A6.out).mono ?_); (case side1 => repeat (exact (Kd.C_below HR0_3.out HB.out))); (case side2 => exact HC0_3.out); rintro e w10 ⟨rfl, hb⟩; refine ⟨_, rfl, ?_⟩; replace BKz2 := mk (blk_below BKz2.out hb); replace BKz1 := mk (blk_below BKz1.out hb); replace HB := mk (below_step HB.out hb)))
   go_meet
   case rel => exact ⟨_, (decide ((l1.length : Int) > 6)), (by rfl), H', ⟨by omega⟩, BKz2, BKz1, HB⟩
  replace c7 := Bool.eq_false_iff.mpr c7
  subst c7
  have H1 : (impl_flatten.j0 k l1 true a0_0 a0_1 a0_2 l0_3) = some (r1, r2, r3, r4, r5) := by rw [if_neg (show ¬ (false = true) by decide)] at H; exact H
  clear H
  have H := H1
  clear H1
  have H' := mk H
  clear H
  obtain ⟨hcz12_0, hcz12_1, hcz12_2, hcz12_3, -⟩ := c4 BKz2.out
  go_wp2_with (first | ((with_reducible refine gate_callee (f := 83) rfl ?_); refine goesL_ (some 10) rfl rfl Try.func83 (by kernel_rfl) rfl #[.agg #[.int .i64 a0_0, .int .i64 a0_1, .int .i64 a0_2, .slice A0_3 l0_3.length c0_3]] rfl (by (try simp only [bitvec_to_nat]); rfl) ?_; (with_reducible refine (impl_isImage.calls a0_0 a0_1 a0_2 _ _ l0_3 false _ ?side1 ?side2 A6.out).mono ?_); (case side1 => repeat (exact (Kd.C_below HR0_3.out HB.out))); (case side2 => exact HC0_3.out); rintro e w13 ⟨rfl, hb⟩; refine ⟨_, rfl, ?_⟩; replace BKz2 := mk (blk_below BKz2.out hb); replace BKz1 := mk (blk_below BKz1.out hb); replace HB := mk (below_step HB.out hb)))
  go_meet
  case rel => exact ⟨_, (true), (by rfl), H', ⟨by omega⟩, BKz2, BKz1, HB⟩
 case rest =>
  clear HC3
  obtain ⟨kq, x16_2, rfl, HA, HJ2, BKz2, BKz1, HB⟩ := hcut
  cases kq with
  | zero => exact absurd HA.out (by simp [impl_flatten.j0])
  | succ kj2 =>
   have H := HA.out
   clear HA
   simp only [impl_flatten.j0] at H
   by_cases c14 : x16_2 = true
   ·subst c14
    have H1 : (some (0, 0, 0, ([] : List Int), false)) = some (r1, r2, r3, r4, r5) := by rw [if_pos rfl] at H; exact H
    clear H
    have H := H1
    clear H1
    simp only [Option.some.injEq, Prod.mk.injEq] at H
    obtain ⟨rfl, rfl, rfl, rfl, rfl⟩ := H
    obtain ⟨hcz16_0, hcz16_1, hcz16_2, hcz16_3, hfz16_0, hfz16_1, hfz16_2, hfz16_3⟩ := c4 BKz1.out
    go_wp2
    refine bodyPost_ret (results_ct rfl _ _ gbz2 27 #[.int .i64 0, .int .i64 0, .int .i64 0, .slice none 0 0] (0, 0) _ rfl (by refine p4 (.int .i64 0) (.int .i64 0) (.int .i64 0) (.slice none 0 0) ?_; exact BKz1.out) Try.underlying27 rfl (by kernel_rfl)) rfl ?_
    exact ⟨_, by rfl, by exact Kd.R_nil _ _ _ _ _, by repeat (with_reducible first | exact HB.out | refine below_set ?_ GEz1.out)⟩
   replace c14 := Bool.eq_false_iff.mpr c14
   subst c14
   have H1 : ((impl_copyImage.f a0_0 a0_1 a0_2 l0_3).bind fun btz1 => (impl_flatten.l0 kj2 l1 (l1.length : Int) 0 a0_0 a0_1 a0_2 l0_3 btz1.1 btz1.2.1 btz1.2.2.1 btz1.2.2.2)) = some (r1, r2, r3, r4, r5) := by rw [if_neg (show ¬ (false = true) by decide)] at H; exact H
   clear H
   have H := H1
   clear H1
   replace H := Option.bind_eq_some_iff.mp H
   obtain ⟨⟨tz0, tz3, tz5, tz6⟩, A170, H⟩ := H
   dsimp only at H
   have A17 := mk A170
   clear A170
   have H' := mk H
   clear H
   obtain ⟨hcz19_0, hcz19_1, hcz19_2, hcz19_3, hfz19_0, hfz19_1, hfz19_2, hfz19_3⟩ := c4 BKz2.out
   go_wp2_with (first | ((with_reducible refine gate_callee (f := 133) rfl ?_); refine goesL_ (some 19) rfl rfl Try.func133 (by kernel_rfl) rfl #[.agg #[.int .i64 a0_0, .int .i64 a0_1, .int .i64 a0_2, .slice A0_3 l0_3.length c0_3]] rfl (by (try simp only [bitvec_to_nat]); rfl) ?_; (with_reducible refine (impl_copyImage.calls a0_0 a0_1 a0_2 _ _ l0_3 tz0 tz3 tz5 tz6 _ ?side1 ?side2 A17.out).mono ?_); (case side1 => repeat (exact (Kd.C_below HR0_3.out HB.out))); (case side2 => exact HC0_3.out); rintro e w20 ⟨vz0, rfl, ho0, hb⟩; refine ⟨_, rfl, ?_⟩; have HOz1 := mk (Kd.R_lower ho0 (below_size HB.out)); replace BKz2 := mk (blk_below BKz2.out hb); replace BKz1 := mk (blk_below BKz1.out hb); replace HB := mk (below_step HB.out hb)) | ((with_reducible refine gate_dst (N := 6) rfl ?_); (try (refine gate_guard (by rfl) ?_; dsimp only)); refine box_event (by rfl) (N := 6) (by rfl) (cs := #[.int .i64 0, .int .i64 0, .int .i64 0, .slice none 0 0]) (t := 27) (by go_simp; done) ?_; intro gbz1 hg w21 hbox hb; replace HOz1 := mk (Kd.R_below HOz1.out hb); have BKz3 := mk (hbox); have GEz2 := mk ((by rw [hg]; exact (below_size HB.out) : w.heap.size ≤ gbz1)); replace HB := mk (below_step HB.out hb); have NBz3 := mk ((by rw [hg]; exact Nat.ne_of_lt (blk_lt BKz2.out) : gbz3 ≠ gbz1)); have NBz9 := mk ((by rw [hg]; exact Nat.ne_of_gt (blk_lt BKz2.out) : gbz1 ≠ gbz3)); replace BKz2 := mk (blk_below BKz2.out hb); have NBz4 := mk ((by rw [hg]; exact Nat.ne_of_lt (blk_lt BKz1.out) : gbz2 ≠ gbz1)); replace BKz1 := mk (blk_below BKz1.out hb); clear hb hbox hg; obtain ⟨hcz24_0, hcz24_1, hcz24_2, hcz24_3, hfz24_0, hfz24_1, hfz24_2, hfz24_3⟩ := c4 BKz3.out; obtain ⟨Ao25, co25, eo25⟩ := Kd.R_slice HOz1.out; subst eo25))
   go_loopg [22] kj2 (fun kq v22 w' => ∃ (x22_2 : Int) (xz6 : Int) (xz5 : Int) (xz4 : Int) (xz0 : Int) (xz1 : Int) (xz2 : Int) (xz3 : List Int) (aB : Value), v22 = .int .i64 x22_2 ∧ Aside0 (impl_flatten.l0 kq l1 (l1.length : Int) x22_2 a0_0 a0_1 a0_2 l0_3 xz0 xz1 xz2 xz3 = some (r1, r2, r3, r4, r5)) ∧ Aside0 (kq ≤ kj2) ∧ Aside0 (Kd.R (Kd.int .i64) 3 w' w.heap.size (fun _ => True) aB xz3) ∧ Aside0 (w'.heap[gbz3]? = some (.cells #[.int .i64 a0_0, .int .i64 a0_1, .int .i64 a0_2, (.slice A0_3 l0_3.length c0_3)] 27 (0, 0))) ∧ Aside0 (w'.heap[gbz2]? = some (.cells #[.int .i64 xz6, .int .i64 xz5, .int .i64 xz4, (.slice none 0 0)] 27 (0, 0))) ∧ Aside0 (w'.heap[gbz1]? = some (.cells #[.int .i64 xz0, .int .i64 xz1, .int .i64 xz2, aB] 27 (0, 0))) ∧ Aside0 (Below w.heap.size w w'))
   case atStart => exact ⟨(0), (0), (0), (0), (tz0), (tz3), (tz5), (tz6), (.slice Ao25 tz6.length co25), (by rfl), H', ⟨Nat.le_refl _⟩, ⟨by exact Kd.R_mono (R4 (Kd.R_types HOz1.out BKz3.out (by decide)) (.int .i64 tz0) (.int .i64 tz3) (.int .i64 tz5) (.slice Ao25 tz6.length co25)) (fun _ hk => trivial)⟩, ⟨by refine f4 ?_ NBz3.out; exact BKz2.out⟩, ⟨by refine f4 ?_ NBz4.out; exact BKz1.out⟩, ⟨by refine p4 (.int .i64 0) (.int .i64 0) (.int .i64 0) (.slice none 0 0) ?_; exact BKz3.out⟩, ⟨by repeat (with_reducible first | exact HB.out | refine below_set ?_ GEz2.out)⟩⟩
   case round =>
    clear H'
    obtain ⟨x22_2, xz6, xz5, xz4, xz0, xz1, xz2, xz3, aB, rfl, HA, HK2, HOz0, BKz2, BKz1, BKz3, HB⟩ := hrel
    cases gk with
    | zero => exact absurd HA.out (by simp [impl_flatten.l0])
    | succ k2 =>
     have H := HA.out
     clear HA
     simp only [impl_flatten.l0] at H
     by_cases c26 : x22_2 < (l1.length : Int)
     ·rw [if_pos c26] at H
      have c26b0 : decide (x22_2 < (l1.length : Int)) = true := decide_eq_true c26
      clear c26
      by_cases c27 : 0 ≤ x22_2
      ·rw [if_pos c27] at H
       have c27b0 : decide (0 ≤ x22_2) = true := decide_eq_true c27
       clear c27
       by_cases c28 : x22_2 < (l1.length : Int)
       ·rw [if_pos c28] at H
        have c28b0 : decide (x22_2 < (l1.length : Int)) = true := decide_eq_true c28
        clear c28
        replace H := Option.bind_eq_some_iff.mp H
        obtain ⟨tz9, A290, H⟩ := H
        replace H : (if tz9 = true then (if ((rd_T55 l1 x22_2).f5 = true) then (impl_flatten.l0 k2 l1 (l1.length : Int) (wrap64 (x22_2 + 1)) a0_0 a0_1 a0_2 l0_3 xz0 xz1 xz2 xz3) else ((impl_coverImage.f xz0 xz1 xz2 xz3 ((rd_T55 l1 x22_2).f0.f0) ((rd_T55 l1 x22_2).f0.f1) ((rd_T55 l1 x22_2).f0.f2) ((rd_T55 l1 x22_2).f0.f3) ((rd_T55 l1 x22_2).f1) ((rd_T55 l1 x22_2).f2) ((rd_T55 l1 x22_2).f3) ((rd_T55 l1 x22_2).f4) ((rd_T55 l1 x22_2).f5)).bind fun btz0 => (impl_flatten.l0 k2 l1 (l1.length : Int) (wrap64 (x22_2 + 1)) a0_0 a0_1 a0_2 l0_3 btz0.1 btz0.2.1 btz0.2.2.1 btz0.2.2.2))) else (some (0, 0, 0, ([] : List Int), false))) = some (r1, r2, r3, r4, r5) := H
        have A29 := mk A290
        clear A290
        by_cases c30 : tz9 = true
        ·subst c30
         have H1 : (if ((rd_T55 l1 x22_2).f5 = true) then (impl_flatten.l0 k2 l1 (l1.length : Int) (wrap64 (x22_2 + 1)) a0_0 a0_1 a0_2 l0_3 xz0 xz1 xz2 xz3) else ((impl_coverImage.f xz0 xz1 xz2 xz3 ((rd_T55 l1 x22_2).f0.f0) ((rd_T55 l1 x22_2).f0.f1) ((rd_T55 l1 x22_2).f0.f2) ((rd_T55 l1 x22_2).f0.f3) ((rd_T55 l1 x22_2).f1) ((rd_T55 l1 x22_2).f2) ((rd_T55 l1 x22_2).f3) ((rd_T55 l1 x22_2).f4) ((rd_T55 l1 x22_2).f5)).bind fun btz0 => (impl_flatten.l0 k2 l1 (l1.length : Int) (wrap64 (x22_2 + 1)) a0_0 a0_1 a0_2 l0_3 btz0.1 btz0.2.1 btz0.2.2.1 btz0.2.2.2))) = some (r1, r2, r3, r4, r5) := by rw [if_pos rfl] at H; exact H
         clear H
         have H := H1
         clear H1
         obtain ⟨bq31, hbq31⟩ : ∃ b_ : Bool, b_ = ((rd_T55 l1 x22_2).f5) := ⟨_, rfl⟩
         replace H : (if (bq31 = true) then (impl_flatten.l0 k2 l1 (l1.length : Int) (wrap64 (x22_2 + 1)) a0_0 a0_1 a0_2 l0_3 xz0 xz1 xz2 xz3) else ((impl_coverImage.f xz0 xz1 xz2 xz3 ((rd_T55 l1 x22_2).f0.f0) ((rd_T55 l1 x22_2).f0.f1) ((rd_T55 l1 x22_2).f0.f2) ((rd_T55 l1 x22_2).f0.f3) ((rd_T55 l1 x22_2).f1) ((rd_T55 l1 x22_2).f2) ((rd_T55 l1 x22_2).f3) ((rd_T55 l1 x22_2).f4) bq31).bind fun btz0 => (impl_flatten.l0 k2 l1 (l1.length : Int) (wrap64 (x22_2 + 1)) a0_0 a0_1 a0_2 l0_3 btz0.1 btz0.2.1 btz0.2.2.1 btz0.2.2.2))) = some (r1, r2, r3, r4, r5) := by rw [← hbq31] at H; exact H
         have Nbq31 := mk hbq31
         clear hbq31
         by_cases c32 : (bq31 = true)
         ·subst c32
          have H1 : (impl_flatten.l0 k2 l1 (l1.length : Int) (wrap64 (x22_2 + 1)) a0_0 a0_1 a0_2 l0_3 xz0 xz1 xz2 xz3) = some (r1, r2, r3, r4, r5) := by rw [if_pos rfl] at H; exact H
          clear H
          have H := H1
          clear H1
          have H' := mk H
          clear H
          have aM : 0 ≤ (x22_2 : Int) := of_decide_eq_true (by (with_reducible assumption))
          have aN : x22_2 < (l1.length : Int) := of_decide_eq_true (by (with_reducible assumption))
          obtain ⟨aR, Az0, cz0, aQ, aC, aD, aE, aF, aG, aH, aI, aJ, aA, aK, aL⟩ := at_T55 HR1.out x22_2 aM aN
          (try rw [← Nbq31.out] at aA); (try rw [← Nbq31.out] at A29)
          cases aQ
          replace aC := bc HB.out aC
          replace aD := bc HB.out aD
          replace aE := bc HB.out aE
          replace aF := bc HB.out aF
          replace aG := bc HB.out aG
          replace aH := bc HB.out aH
          replace aI := bc HB.out aI
          replace aJ := bc HB.out aJ
          replace aA := bc HB.out aA
          have aO := mk aL
          have aP := mk aK
          clear aL aK
          replace aM := eq_true aM
          replace aN := eq_true aN
          go_wp2_with (first | ((with_reducible refine gate_dst (N := 8) rfl ?_); (try (refine gate_guard (by rfl) ?_; dsimp only)); refine box_event (by rfl) (N := 8) (by rfl) (cs := #[.int .i64 0, .int .i64 0, .int .i64 0, .slice none 0 0, .int .i64 0, .int .i64 0, .int .i64 0, .int .i64 0, .bool false]) (t := 55) (by go_simp; done) ?_; intro gbz0 hg w33 hbox hb; replace HOz0 := mk (Kd.R_below HOz0.out hb); have BKz0 := mk (hbox); have GEz0 := mk ((by rw [hg]; exact (below_size HB.out) : w.heap.size ≤ gbz0)); replace HB := mk (below_step HB.out hb); have NBz1 := mk ((by rw [hg]; exact Nat.ne_of_lt (blk_lt BKz2.out) : gbz3 ≠ gbz0)); replace BKz2 := mk (blk_below BKz2.out hb); have NBz0 := mk ((by rw [hg]; exact Nat.ne_of_lt (blk_lt BKz1.out) : gbz2 ≠ gbz0)); have NBz5 := mk ((by rw [hg]; exact Nat.ne_of_gt (blk_lt BKz1.out) : gbz0 ≠ gbz2)); replace BKz1 := mk (blk_below BKz1.out hb); have NBz2 := mk ((by rw [hg]; exact Nat.ne_of_lt (blk_lt BKz3.out) : gbz1 ≠ gbz0)); have NBz6 := mk ((by rw [hg]; exact Nat.ne_of_gt (blk_lt BKz3.out) : gbz0 ≠ gbz1)); replace BKz3 := mk (blk_below BKz3.out hb); clear hb hbox hg; have hnc34 := NBz1.out; have hnb35 := NBz5.out; have hnc35 := NBz0.out; have hnb36 := NBz6.out; have hnc36 := NBz2.out; obtain ⟨hcz37_0, hcz37_1, hcz37_2, hcz37_3, hcz37_4, hcz37_5, hcz37_6, hcz37_7, hcz37_8, hfz37_0, hfz37_1, hfz37_2, hfz37_3, hfz37_4, hfz37_5, hfz37_6, hfz37_7, hfz37_8⟩ := c9 BKz0.out; have hnb38 := NBz7.out; have hnc38 := NBz8.out; have hnb39 := NBz3.out; have hnc39 := NBz9.out; have hcz40_2 : w33.cell? ⟨gbz3, 2, none⟩ = some (.int .i64 a0_2) := (blk_cell BKz2.out 2).trans rfl) | ((with_reducible refine gate_callee (f := 103) rfl ?_); refine goesL_ (some 29) rfl rfl Try.func103 (by kernel_rfl) rfl #[.agg #[.int .i64 ((rd_T55 l1 x22_2).f0.f0), .int .i64 ((rd_T55 l1 x22_2).f0.f1), .int .i64 ((rd_T55 l1 x22_2).f0.f2), .slice Az0 ((rd_T55 l1 x22_2).f0.f3).length cz0, .int .i64 ((rd_T55 l1 x22_2).f1), .int .i64 ((rd_T55 l1 x22_2).f2), .int .i64 ((rd_T55 l1 x22_2).f3), .int .i64 ((rd_T55 l1 x22_2).f4), .bool true], .int .i64 a0_2] rfl (by (try simp only [bitvec_to_nat]); rfl) ?_; (with_reducible refine (impl_isLayer.calls ((rd_T55 l1 x22_2).f0.f0) ((rd_T55 l1 x22_2).f0.f1) ((rd_T55 l1 x22_2).f0.f2) _ _ ((rd_T55 l1 x22_2).f0.f3) ((rd_T55 l1 x22_2).f1) ((rd_T55 l1 x22_2).f2) ((rd_T55 l1 x22_2).f3) ((rd_T55 l1 x22_2).f4) true a0_2 true _ ?side1 ?side2 A29.out).mono ?_); (case side1 => exact Kd.C_below aO.out (by repeat (with_reducible first | exact HB.out | refine below_set ?_ GEz0.out))); (case side2 => exact aP.out); rintro e w41 ⟨rfl, hb⟩; refine ⟨_, rfl, ?_⟩; replace HOz0 := mk (Kd.R_below (by exact (Kd.R_mono (R9 (Kd.R_types HOz0.out BKz0.out (by decide)) (.int .i64 ((rd_T55 l1 x22_2).f0.f0)) (.int .i64 ((rd_T55 l1 x22_2).f0.f1)) (.int .i64 ((rd_T55 l1 x22_2).f0.f2)) (.slice Az0 ((rd_T55 l1 x22_2).f0.f3).length cz0) (.int .i64 ((rd_T55 l1 x22_2).f1)) (.int .i64 ((rd_T55 l1 x22_2).f2)) (.int .i64 ((rd_T55 l1 x22_2).f3)) (.int .i64 ((rd_T55 l1 x22_2).f4)) (.bool true)) (fun _ h_ => h_.1))) hb); replace BKz2 := mk (blk_below (g := gbz3) (o := .cells #[.int .i64 a0_0, .int .i64 a0_1, .int .i64 a0_2, .slice A0_3 l0_3.length c0_3] 27 (0, 0)) (by refine f9 ?_ NBz1.out; exact BKz2.out) hb); replace BKz1 := mk (blk_below (g := gbz2) (o := .cells #[.int .i64 xz6, .int .i64 xz5, .int .i64 xz4, .slice none 0 0] 27 (0, 0)) (by refine f9 ?_ NBz0.out; exact BKz1.out) hb); replace BKz3 := mk (blk_below (g := gbz1) (o := .cells #[.int .i64 xz0, .int .i64 xz1, .int .i64 xz2, aB] 27 (0, 0)) (by refine f9 ?_ NBz2.out; exact BKz3.out) hb); replace BKz0 := mk (blk_below (g := gbz0) (o := .cells #[.int .i64 ((rd_T55 l1 x22_2).f0.f0), .int .i64 ((rd_T55 l1 x22_2).f0.f1), .int .i64 ((rd_T55 l1 x22_2).f0.f2), .slice Az0 ((rd_T55 l1 x22_2).f0.f3).length cz0, .int .i64 ((rd_T55 l1 x22_2).f1), .int .i64 ((rd_T55 l1 x22_2).f2), .int .i64 ((rd_T55 l1 x22_2).f3), .int .i64 ((rd_T55 l1 x22_2).f4), .bool true] 55 (0, 0)) (by refine p9 (.int .i64 0) (.int .i64 0) (.int .i64 0) (.slice none 0 0) (.int .i64 0) (.int .i64 0) (.int .i64 0) (.int .i64 0) (.bool false) ?_; exact BKz0.out) hb); replace HB := mk (below_step (by repeat (with_reducible first | exact HB.out | refine below_set ?_ GEz0.out)) hb); have hcz42_8 : w41.cell? ⟨gbz0, 8, none⟩ = some (.bool true) := (blk_cell BKz0.out 8).trans rfl))
          go_roundg k2
          case measure => have := HJ2.out; have := HK2.out; omega
          case rel => exact ⟨(wrap64 (x22_2 + 1)), (xz6), (xz5), (xz4), (xz0), (xz1), (xz2), (xz3), (aB), (by rfl), H', ⟨by have := HJ2.out; have := HK2.out; omega⟩, HOz0, BKz2, BKz1, BKz3, HB⟩
         replace c32 := Bool.eq_false_iff.mpr c32
         subst c32
         have H1 : ((impl_coverImage.f xz0 xz1 xz2 xz3 ((rd_T55 l1 x22_2).f0.f0) ((rd_T55 l1 x22_2).f0.f1) ((rd_T55 l1 x22_2).f0.f2) ((rd_T55 l1 x22_2).f0.f3) ((rd_T55 l1 x22_2).f1) ((rd_T55 l1 x22_2).f2) ((rd_T55 l1 x22_2).f3) ((rd_T55 l1 x22_2).f4) false).bind fun btz0 => (impl_flatten.l0 k2 l1 (l1.length : Int) (wrap64 (x22_2 + 1)) a0_0 a0_1 a0_2 l0_3 btz0.1 btz0.2.1 btz0.2.2.1 btz0.2.2.2)) = some (r1, r2, r3, r4, r5) := by rw [if_neg (show ¬ (false = true) by decide)] at H; exact H
         clear H
         have H := H1
         clear H1
         replace H := Option.bind_eq_some_iff.mp H
         obtain ⟨⟨tz1, tz4, tz7, tz8⟩, A430, H⟩ := H
         dsimp only at H
         have A43 := mk A430
         clear A430
         have H' := mk H
         clear H
         have aM : 0 ≤ (x22_2 : Int) := of_decide_eq_true (by (with_reducible assumption))
         have aN : x22_2 < (l1.length : Int) := of_decide_eq_true (by (with_reducible assumption))
         obtain ⟨aR, Az0, cz0, aQ, aC, aD, aE, aF, aG, aH, aI, aJ, aA, aK, aL⟩ := at_T55 HR1.out x22_2 aM aN
         (try rw [← Nbq31.out] at aA); (try rw [← Nbq31.out] at A29)
         cases aQ
         replace aC := bc HB.out aC
         replace aD := bc HB.out aD
         replace aE := bc HB.out aE
         replace aF := bc HB.out aF
         replace aG := bc HB.out aG
         replace aH := bc HB.out aH
         replace aI := bc HB.out aI
         replace aJ := bc HB.out aJ
         replace aA := bc HB.out aA
         have aO := mk aL
         have aP := mk aK
         clear aL aK
         replace aM := eq_true aM
         replace aN := eq_true aN
         go_wp2_with (first | ((with_reducible refine gate_dst (N := 8) rfl ?_); (try (refine gate_guard (by rfl) ?_; dsimp only)); refine box_event (by rfl) (N := 8) (by rfl) (cs := #[.int .i64 0, .int .i64 0, .int .i64 0, .slice none 0 0, .int .i64 0, .int .i64 0, .int .i64 0, .int .i64 0, .bool false]) (t := 55) (by go_simp; done) ?_; intro gbz0 hg w44 hbox hb; replace HOz0 := mk (Kd.R_below HOz0.out hb); have BKz0 := mk (hbox); have GEz0 := mk ((by rw [hg]; exact (below_size HB.out) : w.heap.size ≤ gbz0)); replace HB := mk (below_step HB.out hb); have NBz1 := mk ((by rw [hg]; exact Nat.ne_of_lt (blk_lt BKz2.out) : gbz3 ≠ gbz0)); replace BKz2 := mk (blk_below BKz2.out hb); have NBz0 := mk ((by rw [hg]; exact Nat.ne_of_lt (blk_lt BKz1.out) : gbz2 ≠ gbz0)); have NBz5 := mk ((by rw [hg]; exact Nat.ne_of_gt (blk_lt BKz1.out) : gbz0 ≠ gbz2)); replace BKz1 := mk (blk_below BKz1.out hb); have NBz2 := mk ((by rw [hg]; exact Nat.ne_of_lt (blk_lt BKz3.out) : gbz1 ≠ gbz0)); have NBz6 := mk ((by rw [hg]; exact Nat.ne_of_gt (blk_lt BKz3.out) : gbz0 ≠ gbz1)); replace BKz3 := mk (blk_below BKz3.out hb); clear hb hbox hg; have hnc45 := NBz1.out; have hnb46 := NBz5.out; have hnc46 := NBz0.out; have hnb47 := NBz6.out; have hnc47 := NBz2.out; obtain ⟨hcz48_0, hcz48_1, hcz48_2, hcz48_3, hcz48_4, hcz48_5, hcz48_6, hcz48_7, hcz48_8, hfz48_0, hfz48_1, hfz48_2, hfz48_3, hfz48_4, hfz48_5, hfz48_6, hfz48_7, hfz48_8⟩ := c9 BKz0.out; have hnb49 := NBz7.out; have hnc49 := NBz8.out; have hnb50 := NBz3.out; have hnc50 := NBz9.out; have hcz51_2 : w44.cell? ⟨gbz3, 2, none⟩ = some (.int .i64 a0_2) := (blk_cell BKz2.out 2).trans rfl) | ((with_reducible refine gate_callee (f := 103) rfl ?_); refine goesL_ (some 29) rfl rfl Try.func103 (by kernel_rfl) rfl #[.agg #[.int .i64 ((rd_T55 l1 x22_2).f0.f0), .int .i64 ((rd_T55 l1 x22_2).f0.f1), .int .i64 ((rd_T55 l1 x22_2).f0.f2), .slice Az0 ((rd_T55 l1 x22_2).f0.f3).length cz0, .int .i64 ((rd_T55 l1 x22_2).f1), .int .i64 ((rd_T55 l1 x22_2).f2), .int .i64 ((rd_T55 l1 x22_2).f3), .int .i64 ((rd_T55 l1 x22_2).f4), .bool false], .int .i64 a0_2] rfl (by (try simp only [bitvec_to_nat]); rfl) ?_; (with_reducible refine (impl_isLayer.calls ((rd_T55 l1 x22_2).f0.f0) ((rd_T55 l1 x22_2).f0.f1) ((rd_T55 l1 x22_2).f0.f2) _ _ ((rd_T55 l1 x22_2).f0.f3) ((rd_T55 l1 x22_2).f1) ((rd_T55 l1 x22_2).f2) ((rd_T55 l1 x22_2).f3) ((rd_T55 l1 x22_2).f4) false a0_2 true _ ?side1 ?side2 A29.out).mono ?_); (case side1 => exact Kd.C_below aO.out (by repeat (with_reducible first | exact HB.out | refine below_set ?_ GEz0.out))); (case side2 => exact aP.out); rintro e w52 ⟨rfl, hb⟩; refine ⟨_, rfl, ?_⟩; replace HOz0 := mk (Kd.R_below (by exact (Kd.R_mono (R9 (Kd.R_types HOz0.out BKz0.out (by decide)) (.int .i64 ((rd_T55 l1 x22_2).f0.f0)) (.int .i64 ((rd_T55 l1 x22_2).f0.f1)) (.int .i64 ((rd_T55 l1 x22_2).f0.f2)) (.slice Az0 ((rd_T55 l1 x22_2).f0.f3).length cz0) (.int .i64 ((rd_T55 l1 x22_2).f1)) (.int .i64 ((rd_T55 l1 x22_2).f2)) (.int .i64 ((rd_T55 l1 x22_2).f3)) (.int .i64 ((rd_T55 l1 x22_2).f4)) (.bool false)) (fun _ h_ => h_.1))) hb); replace BKz2 := mk (blk_below (g := gbz3) (o := .cells #[.int .i64 a0_0, .int .i64 a0_1, .int .i64 a0_2, .slice A0_3 l0_3.length c0_3] 27 (0, 0)) (by refine f9 ?_ NBz1.out; exact BKz2.out) hb); replace BKz1 := mk (blk_below (g := gbz2) (o := .cells #[.int .i64 xz6, .int .i64 xz5, .int .i64 xz4, .slice none 0 0] 27 (0, 0)) (by refine f9 ?_ NBz0.out; exact BKz1.out) hb); replace BKz3 := mk (blk_below (g := gbz1) (o := .cells #[.int .i64 xz0, .int .i64 xz1, .int .i64 xz2, aB] 27 (0, 0)) (by refine f9 ?_ NBz2.out; exact BKz3.out) hb); replace BKz0 := mk (blk_below (g := gbz0) (o := .cells #[.int .i64 ((rd_T55 l1 x22_2).f0.f0), .int .i64 ((rd_T55 l1 x22_2).f0.f1), .int .i64 ((rd_T55 l1 x22_2).f0.f2), .slice Az0 ((rd_T55 l1 x22_2).f0.f3).length cz0, .int .i64 ((rd_T55 l1 x22_2).f1), .int .i64 ((rd_T55 l1 x22_2).f2), .int .i64 ((rd_T55 l1 x22_2).f3), .int .i64 ((rd_T55 l1 x22_2).f4), .bool false] 55 (0, 0)) (by refine p9 (.int .i64 0) (.int .i64 0) (.int .i64 0) (.slice none 0 0) (.int .i64 0) (.int .i64 0) (.int .i64 0) (.int .i64 0) (.bool false) ?_; exact BKz0.out) hb); replace HB := mk (below_step (by repeat (with_reducible first | exact HB.out | refine below_set ?_ GEz0.out)) hb); obtain ⟨hcz53_0, hcz53_1, hcz53_2, hcz53_3, hcz53_4, hcz53_5, hcz53_6, hcz53_7, hcz53_8, -⟩ := c9 BKz0.out; obtain ⟨hcz55_0, hcz55_1, hcz55_2, -⟩ := c4 BKz3.out; have hcz55_3 : w52.cell? ⟨gbz1, 3, none⟩ = some aB := (blk_cell BKz3.out 3).trans rfl; obtain ⟨Ao56, co56, eo56⟩ := Kd.R_slice HOz0.out; subst eo56) | ((with_reducible refine gate_callee (f := 105) rfl ?_); refine goesL_ (some 37) rfl rfl Try.func105 (by kernel_rfl) rfl #[.agg #[.int .i64 xz0, .int .i64 xz1, .int .i64 xz2, .slice Ao56 xz3.length co56], .agg #[.int .i64 ((rd_T55 l1 x22_2).f0.f0), .int .i64 ((rd_T55 l1 x22_2).f0.f1), .int .i64 ((rd_T55 l1 x22_2).f0.f2), .slice Az0 ((rd_T55 l1 x22_2).f0.f3).length cz0, .int .i64 ((rd_T55 l1 x22_2).f1), .int .i64 ((rd_T55 l1 x22_2).f2), .int .i64 ((rd_T55 l1 x22_2).f3), .int .i64 ((rd_T55 l1 x22_2).f4), .bool false]] rfl (by (try simp only [bitvec_to_nat]); rfl) ?_; (with_reducible refine (impl_coverImage.calls xz0 xz1 xz2 _ _ xz3 ((rd_T55 l1 x22_2).f0.f0) ((rd_T55 l1 x22_2).f0.f1) ((rd_T55 l1 x22_2).f0.f2) _ _ ((rd_T55 l1 x22_2).f0.f3) ((rd_T55 l1 x22_2).f1) ((rd_T55 l1 x22_2).f2) ((rd_T55 l1 x22_2).f3) ((rd_T55 l1 x22_2).f4) false tz1 tz4 tz7 tz8 _ ?side1 ?side2 ?side3 ?side4 A43.out).mono ?_); (case side1 => repeat (exact (Kd.R_reads' HOz0.out).2.2)); (case side2 => exact (Kd.R_reads' HOz0.out).2.1); (case side3 => repeat (exact (Kd.C_below aO.out HB.out))); (case side4 => exact aP.out); rintro e w57 ⟨vz1, rfl, ho0, hb⟩; refine ⟨_, rfl, ?_⟩; have n0_ := mk (Kd.R_elder' HOz0.out (Kd.R_base ho0) hb); have n1_ := mk (Kd.R_lower (Kd.R_new' ho0 (Kd.R_lt HOz0.out)) (below_size HB.out)); have n2_ := mk (blk_below BKz2.out hb); have n3_ := mk (blk_below BKz1.out hb); have n4_ := mk (blk_below BKz3.out hb); have n6_ := mk (below_step HB.out hb); clear HOz0; clear BKz2; clear BKz1; clear BKz3; clear BKz0; clear HB; have HOz0 := n0_; have HOz2 := n1_; have BKz2 := n2_; have BKz1 := n3_; have BKz3 := n4_; have HB := n6_; obtain ⟨hcz58_0, hcz58_1, hcz58_2, hcz58_3, hfz58_0, hfz58_1, hfz58_2, hfz58_3⟩ := c4 BKz3.out; obtain ⟨Ao59, co59, eo59⟩ := Kd.R_slice HOz2.out; subst eo59))
         go_roundg k2
         case measure => have := HJ2.out; have := HK2.out; omega
         case rel => exact ⟨(wrap64 (x22_2 + 1)), (xz6), (xz5), (xz4), (tz1), (tz4), (tz7), (tz8), (.slice Ao59 tz8.length co59), (by rfl), H', ⟨by have := HJ2.out; have := HK2.out; omega⟩, ⟨by exact Kd.R_mono (R4 (Kd.R_types HOz2.out BKz3.out (by decide)) (.int .i64 tz1) (.int .i64 tz4) (.int .i64 tz7) (.slice Ao59 tz8.length co59)) (fun _ hk => trivial)⟩, ⟨by refine f4 ?_ NBz3.out; exact BKz2.out⟩, ⟨by refine f4 ?_ NBz4.out; exact BKz1.out⟩, ⟨by refine p4 (.int .i64 xz0) (.int .i64 xz1) (.int .i64 xz2) (.slice Ao56 xz3.length co56) ?_; exact BKz3.out⟩, ⟨by repeat (with_reducible first | exact HB.out | refine below_set ?_ GEz2.out)⟩⟩
        replace c30 := Bool.eq_false_iff.mpr c30
        subst c30
        have H1 : (some (0, 0, 0, ([] : List Int), false)) = some (r1, r2, r3, r4, r5) := by rw [if_neg (show ¬ (false = true) by decide)] at H; exact H
        clear H
        have H := H1
        clear H1
        simp only [Option.some.injEq, Prod.mk.injEq] at H
        obtain ⟨rfl, rfl, rfl, rfl, rfl⟩ := H
        have aM : 0 ≤ (x22_2 : Int) := of_decide_eq_true (by (with_reducible assumption))
        have aN : x22_2 < (l1.length : Int) := of_decide_eq_true (by (with_reducible assumption))
        obtain ⟨aR, Az0, cz0, aQ, aC, aD, aE, aF, aG, aH, aI, aJ, aA, aK, aL⟩ := at_T55 HR1.out x22_2 aM aN
        cases aQ
        replace aC := bc HB.out aC
        replace aD := bc HB.out aD
        replace aE := bc HB.out aE
        replace aF := bc HB.out aF
        replace aG := bc HB.out aG
        replace aH := bc HB.out aH
        replace aI := bc HB.out aI
        replace aJ := bc HB.out aJ
        replace aA := bc HB.out aA
        have aO := mk aL
        have aP := mk aK
        clear aL aK
        replace aM := eq_true aM
        replace aN := eq_true aN
        go_wp2_with (first | ((with_reducible refine gate_dst (N := 8) rfl ?_); (try (refine gate_guard (by rfl) ?_; dsimp only)); refine box_event (by rfl) (N := 8) (by rfl) (cs := #[.int .i64 0, .int .i64 0, .int .i64 0, .slice none 0 0, .int .i64 0, .int .i64 0, .int .i64 0, .int .i64 0, .bool false]) (t := 55) (by go_simp; done) ?_; intro gbz0 hg w60 hbox hb; replace HOz0 := mk (Kd.R_below HOz0.out hb); have BKz0 := mk (hbox); have GEz0 := mk ((by rw [hg]; exact (below_size HB.out) : w.heap.size ≤ gbz0)); replace HB := mk (below_step HB.out hb); have NBz1 := mk ((by rw [hg]; exact Nat.ne_of_lt (blk_lt BKz2.out) : gbz3 ≠ gbz0)); replace BKz2 := mk (blk_below BKz2.out hb); have NBz0 := mk ((by rw [hg]; exact Nat.ne_of_lt (blk_lt BKz1.out) : gbz2 ≠ gbz0)); have NBz5 := mk ((by rw [hg]; exact Nat.ne_of_gt (blk_lt BKz1.out) : gbz0 ≠ gbz2)); replace BKz1 := mk (blk_below BKz1.out hb); have NBz2 := mk ((by rw [hg]; exact Nat.ne_of_lt (blk_lt BKz3.out) : gbz1 ≠ gbz0)); have NBz6 := mk ((by rw [hg]; exact Nat.ne_of_gt (blk_lt BKz3.out) : gbz0 ≠ gbz1)); replace BKz3 := mk (blk_below BKz3.out hb); clear hb hbox hg; have hnc61 := NBz1.out; have hnb62 := NBz5.out; have hnc62 := NBz0.out; have hnb63 := NBz6.out; have hnc63 := NBz2.out; obtain ⟨hcz64_0, hcz64_1, hcz64_2, hcz64_3, hcz64_4, hcz64_5, hcz64_6, hcz64_7, hcz64_8, hfz64_0, hfz64_1, hfz64_2, hfz64_3, hfz64_4, hfz64_5, hfz64_6, hfz64_7, hfz64_8⟩ := c9 BKz0.out; have hnb65 := NBz7.out; have hnc65 := NBz8.out; have hnb66 := NBz3.out; have hnc66 := NBz9.out; have hcz67_2 : w60.cell? ⟨gbz3, 2, none⟩ = some (.int .i64 a0_2) := (blk_cell BKz2.out 2).trans rfl) | ((with_reducible refine gate_callee (f := 103) rfl ?_); refine goesL_ (some 29) rfl rfl Try.func103 (by kernel_rfl) rfl #[.agg #[.int .i64 ((rd_T55 l1 x22_2).f0.f0), .int .i64 ((rd_T55 l1 x22_2).f0.f1), .int .i64 ((rd_T55 l1 x22_2).f0.f2), .slice Az0 ((rd_T55 l1 x22_2).f0.f3).length cz0, .int .i64 ((rd_T55 l1 x22_2).f1), .int .i64 ((rd_T55 l1 x22_2).f2), .int .i64 ((rd_T55 l1 x22_2).f3), .int .i64 ((rd_T55 l1 x22_2).f4), .bool ((rd_T55 l1 x22_2).f5)], .int .i64 a0_2] rfl (by (try simp only [bitvec_to_nat]); rfl) ?_; (with_reducible refine (impl_isLayer.calls ((rd_T55 l1 x22_2).f0.f0) ((rd_T55 l1 x22_2).f0.f1) ((rd_T55 l1 x22_2).f0.f2) _ _ ((rd_T55 l1 x22_2).f0.f3) ((rd_T55 l1 x22_2).f1) ((rd_T55 l1 x22_2).f2) ((rd_T55 l1 x22_2).f3) ((rd_T55 l1 x22_2).f4) ((rd_T55 l1 x22_2).f5) a0_2 false _ ?side1 ?side2 A29.out).mono ?_); (case side1 => exact Kd.C_below aO.out (by repeat (with_reducible first | exact HB.out | refine below_set ?_ GEz0.out))); (case side2 => exact aP.out); rintro e w68 ⟨rfl, hb⟩; refine ⟨_, rfl, ?_⟩; have n2_ := mk (blk_below (g := gbz2) (o := .cells #[.int .i64 xz6, .int .i64 xz5, .int .i64 xz4, .slice none 0 0] 27 (0, 0)) (by refine f9 ?_ NBz0.out; exact BKz1.out) hb); have n5_ := mk (below_step (by repeat (with_reducible first | exact HB.out | refine below_set ?_ GEz0.out)) hb); clear HOz0; clear BKz2; clear BKz1; clear BKz3; clear BKz0; clear HB; have BKz1 := n2_; have HB := n5_; obtain ⟨hcz70_0, hcz70_1, hcz70_2, hcz70_3, hfz70_0, hfz70_1, hfz70_2, hfz70_3⟩ := c4 BKz1.out))
        refine bodyPost_ret (results_ct rfl _ _ gbz2 27 #[.int .i64 0, .int .i64 0, .int .i64 0, .slice none 0 0] (0, 0) _ rfl (by refine p4 (.int .i64 xz6) (.int .i64 xz5) (.int .i64 xz4) (.slice none 0 0) ?_; exact BKz1.out) Try.underlying27 rfl (by kernel_rfl)) rfl ?_
        exact ⟨_, by rfl, by exact Kd.R_nil _ _ _ _ _, by repeat (with_reducible first | exact HB.out | refine below_set ?_ GEz1.out)⟩
       rw [if_neg c28] at H
       exact absurd H (by simp)
      rw [if_neg c27] at H
      exact absurd H (by simp)
     rw [if_neg c26] at H
     have c26b0 : decide (x22_2 < (l1.length : Int)) = false := decide_eq_false c26
     clear c26
     simp only [Option.some.injEq, Prod.mk.injEq] at H
     obtain ⟨rfl, rfl, rfl, rfl, rfl⟩ := H
     obtain ⟨hcz73_0, hcz73_1, hcz73_2, -⟩ := c4 BKz3.out
     have hcz73_3 : wr.cell? ⟨gbz1, 3, none⟩ = some aB := (blk_cell BKz3.out 3).trans rfl
     obtain ⟨hcz75_0, hcz75_1, hcz75_2, hcz75_3, hfz75_0, hfz75_1, hfz75_2, hfz75_3⟩ := c4 BKz1.out
     obtain ⟨Ao76, co76, eo76⟩ := Kd.R_slice HOz0.out
     subst eo76
     go_wp2
     refine bodyPost_ret (results_ct rfl _ _ gbz2 27 #[.int .i64 xz0, .int .i64 xz1, .int .i64 xz2, .slice Ao76 xz3.length co76] (0, 0) _ rfl (by refine p4 (.int .i64 xz6) (.int .i64 xz5) (.int .i64 xz4) (.slice none 0 0) ?_; exact BKz1.out) Try.underlying27 rfl (by kernel_rfl)) rfl ?_
     exact ⟨_, by rfl, by exact Kd.R_mono (R4 (Kd.R_types HOz0.out BKz1.out (by decide)) (.int .i64 xz0) (.int .i64 xz1) (.int .i64 xz2) (.slice Ao76 xz3.length co76)) (fun _ hk => trivial), by repeat (with_reducible first | exact HB.out | refine below_set ?_ GEz1.out)⟩


def impl_FlattenLayers.f (k : Nat) (a0_0 : Int) (a0_1 : Int) (a0_2 : Int) (l0_3 : List Int) (l1 : List S55) : Option (Int × Int × Int × List Int × Bool) := (impl_flatten.f k a0_0 a0_1 a0_2 l0_3 l1).bind fun btz0 => (some (btz0.1, btz0.2.1, btz0.2.2.1, btz0.2.2.2.1, btz0.2.2.2.2))
theorem impl_FlattenLayers.calls (k : Nat) (a0_0 : Int) (a0_1 : Int) (a0_2 : Int) (A0_3 : Option Addr) (c0_3 : Nat) (l0_3 : List Int) (A1 : Option Addr) (c1 : Nat) (l1 : List S55) (r1 : Int) (r2 : Int) (r3 : Int) (r4 : List Int) (r5 : Bool) (w : World) (hr0_3 : Kd.C (Kd.int .i64) w A0_3 l0_3.length l0_3) (hc0_3 : l0_3.length ≤ c0_3) (hr1 : Kd.C k55 w A1 l1.length l1) (hc1 : l1.length ≤ c1) (h : impl_FlattenLayers.f k a0_0 a0_1 a0_2 l0_3 l1 = some (r1, r2, r3, r4, r5)) :
  Calls Try.prog 67 #[.agg #[.int .i64 a0_0, .int .i64 a0_1, .int .i64 a0_2, .slice A0_3 l0_3.length c0_3], .slice A1 l1.length c1] w fun e w' => ∃ v3_ : Value, e = .returned (.tuple #[.agg #[.int .i64 r1, .int .i64 r2, .int .i64 r3, v3_], .bool r5]) ∧ Kd.R (Kd.int .i64) 3 w' w.heap.size (fun _ => True) v3_ r4 ∧ Below w.heap.size w w' := by
 have hu27 := Try.underlying27
 have HR0_3 := mk hr0_3
 have HC0_3 := mk hc0_3
 clear hr0_3 hc0_3
 have HR1 := mk hr1
 have HC1 := mk hc1
 clear hr1 hc1
 have HB := mk (Below.refl w.heap.size w)
 have H : ((impl_flatten.f k a0_0 a0_1 a0_2 l0_3 l1).bind fun btz0 => (some (btz0.1, btz0.2.1, btz0.2.2.1, btz0.2.2.2.1, btz0.2.2.2.2))) = some (r1, r2, r3, r4, r5) := h
 clear h
 replace H := Option.bind_eq_some_iff.mp H
 obtain ⟨⟨tz0, tz1, tz2, tz3, tz4⟩, A30, H⟩ := H
 replace H : (some (tz0, tz1, tz2, tz3, tz4)) = some (r1, r2, r3, r4, r5) := H
 have A3 := mk A30
 clear A30
 simp only [Option.some.injEq, Prod.mk.injEq] at H
 obtain ⟨rfl, rfl, rfl, rfl, rfl⟩ := H
 go_enter Try.func67, Try.ntmps67
 go_wp2_with (first | ((with_reducible refine gate_dst (N := 2) rfl ?_); refine box_event (by rfl) (N := 2) (by rfl) (cs := #[.int .i64 a0_0, .int .i64 a0_1, .int .i64 a0_2, .slice A0_3 l0_3.length c0_3]) (t := 27) (by go_simp; done) ?_; intro gbz1 hg w4 hbox hb; replace HB := mk (below_step HB.out hb); have BKz1 := mk (hbox); clear hb hbox hg) | ((with_reducible refine gate_dst (N := 4) rfl ?_); refine box_event (by rfl) (N := 4) (by rfl) (cs := #[.int .i64 0, .int .i64 0, .int .i64 0, .slice none 0 0]) (t := 27) (by go_simp; done) ?_; intro gbz0 hg w5 hbox hb; replace BKz1 := mk (blk_below BKz1.out hb); have BKz0 := mk (hbox); have GEz0 := mk ((by rw [hg]; exact (below_size HB.out) : w.heap.size ≤ gbz0)); replace HB := mk (below_step HB.out hb); clear hb hbox hg; obtain ⟨hcz7_0, hcz7_1, hcz7_2, -⟩ := c4 BKz1.out; have hcz7_3 : w5.cell? ⟨gbz1, 3, none⟩ = some (.slice A0_3 l0_3.length c0_3) := (blk_cell BKz1.out 3).trans rfl) | ((with_reducible refine gate_callee (f := 119) rfl ?_); refine goesL_ (some 8) rfl rfl Try.func119 (by kernel_rfl) rfl #[.agg #[.int .i64 a0_0, .int .i64 a0_1, .int .i64 a0_2, .slice A0_3 l0_3.length c0_3], .slice A1 l1.length c1] rfl (by (try simp only [List.map_toArray, List.map_cons, List.map_nil]); rfl) ?_; (with_reducible refine (impl_flatten.calls k a0_0 a0_1 a0_2 _ _ l0_3 _ _ l1 tz0 tz1 tz2 tz3 tz4 _ ?side1 ?side2 ?side3 ?side4 A3.out).mono ?_); (case side1 => repeat (exact (Kd.C_below HR0_3.out HB.out))); (case side2 => exact HC0_3.out); (case side3 => repeat (exact (Kd.C_below HR1.out HB.out))); (case side4 => exact HC1.out); rintro e w8 ⟨vz0, rfl, ho0, hb⟩; refine ⟨_, rfl, ?_⟩; have n0_ := mk (Kd.R_lower ho0 (below_size HB.out)); have n2_ := mk (blk_below BKz0.out hb); have n3_ := mk (below_step HB.out hb); clear BKz1; clear BKz0; clear HB; have HOz0 := n0_; have BKz0 := n2_; have HB := n3_; (try clear hb); (try clear ho0); obtain ⟨hcz9_0, hcz9_1, hcz9_2, hcz9_3, hfz9_0, hfz9_1, hfz9_2, hfz9_3⟩ := c4 BKz0.out; obtain ⟨Ao10, co10, eo10⟩ := Kd.R_slice HOz0.out; subst eo10))
 refine bodyPost_ret (results_ct rfl _ _ gbz0 27 #[.int .i64 tz0, .int .i64 tz1, .int .i64 tz2, .slice Ao10 tz3.length co10] (0, 0) _ rfl (by refine blk_put (cs := #[.int .i64 tz0, .int .i64 tz1, .int .i64 tz2, .slice none 0 0]) ?_ 3 _ rfl; refine blk_put (cs := #[.int .i64 tz0, .int .i64 tz1, .int .i64 0, .slice none 0 0]) ?_ 2 _ rfl; refine blk_put (cs := #[.int .i64 tz0, .int .i64 0, .int .i64 0, .slice none 0 0]) ?_ 1 _ rfl; refine blk_put (cs := #[.int .i64 0, .int .i64 0, .int .i64 0, .slice none 0 0]) ?_ 0 _ rfl; exact BKz0.out) Try.underlying27 rfl (by kernel_rfl)) rfl ?_
 exact ⟨_, by rfl, by exact Kd.R_mono (Kd.R_far (p := ⟨gbz0, 3, none⟩) (Kd.R_far (p := ⟨gbz0, 2, none⟩) (Kd.R_far (p := ⟨gbz0, 1, none⟩) (Kd.R_far (p := ⟨gbz0, 0, none⟩) (Kd.R_types HOz0.out BKz0.out (by decide)) (fun _ hk => hk.2) (.int .i64 tz0)) (fun _ hk => hk.2) (.int .i64 tz1)) (fun _ hk => hk.2) (.int .i64 tz2)) (fun _ hk => hk.2) (.slice Ao10 tz3.length co10)) (fun _ hk => trivial), by repeat (with_reducible first | exact HB.out | refine below_set ?_ GEz0.out)⟩

end Go.Proofs.Ytnofkbbcbpjhfaa.Q

/- impl.patched: an image in which the pixels of boxes are those of another one. -/
namespace Go.Proofs.Ytnofkbbcbpjhfaa.Q
open Go.RowKit Go.Proofs.YtnofkbbcbpjhfaaW.PrintWords Go.Proofs.YtnofkbbcbpjhfaaW.PrintLast Go.Proofs.YtnofkbbcbpjhfaaW.PrintMore
open Go.Proofs.YtnofkbbcbpjhfaaW.PrintWords.Aside0 (mk)
attribute [local go_sem] max2_int min2_int max_two min_two max_three min_three max_four min_four
set_option linter.unusedVariables false
set_option linter.unusedSimpArgs false
open Go.Proofs.Ytnofkbbcbpjhfaa.Pure

def put1 (a p : Int) (e : List Int) (x y : Nat) (d : List Int) : List Int := laidOver d (pixJ a p x y).toNat (pixT e (pixJ a p x y) p)
def putX (a p : Int) (e : List Int) (X y n : Nat) (d : List Int) : List Int := (List.range n).foldl (fun d i => put1 a p e (X + i) y d) d
def putB (a p : Int) (e : List Int) (X Y W n : Nat) (d : List Int) : List Int := (List.range n).foldl (fun d i => putX a p e X (Y + i) W d) d
def patchD (a p : Int) (e : List Int) (l : List S47) (d : List Int) : List Int := l.foldl (fun d r => putB a p e r.f0.toNat r.f1.toNat r.f2.toNat r.f3.toNat d) d
def onB (a b : Int) (r : S47) : Bool := decide (0 ≤ r.f0) && (decide (r.f0 < a) && (decide (0 ≤ r.f1) && (decide (r.f1 < b) && (decide (1 ≤ r.f2) && (decide (r.f2 ≤ a - r.f0) && (decide (1 ≤ r.f3) && decide (r.f3 ≤ b - r.f1)))))))
theorem onB_iff (a b : Int) (r : S47) : onB a b r = true ↔ 0 ≤ r.f0 ∧ r.f0 < a ∧ 0 ≤ r.f1 ∧ r.f1 < b ∧ 1 ≤ r.f2 ∧ r.f2 ≤ a - r.f0 ∧ 1 ≤ r.f3 ∧ r.f3 ≤ b - r.f1 := by simp [onB]
def impl_patched.f (a b p : Int) (d1 : List Int) (a2 b2 p2 : Int) (d2 : List Int) (l : List S47) : Option (Int × Int × Int × List Int) :=
 if validI a b p d1 = true ∧ validI a b p d2 = true ∧ a2 = a ∧ b2 = b ∧ p2 = p ∧ l.all (onB a b) = true then some (a, b, p, patchD a p d2 l d1) else none
theorem putX_succ (a p : Int) (e : List Int) (X y n : Nat) (d : List Int) : putX a p e X y (n + 1) d = put1 a p e (X + n) y (putX a p e X y n d) := by unfold putX; rw [List.range_succ, List.foldl_append]; rfl
theorem putB_succ (a p : Int) (e : List Int) (X Y W n : Nat) (d : List Int) : putB a p e X Y W (n + 1) d = putX a p e X (Y + n) W (putB a p e X Y W n d) := by unfold putB; rw [List.range_succ, List.foldl_append]; rfl
theorem patchD_succ (a p : Int) (e : List Int) (l : List S47) (k : Nat) (h : k < l.length) (d : List Int) : patchD a p e (l.take (k + 1)) d = putB a p e l[k].f0.toNat l[k].f1.toNat l[k].f2.toNat l[k].f3.toNat (patchD a p e (l.take k) d) := by unfold patchD; rw [List.take_succ_eq_append_getElem h, List.foldl_append]; rfl

set_option maxHeartbeats 4000000 in
set_option maxRecDepth 100000 in
theorem patched_go (a b p : Int) (A1 A2 A3 : Option Addr) (c1 c2 c3 : Nat) (d1 d2 : List Int) (l : List S47) (hv1 : validI a b p d1 = true) (hv2 : validI a b p d2 = true) (hl : ∀ r ∈ l, onB a b r = true) (hc1 : d1.length ≤ c1) (hc2 : d2.length ≤ c2) (w : World) (hr1 : Kd.C (Kd.int .i64) w A1 d1.length d1) (hr2 : Kd.C (Kd.int .i64) w A2 d2.length d2) (hr3 : Kd.C k47 w A3 l.length l) :
  Calls Try.prog 125 #[.agg #[.int .i64 a, .int .i64 b, .int .i64 p, .slice A1 d1.length c1], .agg #[.int .i64 a, .int .i64 b, .int .i64 p, .slice A2 d2.length c2], .slice A3 l.length c3] w fun e w' => ∃ v3_ : Value, e = .returned (.agg #[.int .i64 a, .int .i64 b, .int .i64 p, v3_]) ∧ Kd.R (Kd.int .i64) 3 w' w.heap.size (fun _ => True) v3_ (patchD a p d2 l d1) ∧ Below w.heap.size w w' := by
 have hsh := (validI_iff a b p d1).1 hv1
 have hsp := shape_prod hsh.1
 have hpos : 0 < a * b * p := Int.mul_pos (Int.mul_pos (by omega) (by omega)) (by omega)
 have HL1 := mk (show d1.length ≤ 1024 by omega)
 have HNE := mk (show 0 < d1.length by omega)
 have HL12 := mk (show d2.length = d1.length by have := ((validI_iff a b p d2).1 hv2).2.1; omega)
 have HV1 := mk hv1
 have HV2 := mk hv2
 have HSH := mk hsh.1
 have HC1 := mk hc1
 have HC2 := mk hc2
 have HR1 := mk hr1
 have HR2 := mk hr2
 have HR3 := mk hr3
 have HL := mk hl
 have hm : l.length ≤ 9223372036854775807 := hr3.2.1
 have HB0 := mk (Below.refl w.heap.size w)
 have HCP := mk (show impl_copyImage.f a b p d1 = some (a, b, p, d1) from by
  unfold impl_copyImage.f
  simp only [Option.bind_some]
  rw [if_pos (by simp; omega)]
  simp)
 have hu := Try.underlying27
 have hub := Try.underlying47
 have hui := Try.underlying22
 clear hsh hsp hpos hc1 hc2 hr1 hr2 hr3 hl hv1 hv2
 go_enter Try.func125, Try.ntmps125
 go_wp2_with (first | ((with_reducible refine gate_dst (N := 3) rfl ?_); refine box_event (by rfl) (N := 3) (by rfl) (cs := #[.int .i64 a, .int .i64 b, .int .i64 p, .slice A1 d1.length c1]) (t := 27) (by go_simp; done) ?_; intro g1 hg_ w1 hbox hb; have HB1 := mk (below_then HB0.out HB0.out.size hb); have K1 := mk hbox; have Gg1 := mk (show w.heap.size ≤ g1 from by rw [hg_]; exact HB0.out.size); clear hbox hb hg_) | ((with_reducible refine gate_dst (N := 4) rfl ?_); refine box_event (by rfl) (N := 4) (by rfl) (cs := #[.int .i64 a, .int .i64 b, .int .i64 p, .slice A2 d2.length c2]) (t := 27) (by go_simp; done) ?_; intro g2 hg_ w2 hbox hb; have HB2 := mk (below_then HB1.out HB1.out.size hb); have K2 := mk hbox; have Gg2 := mk (show w.heap.size ≤ g2 from by rw [hg_]; exact HB1.out.size); have K1b := mk (blk_below K1.out hb); clear hbox hb hg_) | ((with_reducible refine gate_dst (N := 6) rfl ?_); refine box_event (by rfl) (N := 6) (by rfl) (cs := #[.int .i64 0, .int .i64 0, .int .i64 0, .slice none 0 0]) (t := 27) (by go_simp; done) ?_; intro g3 hg_ w3 hbox hb; have HB3 := mk (below_then HB2.out HB2.out.size hb); have K3 := mk hbox; have Gg3 := mk (show w.heap.size ≤ g3 from by rw [hg_]; exact HB2.out.size); have K1c := mk (blk_below K1b.out hb); have K2c := mk (blk_below K2.out hb); have f0 : w3.cell? ⟨g1, 0, none⟩ = some (.int .i64 a) := (blk_cell K1c.out 0).trans rfl; have f1 : w3.cell? ⟨g1, 1, none⟩ = some (.int .i64 b) := (blk_cell K1c.out 1).trans rfl; have f2 : w3.cell? ⟨g1, 2, none⟩ = some (.int .i64 p) := (blk_cell K1c.out 2).trans rfl; have f3 : w3.cell? ⟨g1, 3, none⟩ = some (.slice A1 d1.length c1) := (blk_cell K1c.out 3).trans rfl; clear hbox hb hg_) | (go_at_call 133; (with_reducible refine (impl_copyImage.calls a b p A1 c1 d1 a b p d1 w3 (Kd.C_below HR1.out HB3.out) HC1.out HCP.out).mono ?_); rintro e w4 ⟨v4, rfl, hr4, hb4⟩; have HB4 := mk (below_then HB3.out HB3.out.size hb4); have HR4 := mk (Kd.R_lower hr4 HB3.out.size); have K2d := mk (blk_below K2c.out hb4); have K3d := mk (blk_below K3.out hb4); obtain ⟨gr, cr, e4, hgr, hgl, _⟩ := Kd.R_form hr4 HNE.out; subst e4; have GR := mk hgr; have GL := mk hgl; clear hr4 hb4 hgr hgl))
 obtain ⟨n, HN⟩ : ∃ n, Aside0 (n = d1.length) := ⟨_, ⟨rfl⟩⟩
 have HGM := blk_new w4 (.cells #[.int .i64 a, .int .i64 b, .int .i64 p, .slice (some ⟨gr, 0, none⟩) d1.length cr] 27 (0, 0))
 rw [← HN.out] at HGM ⊢
 have HR4 := HR4.out
 rw [← HN.out] at HR4
 have SZ := blk_lt K3.out
 have SZ2 := blk_lt K3d.out
 have GG3 := Gg3.out
 go_loopw [16] (fun v16 W => ∃ k : Nat, v16 = .int .i64 k ∧ k ≤ l.length ∧ (∃ D, Aside0 (D = patchD a p d2 (l.take k) d1) ∧ Aside0 (n = D.length) ∧ Kd.R (Kd.int .i64) 3 W w.heap.size (fun k => k = gr) (.slice (some ⟨gr, 0, none⟩) n cr) D) ∧ Aside0 (W.heap[w4.heap.size]? = some (.cells #[.int .i64 a, .int .i64 b, .int .i64 p, .slice (some ⟨gr, 0, none⟩) n cr] 27 (0, 0))) ∧ Aside0 (W.heap[g2]? = some (.cells #[.int .i64 a, .int .i64 b, .int .i64 p, .slice A2 d2.length c2] 27 (0, 0))) ∧ Aside0 (W.heap[g3]? = some (.cells #[.int .i64 0, .int .i64 0, .int .i64 0, .slice none 0 0] 27 (0, 0))) ∧ Aside0 (Below w.heap.size w W)) (fun v16 _ => l.length - (intOf v16).toNat)
 case atStart => exact ⟨0, rfl, by omega, ⟨d1, ⟨rfl⟩, HN, Kd.R_alloc (Kd.R_mono (Kd.R_tight rfl HR4) (fun k hk => by simpa [Value.ownBlock] using hk)) _⟩, ⟨HGM⟩, ⟨blk_alloc K2d.out _⟩, ⟨blk_alloc K3d.out _⟩, ⟨below_alloc HB4.out _⟩⟩
 case round =>
  clear HR4 HGM
  obtain ⟨k, rfl, hk, ⟨D0, HD0, HDn, hr⟩, h7, h2, h3, hb⟩ := hrel
  obtain ⟨wo, rfl⟩ : ∃ wo : World, wo = wr := ⟨_, rfl⟩
  by_cases hlt : k < l.length
  ·have hdk : decide ((k : Int) < (l.length : Int)) = true := by simp; omega
   obtain ⟨ad, e, hx0, hx1, hx2, hx3⟩ := at_T47 HR3.out (k : Int) (by omega) (by omega)
   cases e
   have er : rd_T47 l (k : Int) = l[k] := by simp [rd_T47, hlt]
   have ho := (onB_iff a b l[k]).1 (HL.out l[k] (List.getElem_mem hlt))
   have HGS := mk (patchD_succ a p d2 l k hlt d1)
   rw [er, Int.toNat_natCast] at hx0 hx1 hx2 hx3
   clear er
   generalize l[k] = r at *
   obtain ⟨X, hX⟩ := Int.eq_ofNat_of_zero_le ho.1
   obtain ⟨Y, hY⟩ := Int.eq_ofNat_of_zero_le ho.2.2.1
   obtain ⟨Wd, hWd⟩ := Int.eq_ofNat_of_zero_le (show 0 ≤ r.f2 by omega)
   obtain ⟨Hg, hHg⟩ := Int.eq_ofNat_of_zero_le (show 0 ≤ r.f3 by omega)
   rw [hX] at hx0 ho
   rw [hY] at hx1 ho
   rw [hWd] at hx2 ho
   rw [hHg] at hx3 ho
   have hsh := HSH.out
   have hx16 : X < 16 := by omega
   have hy16 : Y < 16 := by omega
   have hw16 : Wd ≤ 16 := by omega
   have hh16 : Hg ≤ 16 := by omega
   have HXA := mk (show (X : Int) + Wd ≤ a by omega)
   have HYB := mk (show (Y : Int) + Hg ≤ b by omega)
   replace HGS := mk (show patchD a p d2 (l.take (k + 1)) d1 = putB a p d2 X Y Wd Hg D0 from by rw [HGS.out, hX, hY, hWd, hHg, HD0.out]; rfl)
   clear hsh ho hX hY hWd hHg
   replace hx0 := (hb.out.cell (World.block_lt_of_cell? w _ hx0)).trans hx0
   replace hx1 := (hb.out.cell (World.block_lt_of_cell? w _ hx1)).trans hx1
   replace hx2 := (hb.out.cell (World.block_lt_of_cell? w _ hx2)).trans hx2
   replace hx3 := (hb.out.cell (World.block_lt_of_cell? w _ hx3)).trans hx3
   go_wp2
   have SB := hb.out.size
   have S7 := blk_lt h7.out
   have S3 := blk_lt h3.out
   go_loopw [10] (fun v10 W => ∃ y : Nat, v10 = .int .i64 y ∧ Y ≤ y ∧ y ≤ Y + Hg ∧ (∃ D, Aside0 (D = putB a p d2 X Y Wd (y - Y) D0) ∧ Aside0 (n = D.length) ∧ Kd.R (Kd.int .i64) 3 W w.heap.size (fun k => k = gr) (.slice (some ⟨gr, 0, none⟩) n cr) D) ∧ Aside0 (W.heap[wo.heap.size]? = some (.cells #[.int .i64 (X : Int), .int .i64 (Y : Int), .int .i64 (Wd : Int), .int .i64 (Hg : Int)] 47 (0, 0))) ∧ Aside0 (W.heap[w4.heap.size]? = some (.cells #[.int .i64 a, .int .i64 b, .int .i64 p, .slice (some ⟨gr, 0, none⟩) n cr] 27 (0, 0))) ∧ Aside0 (W.heap[g2]? = some (.cells #[.int .i64 a, .int .i64 b, .int .i64 p, .slice A2 d2.length c2] 27 (0, 0))) ∧ Aside0 (W.heap[g3]? = some (.cells #[.int .i64 0, .int .i64 0, .int .i64 0, .slice none 0 0] 27 (0, 0))) ∧ Aside0 (Below w.heap.size w W)) (fun v10 _ => Y + Hg - (intOf v10).toNat)
   case atStart => exact ⟨Y, rfl, Nat.le_refl _, by omega, ⟨D0, ⟨by rw [Nat.sub_self]; rfl⟩, HDn, Kd.R_alloc hr _⟩, ⟨blk_new _ _⟩, ⟨blk_alloc h7.out _⟩, ⟨blk_alloc h2.out _⟩, ⟨blk_alloc h3.out _⟩, ⟨below_alloc hb.out _⟩⟩
   case round =>
    clear hr h7 h2 h3 hb HDn
    obtain ⟨y, rfl, hYy, hyH, ⟨D1, HD1, HDn, hr⟩, h9, h7, h2, h3, hb⟩ := hrel
    have k0 : wr.cell? ⟨wo.heap.size, 0, none⟩ = some (.int .i64 (X : Int)) := (blk_cell h9.out 0).trans rfl
    have k1 : wr.cell? ⟨wo.heap.size, 1, none⟩ = some (.int .i64 (Y : Int)) := (blk_cell h9.out 1).trans rfl
    have k2 : wr.cell? ⟨wo.heap.size, 2, none⟩ = some (.int .i64 (Wd : Int)) := (blk_cell h9.out 2).trans rfl
    have k3 : wr.cell? ⟨wo.heap.size, 3, none⟩ = some (.int .i64 (Hg : Int)) := (blk_cell h9.out 3).trans rfl
    by_cases hly : y < Y + Hg
    ·have hdy : decide ((y : Int) < (Y : Int) + (Hg : Int)) = true := by simp; omega
     go_wp2
     go_loopw [11] (fun v11 W => ∃ x : Nat, v11 = .int .i64 x ∧ X ≤ x ∧ x ≤ X + Wd ∧ (∃ D, Aside0 (D = putX a p d2 X y (x - X) D1) ∧ Aside0 (n = D.length) ∧ Kd.R (Kd.int .i64) 3 W w.heap.size (fun k => k = gr) (.slice (some ⟨gr, 0, none⟩) n cr) D) ∧ Aside0 (W.heap[wo.heap.size]? = some (.cells #[.int .i64 (X : Int), .int .i64 (Y : Int), .int .i64 (Wd : Int), .int .i64 (Hg : Int)] 47 (0, 0))) ∧ Aside0 (W.heap[w4.heap.size]? = some (.cells #[.int .i64 a, .int .i64 b, .int .i64 p, .slice (some ⟨gr, 0, none⟩) n cr] 27 (0, 0))) ∧ Aside0 (W.heap[g2]? = some (.cells #[.int .i64 a, .int .i64 b, .int .i64 p, .slice A2 d2.length c2] 27 (0, 0))) ∧ Aside0 (W.heap[g3]? = some (.cells #[.int .i64 0, .int .i64 0, .int .i64 0, .slice none 0 0] 27 (0, 0))) ∧ Aside0 (Below w.heap.size w W)) (fun v11 _ => X + Wd - (intOf v11).toNat)
     case atStart => exact ⟨X, rfl, Nat.le_refl _, by omega, ⟨D1, ⟨by rw [Nat.sub_self]; rfl⟩, HDn, hr⟩, h9, h7, h2, h3, hb⟩
     case round =>
      clear hr h9 h7 h2 h3 hb k0 k1 k2 k3 HDn
      obtain ⟨x, rfl, hXx, hxW, ⟨D, HD2, HDn, hr⟩, h9, h7, h2, h3, hb⟩ := hrel
      have k0 : wr.cell? ⟨wo.heap.size, 0, none⟩ = some (.int .i64 (X : Int)) := (blk_cell h9.out 0).trans rfl
      have k2 : wr.cell? ⟨wo.heap.size, 2, none⟩ = some (.int .i64 (Wd : Int)) := (blk_cell h9.out 2).trans rfl
      by_cases hlx : x < X + Wd
      ·have hdx : decide ((x : Int) < (X : Int) + (Wd : Int)) = true := by simp; omega
       obtain ⟨j, hj⟩ : ∃ j, pixJ a p x y = j := ⟨_, rfl⟩
       have hxa : (x : Int) < a := by have := HXA.out; omega
       have hyb : (y : Int) < b := by have := HYB.out; omega
       have hb1 := pixJ_is HV1.out hxa hyb
       have hb2 := pixJ_is HV2.out hxa hyb
       have hpp := HSH.out
       rw [hj] at hb1 hb2
       have hw : wrap64 (j + p) = j + p := w64 (by omega) (by omega)
       have hnn := HN.out
       obtain ⟨_, _, _, _, _, hcrn, _⟩ : Nonempty True ∧ Nonempty True ∧ Nonempty True ∧ Nonempty True ∧ Nonempty True ∧ n ≤ cr ∧ True := ⟨⟨trivial⟩, ⟨trivial⟩, ⟨trivial⟩, ⟨trivial⟩, ⟨trivial⟩, (Kd.R_reads' hr).2.1, trivial⟩
       have AT1 := mk (fun W => at_callsX a b p (some ⟨gr, 0, none⟩) cr n (x : Int) (y : Int) j hcrn hj (by omega) (by omega) (by omega) (some ⟨gr, j.toNat, none⟩) (by
        rw [if_neg (by omega)]
        simp only [Option.map_some]
        unfold Addr.add
        split <;> simp_all) W)
       obtain ⟨Aq, hAq⟩ : ∃ Aq, Aq = if c2 = j.toNat then A2 else A2.map (·.add (j.toNat * 1)) := ⟨_, rfl⟩
       have AT2 := mk (fun W => at_callsX a b p A2 c2 d2.length (x : Int) (y : Int) j HC2.out hj (by omega) (by omega) (by omega) Aq hAq W)
       have HP2 := mk (fun (W : World) (hW : Below w.heap.size w W) => pixT_C (j := j) (p := p) (Kd.C_below HR2.out hW) HC2.out (by omega) (by omega))
       rw [pixT_length d2 j p (by omega), ← hAq] at HP2
       have HF := mk (show j.toNat + ((wrap64 (j + p)).toNat - j.toNat) ≤ n by omega)
       have HPL := mk (pixT_length d2 j p (by omega))
       have HJ := mk hj
       clear hb1 hb2 hpp hw hnn hcrn hj hxa hyb hAq
       go_wp2
       refine wp_region_held_drew (S := (fun W => Aside0 (Below w.heap.size w W) ∧ Aside0 (W.heap[w4.heap.size]? = some (.cells #[.int .i64 a, .int .i64 b, .int .i64 p, .slice (some ⟨gr, 0, none⟩) n cr] 27 (0, 0))) ∧ Aside0 (W.heap[g2]? = some (.cells #[.int .i64 a, .int .i64 b, .int .i64 p, .slice A2 d2.length c2] 27 (0, 0))) ∧ Aside0 (W.heap[wo.heap.size]? = some (.cells #[.int .i64 (X : Int), .int .i64 (Y : Int), .int .i64 (Wd : Int), .int .i64 (Hg : Int)] 47 (0, 0))) ∧ Aside0 (W.heap[g3]? = some (.cells #[.int .i64 0, .int .i64 0, .int .i64 0, .slice none 0 0] 27 (0, 0))))) (by kernel_rfl) ⟨⟨below_drew hb.out⟩, ⟨blk_below h7.out (below_drew (Below.refl _ _))⟩, ⟨blk_below h2.out (below_drew (Below.refl _ _))⟩, ⟨blk_below h9.out (below_drew (Below.refl _ _))⟩, ⟨blk_below h3.out (below_drew (Below.refl _ _))⟩⟩ (fun hH => ?_)
       have hrd := Kd.R_drew hr
       obtain ⟨W0, hW0⟩ : ∃ W, W = wr.drew := ⟨_, rfl⟩
       rw [← hW0] at hH hrd ⊢
       clear hW0 hr hb h7 h2 h3 h9
       refine wpAnyH_take (i := 0) rfl (by kernel_rfl) (by kernel_rfl) (by kernel_rfl) (fun _ _ _ h => h) (yields_img (by kernel_rfl) _ rfl w4.heap.size rfl #[.int .i64 a, .int .i64 b, .int .i64 p, .slice (some ⟨gr, 0, none⟩) n cr] (fun W hW => hW.2.1.out) rfl) hH ?_
       simp only [bool_to_prop]
       refine wpAnyH_take (i := 1) (v := .int .i64 (x : Int)) rfl (by kernel_rfl) (by kernel_rfl) (by kernel_rfl) (fun _ _ _ h => h) (.inl ⟨by kernel_rfl, fun W hW => by (go_simp; done)⟩) hH ?_
       simp only [bool_to_prop]
       refine wpAnyH_take (i := 2) (v := .int .i64 (y : Int)) rfl (by kernel_rfl) (by kernel_rfl) (by kernel_rfl) (fun _ _ _ h => h) (.inl ⟨by kernel_rfl, fun W hW => by (go_simp; done)⟩) hH ?_
       simp only [bool_to_prop]
       refine wpAnyH_take (i := 4) rfl (by kernel_rfl) (by kernel_rfl) (by kernel_rfl) (fun _ _ _ h => h) (yields_img (by kernel_rfl) _ rfl g2 rfl #[.int .i64 a, .int .i64 b, .int .i64 p, .slice A2 d2.length c2] (fun W hW => hW.2.2.1.out) rfl) hH ?_
       simp only [bool_to_prop]
       refine wpAnyH_take (i := 5) (v := .int .i64 (x : Int)) rfl (by kernel_rfl) (by kernel_rfl) (by kernel_rfl) (fun _ _ _ h => h) (.inl ⟨by kernel_rfl, fun W hW => by (go_simp; done)⟩) hH ?_
       simp only [bool_to_prop]
       refine wpAnyH_take (i := 6) (v := .int .i64 (y : Int)) rfl (by kernel_rfl) (by kernel_rfl) (by kernel_rfl) (fun _ _ _ h => h) (.inl ⟨by kernel_rfl, fun W hW => by (go_simp; done)⟩) hH ?_
       simp only [bool_to_prop]
       refine wpAnyH_ready (rs := [3]) (by kernel_rfl) (by simp) ?_
       refine AllReadyH.cons (i := 3) rfl ?_ AllReadyH.nil
       intro K hK
       rw [if_pos (by rfl)]
       go_simp
       go_wp2_with (first | (go_at_call 109; (with_reducible refine (AT1.out _).mono ?_); rintro e W1 ⟨rfl, hb⟩))
       refine hK.out _ _ ⟨⟨below_then hH.1.out hH.1.out.size hb⟩, ⟨blk_below hH.2.1.out hb⟩, ⟨blk_below hH.2.2.1.out hb⟩, ⟨blk_below hH.2.2.2.1.out hb⟩, ⟨blk_below hH.2.2.2.2.out hb⟩⟩ (fun hH1 => ?_)
       replace hrd := Kd.R_below hrd hb
       clear hK K hb hH
       have hH := hH1
       clear hH1
       try simp only [bool_to_prop]
       refine wpAnyH_ready (rs := [7]) (by kernel_rfl) (by simp) ?_
       refine AllReadyH.cons (i := 7) rfl ?_ AllReadyH.nil
       intro K hK
       rw [if_pos (by rfl)]
       go_simp
       go_wp2_with (first | (go_at_call 109; (with_reducible refine (AT2.out _).mono ?_); rintro e W2 ⟨rfl, hb⟩))
       refine hK.out _ _ ⟨⟨below_then hH.1.out hH.1.out.size hb⟩, ⟨blk_below hH.2.1.out hb⟩, ⟨blk_below hH.2.2.1.out hb⟩, ⟨blk_below hH.2.2.2.1.out hb⟩, ⟨blk_below hH.2.2.2.2.out hb⟩⟩ (fun hH1 => ?_)
       replace hrd := Kd.R_below hrd hb
       clear hK K hb hH
       have hH := hH1
       clear hH1
       try simp only [bool_to_prop]
       refine wpAnyH_ready (rs := [8]) (by kernel_rfl) (by simp) ?_
       refine AllReadyH.cons (i := 8) rfl ?_ AllReadyH.nil
       intro K hK
       rw [if_pos (by rfl)]
       refine copyAt_wp (.tmp 45) (.tmp 49) 22 22 rfl Try.underlying22 gr cr j.toNat D (pixT d2 j p) _ _ _ n _ w.heap.size (fun k => k = gr) rfl rfl HDn.out hrd (HP2.out _ hH.1.out) HF.out ?_
       intro w5 hr5 hbg hg5
       have hb5 : Below w.heap.size w w5 := hH.1.out.grown hg5 hH.1.out.size (fun k hk => by injection hk with hk; omega)
       have hk7 : w5.heap[w4.heap.size]? = some (.cells #[.int .i64 a, .int .i64 b, .int .i64 p, .slice (some ⟨gr, 0, none⟩) n cr] 27 (0, 0)) := (hg5.block _ (blk_lt hH.2.1.out) (by intro e; injection e with e; have := GL.out; omega)).trans hH.2.1.out
       have hk2 : w5.heap[g2]? = some (.cells #[.int .i64 a, .int .i64 b, .int .i64 p, .slice A2 d2.length c2] 27 (0, 0)) := (hg5.block _ (blk_lt hH.2.2.1.out) (by intro e; injection e with e; have := GR.out; have := blk_lt K2c.out; omega)).trans hH.2.2.1.out
       have hk9 : w5.heap[wo.heap.size]? = some (.cells #[.int .i64 (X : Int), .int .i64 (Y : Int), .int .i64 (Wd : Int), .int .i64 (Hg : Int)] 47 (0, 0)) := (hg5.block _ (blk_lt hH.2.2.2.1.out) (by intro e; injection e with e; have := GL.out; omega)).trans hH.2.2.2.1.out
       have hk3 : w5.heap[g3]? = some (.cells #[.int .i64 0, .int .i64 0, .int .i64 0, .slice none 0 0] 27 (0, 0)) := (hg5.block _ (blk_lt hH.2.2.2.2.out) (by intro e; injection e with e; have := GR.out; omega)).trans hH.2.2.2.2.out
       refine hK.out _ _ ⟨⟨hb5⟩, ⟨hk7⟩, ⟨hk2⟩, ⟨hk9⟩, ⟨hk3⟩⟩ (fun hH1 => ?_)
       clear hK K hH hrd hb5 hk7 hk2 hk9 hk3 hg5
       obtain ⟨hb, h7, h2, h9, h3⟩ := hH1
       try simp only [bool_to_prop]
       refine wpAnyH_done (by kernel_rfl) ?_ _
       go_wp2
       exact ⟨⟨x + 1, by go_num, by omega, by omega, ⟨laidOver D j.toNat (pixT d2 j p), ⟨by rw [show x + 1 - X = (x - X) + 1 by omega, putX_succ, ← HD2.out, show X + (x - X) = x by omega]; unfold put1; rw [HJ.out]⟩, ⟨by rw [laidOver_length _ _ _ (by rw [HPL.out, ← HDn.out]; exact HF.out)]; exact HDn.out⟩, hr5⟩, h9, h7, h2, h3, hb⟩, by simp [intOf]; omega⟩
      have hdx : decide ((x : Int) < (X : Int) + (Wd : Int)) = false := by simp; omega
      have hxe : x = X + Wd := by omega
      subst hxe
      go_wp2
      go_roundw
      case rel => exact ⟨y + 1, by go_num, by omega, by omega, ⟨D, ⟨by rw [HD2.out, HD1.out, Nat.add_sub_cancel_left, show y + 1 - Y = (y - Y) + 1 by omega, putB_succ, show Y + (y - Y) = y by omega]⟩, HDn, hr⟩, h9, h7, h2, h3, hb⟩
      case measure => simp [intOf]; omega
    have hdy : decide ((y : Int) < (Y : Int) + (Hg : Int)) = false := by simp; omega
    have hye : y = Y + Hg := by omega
    subst hye
    go_wp2
    go_roundw
    case rel => exact ⟨k + 1, by go_num, by omega, ⟨D1, ⟨by rw [HD1.out, HGS.out, Nat.add_sub_cancel_left]⟩, HDn, hr⟩, h7, h2, h3, hb⟩
    case measure => simp [intOf]; omega
  have hdk : decide ((k : Int) < (l.length : Int)) = false := by simp; omega
  have hkl : k = l.length := by omega
  subst hkl
  have HB3o := h3.out
  have H7o := h7.out
  have m0 := blk_cell h7.out 0; have m1 := blk_cell h7.out 1; have m2 := blk_cell h7.out 2; have m3 := blk_cell h7.out 3
  have z0 := blk_cell h3.out 0; have z1 := blk_cell h3.out 1; have z2 := blk_cell h3.out 2; have z3 := blk_cell h3.out 3
  have y0 := blk_frozen h3.out 0; have y1 := blk_frozen h3.out 1; have y2 := blk_frozen h3.out 2; have y3 := blk_frozen h3.out 3
  go_wp2
  refine bodyPost_ret (results_cell_row rfl _ _ g3 27 #[.int .i64 a, .int .i64 b, .int .i64 p, .slice (some ⟨gr, 0, none⟩) n cr] (0, 0) _ rfl (by
   refine blk_put (cs := #[.int .i64 a, .int .i64 b, .int .i64 p, .slice none 0 0]) ?_ 3 _ rfl
   refine blk_put (cs := #[.int .i64 a, .int .i64 b, .int .i64 0, .slice none 0 0]) ?_ 2 _ rfl
   refine blk_put (cs := #[.int .i64 a, .int .i64 0, .int .i64 0, .slice none 0 0]) ?_ 1 _ rfl
   refine blk_put (cs := #[.int .i64 0, .int .i64 0, .int .i64 0, .slice none 0 0]) ?_ 0 _ rfl
   exact HB3o
   ) hu rfl (by kernel_rfl)) rfl ?_
  have SB := hb.out.size
  exact ⟨_, rfl, Kd.R_mono (Kd.R_far (Kd.R_far (Kd.R_far (Kd.R_far (by rw [List.take_length] at HD0; rw [← HD0.out]; exact hr) (fun k hk => by subst hk; have := GR.out; simp; omega) _) (fun k hk => by subst hk; have := GR.out; simp; omega) _) (fun k hk => by subst hk; have := GR.out; simp; omega) _) (fun k hk => by subst hk; have := GR.out; simp; omega) _) (fun _ _ => trivial), below_set (below_set (below_set (below_set hb.out (by omega)) (by omega)) (by omega)) (by omega)⟩
theorem impl_patched.calls (a b p : Int) (A1 : Option Addr) (c1 : Nat) (d1 : List Int) (a2 b2 p2 : Int) (A2 : Option Addr) (c2 : Nat) (d2 : List Int) (A3 : Option Addr) (c3 : Nat) (l : List S47) (r1 r2 r3 : Int) (r4 : List Int) (w : World) (hr1 : Kd.C (Kd.int .i64) w A1 d1.length d1) (hc1 : d1.length ≤ c1) (hr2 : Kd.C (Kd.int .i64) w A2 d2.length d2) (hc2 : d2.length ≤ c2) (hr3 : Kd.C k47 w A3 l.length l) (hc3 : l.length ≤ c3) (h : impl_patched.f a b p d1 a2 b2 p2 d2 l = some (r1, r2, r3, r4)) :
  Calls Try.prog 125 #[.agg #[.int .i64 a, .int .i64 b, .int .i64 p, .slice A1 d1.length c1], .agg #[.int .i64 a2, .int .i64 b2, .int .i64 p2, .slice A2 d2.length c2], .slice A3 l.length c3] w fun e w' => ∃ v3_ : Value, e = .returned (.agg #[.int .i64 r1, .int .i64 r2, .int .i64 r3, v3_]) ∧ Kd.R (Kd.int .i64) 3 w' w.heap.size (fun _ => True) v3_ r4 ∧ Below w.heap.size w w' := by
 unfold impl_patched.f at h
 by_cases hc : validI a b p d1 = true ∧ validI a b p d2 = true ∧ a2 = a ∧ b2 = b ∧ p2 = p ∧ l.all (onB a b) = true
 ·rw [if_pos hc] at h
  obtain ⟨hv1, hv2, rfl, rfl, rfl, hl⟩ := hc
  obtain ⟨rfl, rfl, rfl, rfl⟩ : a2 = r1 ∧ b2 = r2 ∧ p2 = r3 ∧ patchD a2 p2 d2 l d1 = r4 := by simpa using h
  exact patched_go a2 b2 p2 A1 A2 A3 c1 c2 c3 d1 d2 l hv1 hv2 (List.all_eq_true.1 hl) hc1 hc2 w hr1 hr2 hr3
 rw [if_neg hc] at h; cases h
end Go.Proofs.Ytnofkbbcbpjhfaa.Q
