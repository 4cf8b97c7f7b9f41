/- A part of the proof that the statement FnRedrawDirtySaid holds, under no condition of its own: Only dirty tiles need to be redrawn: the law FnRedrawDirty over lists of numbers alone. -/
import Derived.Test.YtnofkbbcbpjhfaaCFnRedrawDirty1
import Derived.Test.YtnofkbbcbpjhfaaCFnRedrawDirty2
import Derived.Test.YtnofkbbcbpjhfaaCFnRedrawDirty4
namespace Go.Proofs.Ytnofkbbcbpjhfaa.Q
open Go.RowKit Go.Proofs.YtnofkbbcbpjhfaaW.PrintWords Go.Proofs.YtnofkbbcbpjhfaaW.PrintLast Go.Proofs.YtnofkbbcbpjhfaaW.PrintMore
open Go.Proofs.YtnofkbbcbpjhfaaW.PrintWords.Aside0 (mk)
attribute [local go_sem] max2_int min2_int max_two min_two max_three min_three max_four min_four
set_option linter.unusedVariables false
set_option linter.unusedSimpArgs false
def laws_FnRedrawDirty.j0 : Nat → List S55 → Bool → Bool → Bool → Int → Int → Int → List Int → Int → Int → Int → List Int → Int → Int → Int → List Int → Option (Bool)
 | 0, _, _, _, _, _, _, _, _, _, _, _, _, _, _, _, _ => none
 | k + 1, x4, x6, x8, x51, xz0, xz1, xz2, xz3, xz4, xz5, xz6, xz7, xz8, xz9, xz10, xz11 => if x51 = true then ((laws_equalImage.f k xz4 xz5 xz6 xz7 xz8 xz9 xz10 xz11).bind fun tz26 => (if tz26 = true then (some (x6 == x8)) else (some false))) else (if 0 ≤ (wrap64 ((x4.length : Int) - 1)) then (if (wrap64 ((x4.length : Int) - 1)) ≤ (x4.length : Int) then ((impl_FlattenLayers.f k xz0 xz1 xz2 xz3 (x4.take ((wrap64 ((x4.length : Int) - 1)) : Int).toNat)).bind fun btz4 => (if (wrap64 ((x4.length : Int) - 1)) < (x4.length : Int) then ((impl_DirtyTiles.f k xz0 xz1 xz2 xz3 ((rd_T55 x4 (wrap64 ((x4.length : Int) - 1))).f0.f0) ((rd_T55 x4 (wrap64 ((x4.length : Int) - 1))).f0.f1) ((rd_T55 x4 (wrap64 ((x4.length : Int) - 1))).f0.f2) ((rd_T55 x4 (wrap64 ((x4.length : Int) - 1))).f0.f3) ((rd_T55 x4 (wrap64 ((x4.length : Int) - 1))).f1) ((rd_T55 x4 (wrap64 ((x4.length : Int) - 1))).f2) ((rd_T55 x4 (wrap64 ((x4.length : Int) - 1))).f3) ((rd_T55 x4 (wrap64 ((x4.length : Int) - 1))).f4) ((rd_T55 x4 (wrap64 ((x4.length : Int) - 1))).f5)).bind fun tz19 => ((impl_RedrawTiles.f k btz4.1 btz4.2.1 btz4.2.2.1 btz4.2.2.2.1 xz0 xz1 xz2 xz3 x4 tz19).bind fun btz3 => (if btz4.2.2.2.2 = true then (if btz3.2.2.2.2 = true then ((laws_equalImage.f k btz3.1 btz3.2.1 btz3.2.2.1 btz3.2.2.2.1 xz4 xz5 xz6 xz7).bind fun tz20 => (some tz20)) else (some false)) else (some false)))) else none)) else none) else none)
def laws_FnRedrawDirty.f (k : Nat) (l0 : List Int) : Option Bool := if (l0.length : Int) > 1048576 then (some true) else ((spec_DrawFlattenLayers.f k l0).bind fun btz2 => ((impl_FlattenLayers.f k btz2.1 btz2.2.1 btz2.2.2.1 btz2.2.2.2.1 btz2.2.2.2.2).bind fun btz1 => ((spec_FlattenLayers.f k btz2.1 btz2.2.1 btz2.2.2.1 btz2.2.2.2.1 btz2.2.2.2.2).bind fun btz0 => ((laws_equalImage.f k btz1.1 btz1.2.1 btz1.2.2.1 btz1.2.2.2.1 btz0.1 btz0.2.1 btz0.2.2.1 btz0.2.2.2.1).bind fun tz25 => (if tz25 = true then (if (btz1.2.2.2.2 != btz0.2.2.2.2) = true then (laws_FnRedrawDirty.j0 k btz2.2.2.2.2 btz1.2.2.2.2 btz0.2.2.2.2 true btz2.1 btz2.2.1 btz2.2.2.1 btz2.2.2.2.1 btz1.1 btz1.2.1 btz1.2.2.1 btz1.2.2.2.1 btz0.1 btz0.2.1 btz0.2.2.1 btz0.2.2.2.1) else (if btz1.2.2.2.2 = true then (laws_FnRedrawDirty.j0 k btz2.2.2.2.2 btz1.2.2.2.2 btz0.2.2.2.2 ((btz2.2.2.2.2.length : Int) == 0) btz2.1 btz2.2.1 btz2.2.2.1 btz2.2.2.2.1 btz1.1 btz1.2.1 btz1.2.2.1 btz1.2.2.2.1 btz0.1 btz0.2.1 btz0.2.2.1 btz0.2.2.2.1) else (laws_FnRedrawDirty.j0 k btz2.2.2.2.2 btz1.2.2.2.2 btz0.2.2.2.2 true btz2.1 btz2.2.1 btz2.2.2.1 btz2.2.2.2.1 btz1.1 btz1.2.1 btz1.2.2.1 btz1.2.2.2.1 btz0.1 btz0.2.1 btz0.2.2.1 btz0.2.2.2.1))) else (laws_FnRedrawDirty.j0 k btz2.2.2.2.2 btz1.2.2.2.2 btz0.2.2.2.2 true btz2.1 btz2.2.1 btz2.2.2.1 btz2.2.2.2.1 btz1.1 btz1.2.1 btz1.2.2.1 btz1.2.2.2.1 btz0.1 btz0.2.1 btz0.2.2.1 btz0.2.2.2.1))))))
theorem laws_FnRedrawDirty.mono_l : ∀ k, (∀ y0 y1 y2 y3 y4 y5 y6 y7 y8 y9 y10 y11 y12 y13 y14 y15, LeO (laws_FnRedrawDirty.j0 k y0 y1 y2 y3 y4 y5 y6 y7 y8 y9 y10 y11 y12 y13 y14 y15) (laws_FnRedrawDirty.j0 (k + 1) y0 y1 y2 y3 y4 y5 y6 y7 y8 y9 y10 y11 y12 y13 y14 y15))
 | 0 => fun _ _ _ _ _ _ _ _ _ _ _ _ _ _ _ _ r h => by simp [laws_FnRedrawDirty.j0] at h
 | k + 1 => by
  have ih0 := laws_FnRedrawDirty.mono_l k
  ·intro y0 y1 y2 y3 y4 y5 y6 y7 y8 y9 y10 y11 y12 y13 y14 y15
   unfold laws_FnRedrawDirty.j0
   repeat' first | (with_reducible exact impl_DirtyTiles.mono _ _ _ _ _ _ _ _ _ _ _ _ _ _) | (with_reducible exact impl_FlattenLayers.mono _ _ _ _ _ _) | (with_reducible exact impl_RedrawTiles.mono _ _ _ _ _ _ _ _ _ _ _) | (with_reducible exact laws_equalImage.mono _ _ _ _ _ _ _ _ _) | (with_reducible exact LeO.refl _) | (with_reducible refine LeO.ite ?_ ?_) | (with_reducible refine LeO.bind ?_ (fun _ => ?_))
theorem laws_FnRedrawDirty.mono : ∀ a0 k, LeO (laws_FnRedrawDirty.f k a0) (laws_FnRedrawDirty.f (k + 1) a0) := by
 intro a0 k
 have ih0 := laws_FnRedrawDirty.mono_l k
 unfold laws_FnRedrawDirty.f
 repeat' first | (with_reducible exact ih0 _ _ _ _ _ _ _ _ _ _ _ _ _ _ _ _) | (with_reducible exact impl_FlattenLayers.mono _ _ _ _ _ _) | (with_reducible exact laws_equalImage.mono _ _ _ _ _ _ _ _ _) | (with_reducible exact spec_DrawFlattenLayers.mono _ _) | (with_reducible exact spec_FlattenLayers.mono _ _ _ _ _ _) | (with_reducible exact LeO.refl _) | (with_reducible refine LeO.ite ?_ ?_) | (with_reducible refine LeO.bind ?_ (fun _ => ?_))
def laws_FnRedrawDirty.T9 : Bool × List (List Nat × List Nat) := (true, [([], []), ([], []), ([], []), ([1, 2], [1, 2]), ([0, 3], [0, 3]), ([4], [4]), ([5], [5]), ([5], [5]), ([], []), ([8, 6, 4, 0, 1, 2, 3, 4, 5, 6, 8], [6, 8]), ([7, 9, 0, 1, 2, 3, 4, 5, 6, 7, 8, 9], [7])])
def laws_FnRedrawDirty.B9 : List Nat := [0, 0, 0, 6, 15, 31, 63, 63, 0, 383, 1023]
theorem laws_FnRedrawDirty.tab9 : rtab .any (opsOf Try.f18 9) = laws_FnRedrawDirty.T9 := by kernel_rfl
theorem laws_FnRedrawDirty.bits9 : waitsOk laws_FnRedrawDirty.T9.2 laws_FnRedrawDirty.B9 = true := by kernel_rfl
def laws_FnRedrawDirty.T10 : Bool × List (List Nat × List Nat) := (true, [([], []), ([], []), ([], []), ([], []), ([], []), ([], []), ([4, 5], [4, 5]), ([6], [6]), ([3, 7], [3, 7]), ([0, 1, 2, 8, 8], [0, 1, 2, 8]), ([9], [9]), ([10], [10]), ([10], [10]), ([], []), ([13, 11, 9, 0, 1, 2, 3, 4, 5, 6, 7, 8, 9, 10, 11, 13], [11, 13]), ([12, 14, 0, 1, 2, 3, 4, 5, 6, 7, 8, 9, 10, 11, 12, 13, 14], [12])])
def laws_FnRedrawDirty.B10 : List Nat := [0, 0, 0, 0, 0, 0, 48, 112, 248, 511, 1023, 2047, 2047, 0, 12287, 32767]
theorem laws_FnRedrawDirty.tab10 : rtab .any (opsOf Try.f18 10) = laws_FnRedrawDirty.T10 := by kernel_rfl
theorem laws_FnRedrawDirty.bits10 : waitsOk laws_FnRedrawDirty.T10.2 laws_FnRedrawDirty.B10 = true := by kernel_rfl
set_option maxHeartbeats 8000000 in
set_option maxRecDepth 100000 in
theorem laws_FnRedrawDirty.calls (k : Nat) (A0 : Option Addr) (c0 : Nat) (l0 : List Int) (r : Bool) (w : World) (hr0 : Kd.C (Kd.int .u8) w A0 l0.length l0) (hc0 : l0.length ≤ c0) (h : laws_FnRedrawDirty.f k l0 = some r) (hrt : r = true) :
  Calls Try.prog 18 #[.slice A0 l0.length c0] w fun e w' => e = .returned (.bool r) ∧ Below w.heap.size w w' := by
 have HRT := mk hrt
 clear hrt
 have hu27 := Try.underlying27
 have hu55 := Try.underlying55
 have HR0 := mk hr0
 have HC0 := mk hc0
 clear hr0 hc0
 have HB := mk (Below.refl w.heap.size w)
 have H : (if (l0.length : Int) > 1048576 then (some true) else ((spec_DrawFlattenLayers.f k l0).bind fun btz2 => ((impl_FlattenLayers.f k btz2.1 btz2.2.1 btz2.2.2.1 btz2.2.2.2.1 btz2.2.2.2.2).bind fun btz1 => ((spec_FlattenLayers.f k btz2.1 btz2.2.1 btz2.2.2.1 btz2.2.2.2.1 btz2.2.2.2.2).bind fun btz0 => ((laws_equalImage.f k btz1.1 btz1.2.1 btz1.2.2.1 btz1.2.2.2.1 btz0.1 btz0.2.1 btz0.2.2.1 btz0.2.2.2.1).bind fun tz25 => (if tz25 = true then (if (btz1.2.2.2.2 != btz0.2.2.2.2) = true then (laws_FnRedrawDirty.j0 k btz2.2.2.2.2 btz1.2.2.2.2 btz0.2.2.2.2 true btz2.1 btz2.2.1 btz2.2.2.1 btz2.2.2.2.1 btz1.1 btz1.2.1 btz1.2.2.1 btz1.2.2.2.1 btz0.1 btz0.2.1 btz0.2.2.1 btz0.2.2.2.1) else (if btz1.2.2.2.2 = true then (laws_FnRedrawDirty.j0 k btz2.2.2.2.2 btz1.2.2.2.2 btz0.2.2.2.2 ((btz2.2.2.2.2.length : Int) == 0) btz2.1 btz2.2.1 btz2.2.2.1 btz2.2.2.2.1 btz1.1 btz1.2.1 btz1.2.2.1 btz1.2.2.2.1 btz0.1 btz0.2.1 btz0.2.2.1 btz0.2.2.2.1) else (laws_FnRedrawDirty.j0 k btz2.2.2.2.2 btz1.2.2.2.2 btz0.2.2.2.2 true btz2.1 btz2.2.1 btz2.2.2.1 btz2.2.2.2.1 btz1.1 btz1.2.1 btz1.2.2.1 btz1.2.2.2.1 btz0.1 btz0.2.1 btz0.2.2.1 btz0.2.2.2.1))) else (laws_FnRedrawDirty.j0 k btz2.2.2.2.2 btz1.2.2.2.2 btz0.2.2.2.2 true btz2.1 btz2.2.1 btz2.2.2.1 btz2.2.2.2.1 btz1.1 btz1.2.1 btz1.2.2.1 btz1.2.2.2.1 btz0.1 btz0.2.1 btz0.2.2.1 btz0.2.2.2.1))))))) = some r := h
 clear h
 by_cases c2 : (l0.length : Int) > 1048576
 ·rw [if_pos c2] at H
  have c2b0 : decide (1048576 < (l0.length : Int)) = true := decide_eq_true c2
  have c2b1 : decide (1048576 < l0.length) = true := decide_eq_true (by omega)
  clear c2
  obtain rfl := Option.some.inj H
  go_enter Try.func18, Try.ntmps18
  go_wp2
  go_ret
  exact ⟨by rfl, by exact HB.out⟩
 ·rw [if_neg c2] at H
  have c2b0 : decide (1048576 < (l0.length : Int)) = false := decide_eq_false c2
  have c2b1 : decide (1048576 < l0.length) = false := decide_eq_false (by omega)
  clear c2
  replace H := Option.bind_eq_some_iff.mp H
  obtain ⟨⟨tz4, tz5, tz6, tz1, tz0⟩, A30, H⟩ := H
  replace H : ((impl_FlattenLayers.f k tz4 tz5 tz6 tz1 tz0).bind fun btz1 => ((spec_FlattenLayers.f k tz4 tz5 tz6 tz1 tz0).bind fun btz0 => ((laws_equalImage.f k btz1.1 btz1.2.1 btz1.2.2.1 btz1.2.2.2.1 btz0.1 btz0.2.1 btz0.2.2.1 btz0.2.2.2.1).bind fun tz25 => (if tz25 = true then (if (btz1.2.2.2.2 != btz0.2.2.2.2) = true then (laws_FnRedrawDirty.j0 k tz0 btz1.2.2.2.2 btz0.2.2.2.2 true tz4 tz5 tz6 tz1 btz1.1 btz1.2.1 btz1.2.2.1 btz1.2.2.2.1 btz0.1 btz0.2.1 btz0.2.2.1 btz0.2.2.2.1) else (if btz1.2.2.2.2 = true then (laws_FnRedrawDirty.j0 k tz0 btz1.2.2.2.2 btz0.2.2.2.2 ((tz0.length : Int) == 0) tz4 tz5 tz6 tz1 btz1.1 btz1.2.1 btz1.2.2.1 btz1.2.2.2.1 btz0.1 btz0.2.1 btz0.2.2.1 btz0.2.2.2.1) else (laws_FnRedrawDirty.j0 k tz0 btz1.2.2.2.2 btz0.2.2.2.2 true tz4 tz5 tz6 tz1 btz1.1 btz1.2.1 btz1.2.2.1 btz1.2.2.2.1 btz0.1 btz0.2.1 btz0.2.2.1 btz0.2.2.2.1))) else (laws_FnRedrawDirty.j0 k tz0 btz1.2.2.2.2 btz0.2.2.2.2 true tz4 tz5 tz6 tz1 btz1.1 btz1.2.1 btz1.2.2.1 btz1.2.2.2.1 btz0.1 btz0.2.1 btz0.2.2.1 btz0.2.2.2.1))))) = some r := H
  have A3 := mk A30
  clear A30
  replace H := Option.bind_eq_some_iff.mp H
  obtain ⟨⟨tz9, tz10, tz11, tz2, tz16⟩, A40, H⟩ := H
  replace H : ((spec_FlattenLayers.f k tz4 tz5 tz6 tz1 tz0).bind fun btz0 => ((laws_equalImage.f k tz9 tz10 tz11 tz2 btz0.1 btz0.2.1 btz0.2.2.1 btz0.2.2.2.1).bind fun tz25 => (if tz25 = true then (if (tz16 != btz0.2.2.2.2) = true then (laws_FnRedrawDirty.j0 k tz0 tz16 btz0.2.2.2.2 true tz4 tz5 tz6 tz1 tz9 tz10 tz11 tz2 btz0.1 btz0.2.1 btz0.2.2.1 btz0.2.2.2.1) else (if tz16 = true then (laws_FnRedrawDirty.j0 k tz0 tz16 btz0.2.2.2.2 ((tz0.length : Int) == 0) tz4 tz5 tz6 tz1 tz9 tz10 tz11 tz2 btz0.1 btz0.2.1 btz0.2.2.1 btz0.2.2.2.1) else (laws_FnRedrawDirty.j0 k tz0 tz16 btz0.2.2.2.2 true tz4 tz5 tz6 tz1 tz9 tz10 tz11 tz2 btz0.1 btz0.2.1 btz0.2.2.1 btz0.2.2.2.1))) else (laws_FnRedrawDirty.j0 k tz0 tz16 btz0.2.2.2.2 true tz4 tz5 tz6 tz1 tz9 tz10 tz11 tz2 btz0.1 btz0.2.1 btz0.2.2.1 btz0.2.2.2.1)))) = some r := H
  have A4 := mk A40
  clear A40
  replace H := Option.bind_eq_some_iff.mp H
  obtain ⟨⟨tz7, tz8, tz12, tz3, tz18⟩, A50, H⟩ := H
  replace H : ((laws_equalImage.f k tz9 tz10 tz11 tz2 tz7 tz8 tz12 tz3).bind fun tz25 => (if tz25 = true then (if (tz16 != tz18) = true then (laws_FnRedrawDirty.j0 k tz0 tz16 tz18 true tz4 tz5 tz6 tz1 tz9 tz10 tz11 tz2 tz7 tz8 tz12 tz3) else (if tz16 = true then (laws_FnRedrawDirty.j0 k tz0 tz16 tz18 ((tz0.length : Int) == 0) tz4 tz5 tz6 tz1 tz9 tz10 tz11 tz2 tz7 tz8 tz12 tz3) else (laws_FnRedrawDirty.j0 k tz0 tz16 tz18 true tz4 tz5 tz6 tz1 tz9 tz10 tz11 tz2 tz7 tz8 tz12 tz3))) else (laws_FnRedrawDirty.j0 k tz0 tz16 tz18 true tz4 tz5 tz6 tz1 tz9 tz10 tz11 tz2 tz7 tz8 tz12 tz3))) = some r := H
  have A5 := mk A50
  clear A50
  have HC6 := mk H
  clear H
  go_enter Try.func18, Try.ntmps18
  go_upto_region 6 with (first | ((with_reducible refine gate_callee (f := 70) rfl ?_); refine goesL_ (some 19) rfl rfl Try.func70 (by kernel_rfl) rfl #[.slice A0 l0.length c0] rfl (by (try simp only [List.map_toArray, List.map_cons, List.map_nil]); rfl) ?_; (with_reducible refine (spec_DrawFlattenLayers.calls k _ _ l0 tz4 tz5 tz6 tz1 tz0 _ ?side1 ?side2 A3.out).mono ?_); (case side1 => repeat (exact HR0.out)); (case side2 => exact HC0.out); rintro e w7 ⟨vz3, vz4, rfl, ho0, ho1, hb⟩; refine ⟨_, rfl, ?_⟩; have HOz6 := mk (Kd.Q_lower (Kd.Q_mono (ok' := fun k_ => True) ho0 (fun _ hk_ => trivial)) (below_size HB.out)); have HOz8 := mk (Kd.N_lower (Kd.N_mono (ok' := fun k_ => some k_ ≠ (vz3 : Value).ownBlock) ho1 (fun k_ hk_ => hk_.2)) (below_size HB.out)); replace HB := mk (below_step HB.out hb); (try clear hb); (try clear ho0); (try clear ho1)) | ((with_reducible refine gate_dst (N := 3) rfl ?_); (try (refine gate_guard (by rfl) ?_; dsimp only)); refine box_event (by rfl) (N := 3) (by rfl) (cs := #[.int .i64 0, .int .i64 0, .int .i64 0, .slice none 0 0]) (t := 27) (by go_simp; done) ?_; intro gbz4 hg w8 hbox hb; replace HOz6 := mk (Kd.Q_below HOz6.out hb); replace HOz8 := mk (Kd.N_below (Kd.N_elderB HOz8.out gbz4 (Nat.le_of_eq hg.symm)) hb); have BKz0 := mk (hbox); have GEz3 := mk ((by rw [hg]; exact (below_size HB.out) : w.heap.size ≤ gbz4)); replace HB := mk (below_step HB.out hb); clear hb hbox hg; obtain ⟨hcz9_0, hcz9_1, hcz9_2, hcz9_3, hfz9_0, hfz9_1, hfz9_2, hfz9_3⟩ := c4 BKz0.out; obtain ⟨Ao10, co10, eo10, _⟩ := Kd.Q_slice HOz6.out; subst eo10; obtain ⟨Ao11, co11, eo11⟩ := Kd.N_slice HOz8.out; subst eo11) | ((with_reducible refine gate_callee (f := 67) rfl ?_); refine goesL_ (some 25) rfl rfl Try.func67 (by kernel_rfl) rfl #[.agg #[.int .i64 tz4, .int .i64 tz5, .int .i64 tz6, .slice Ao10 tz1.length co10], .slice Ao11 tz0.length co11] rfl (by (try simp only [List.map_toArray, List.map_cons, List.map_nil]); rfl) ?_; (with_reducible refine (impl_FlattenLayers.calls k tz4 tz5 tz6 _ _ tz1 _ _ tz0 tz9 tz10 tz11 tz2 tz16 _ ?side1 ?side2 ?side3 ?side4 A4.out).mono ?_); (case side1 => refine (Kd.Q_reads' (e := 3) (base := w.heap.size) (ok := fun k_ => True) (n := tz1.length) (c := co10) ?_).2.2; exact (by exact (Kd.Q_mono (Kd.Q_far (p := ⟨gbz4, 3, none⟩) (Kd.Q_far (p := ⟨gbz4, 2, none⟩) (Kd.Q_far (p := ⟨gbz4, 1, none⟩) (Kd.Q_far (p := ⟨gbz4, 0, none⟩) (Kd.Q_types HOz6.out BKz0.out (by decide)) (fun _ hk => hk.2) (.int .i64 tz4)) (fun _ hk => hk.2) (.int .i64 tz5)) (fun _ hk => hk.2) (.int .i64 tz6)) (fun _ hk => hk.2) (.slice Ao10 tz1.length co10)) (fun _ h_ => h_.1)))); (case side2 => exact (Kd.Q_reads' HOz6.out).2.1); (case side3 => refine (Kd.N_reads' (e := 55) (base := w.heap.size) (ok := fun k_ => (some k_ ≠ (.slice Ao10 tz1.length co10 : Value).ownBlock ∧ k_ ≠ gbz4)) (n := tz0.length) (c := co11) ?_).2.2; exact (by exact (Kd.N_mono (Kd.N_far (p := ⟨gbz4, 3, none⟩) (Kd.N_far (p := ⟨gbz4, 2, none⟩) (Kd.N_far (p := ⟨gbz4, 1, none⟩) (Kd.N_far (p := ⟨gbz4, 0, none⟩) (Kd.N_mono HOz8.out (fun k_ hk => (⟨hk, hk.2⟩ : _ ∧ k_ ≠ gbz4))) (fun _ hk => hk.2) (.int .i64 tz4)) (fun _ hk => hk.2) (.int .i64 tz5)) (fun _ hk => hk.2) (.int .i64 tz6)) (fun _ hk => hk.2) (.slice Ao10 tz1.length co10)) (fun _ h_ => h_.1)))); (case side4 => exact (Kd.N_reads' HOz8.out).2.1); rintro e w12 ⟨vz5, rfl, ho0, hb⟩; refine ⟨_, rfl, ?_⟩; replace HOz8 := mk (Kd.N_elder' (by exact (Kd.N_mono (Kd.N_far (p := ⟨gbz4, 3, none⟩) (Kd.N_far (p := ⟨gbz4, 2, none⟩) (Kd.N_far (p := ⟨gbz4, 1, none⟩) (Kd.N_far (p := ⟨gbz4, 0, none⟩) (Kd.N_mono HOz8.out (fun k_ hk => (⟨hk, hk.2⟩ : _ ∧ k_ ≠ gbz4))) (fun _ hk => hk.2) (.int .i64 tz4)) (fun _ hk => hk.2) (.int .i64 tz5)) (fun _ hk => hk.2) (.int .i64 tz6)) (fun _ hk => hk.2) (.slice Ao10 tz1.length co10)) (fun _ h_ => h_.1))) (Kd.R_base ho0) hb); have HOz7 := mk (Kd.R_lower (Kd.R_new' ho0 (Kd.Q_lt (by exact (Kd.Q_mono (Kd.Q_far (p := ⟨gbz4, 3, none⟩) (Kd.Q_far (p := ⟨gbz4, 2, none⟩) (Kd.Q_far (p := ⟨gbz4, 1, none⟩) (Kd.Q_far (p := ⟨gbz4, 0, none⟩) (Kd.Q_types HOz6.out BKz0.out (by decide)) (fun _ hk => hk.2) (.int .i64 tz4)) (fun _ hk => hk.2) (.int .i64 tz5)) (fun _ hk => hk.2) (.int .i64 tz6)) (fun _ hk => hk.2) (.slice Ao10 tz1.length co10)) (fun _ h_ => h_.1))))) (below_size (by repeat (with_reducible first | exact HB.out | refine below_set ?_ GEz3.out)))); replace HOz6 := mk (Kd.Q_elder' (by exact (Kd.Q_mono (Kd.Q_far (p := ⟨gbz4, 3, none⟩) (Kd.Q_far (p := ⟨gbz4, 2, none⟩) (Kd.Q_far (p := ⟨gbz4, 1, none⟩) (Kd.Q_far (p := ⟨gbz4, 0, none⟩) (Kd.Q_types HOz6.out BKz0.out (by decide)) (fun _ hk => hk.2) (.int .i64 tz4)) (fun _ hk => hk.2) (.int .i64 tz5)) (fun _ hk => hk.2) (.int .i64 tz6)) (fun _ hk => hk.2) (.slice Ao10 tz1.length co10)) (fun _ h_ => h_.1))) (Kd.R_base ho0) hb); replace BKz0 := mk (blk_below (g := gbz4) (o := .cells #[.int .i64 tz4, .int .i64 tz5, .int .i64 tz6, .slice Ao10 tz1.length co10] 27 (0, 0)) (by refine blk_put (cs := #[.int .i64 tz4, .int .i64 tz5, .int .i64 tz6, .slice none 0 0]) ?_ 3 _ rfl; refine blk_put (cs := #[.int .i64 tz4, .int .i64 tz5, .int .i64 0, .slice none 0 0]) ?_ 2 _ rfl; refine blk_put (cs := #[.int .i64 tz4, .int .i64 0, .int .i64 0, .slice none 0 0]) ?_ 1 _ rfl; refine blk_put (cs := #[.int .i64 0, .int .i64 0, .int .i64 0, .slice none 0 0]) ?_ 0 _ rfl; exact BKz0.out) hb); replace HB := mk (below_step (by repeat (with_reducible first | exact HB.out | refine below_set ?_ GEz3.out)) hb); (try clear hb); (try clear ho0)) | ((with_reducible refine gate_dst (N := 5) rfl ?_); (try (refine gate_guard (by rfl) ?_; dsimp only)); refine box_event (by rfl) (N := 5) (by rfl) (cs := #[.int .i64 0, .int .i64 0, .int .i64 0, .slice none 0 0]) (t := 27) (by go_simp; done) ?_; intro gbz3 hg w13 hbox hb; replace HOz6 := mk (Kd.Q_below HOz6.out hb); replace HOz8 := mk (Kd.N_below (Kd.N_elderB HOz8.out gbz3 (Nat.le_of_eq hg.symm)) hb); replace HOz7 := mk (Kd.R_below HOz7.out hb); have BKz1 := mk (hbox); have GEz4 := mk ((by rw [hg]; exact (below_size HB.out) : w.heap.size ≤ gbz3)); replace HB := mk (below_step HB.out hb); have NBz16 := mk ((by rw [hg]; exact Nat.ne_of_lt (blk_lt BKz0.out) : gbz4 ≠ gbz3)); have NBz19 := mk ((by rw [hg]; exact Nat.ne_of_gt (blk_lt BKz0.out) : gbz3 ≠ gbz4)); replace BKz0 := mk (blk_below BKz0.out hb); clear hb hbox hg; have hnc14 := NBz16.out; obtain ⟨hcz15_0, hcz15_1, hcz15_2, hcz15_3, hfz15_0, hfz15_1, hfz15_2, hfz15_3⟩ := c4 BKz1.out; obtain ⟨Ao16, co16, eo16⟩ := Kd.R_slice HOz7.out; subst eo16; obtain ⟨hcz17_0, hcz17_1, hcz17_2, hcz17_3, hfz17_0, hfz17_1, hfz17_2, -⟩ := c4 BKz0.out; have hfz17_3 := blk_frozen BKz0.out 3) | ((with_reducible refine gate_callee (f := 65) rfl ?_); refine goesL_ (some 31) rfl rfl Try.func65 (by kernel_rfl) rfl #[.agg #[.int .i64 tz4, .int .i64 tz5, .int .i64 tz6, .slice Ao10 tz1.length co10], .slice Ao11 tz0.length co11] rfl (by (try simp only [List.map_toArray, List.map_cons, List.map_nil]); rfl) ?_; (with_reducible refine (spec_FlattenLayers.calls k tz4 tz5 tz6 _ _ tz1 _ _ tz0 tz7 tz8 tz12 tz3 tz18 _ ?side1 ?side2 ?side3 ?side4 A5.out).mono ?_); (case side1 => refine (Kd.Q_reads' (e := 3) (base := w.heap.size) (ok := fun k_ => (True ∧ some k_ ≠ (.slice Ao16 tz2.length co16 : Value).ownBlock)) (n := tz1.length) (c := co10) ?_).2.2; exact (by exact (Kd.Q_mono (Kd.Q_far (p := ⟨gbz3, 3, none⟩) (Kd.Q_far (p := ⟨gbz3, 2, none⟩) (Kd.Q_far (p := ⟨gbz3, 1, none⟩) (Kd.Q_far (p := ⟨gbz3, 0, none⟩) (Kd.Q_types HOz6.out BKz1.out (by decide)) (fun _ hk => hk.2) (.int .i64 tz9)) (fun _ hk => hk.2) (.int .i64 tz10)) (fun _ hk => hk.2) (.int .i64 tz11)) (fun _ hk => hk.2) (.slice Ao16 tz2.length co16)) (fun _ h_ => h_.1)))); (case side2 => exact (Kd.Q_reads' HOz6.out).2.1); (case side3 => refine (Kd.N_reads' (e := 55) (base := w.heap.size) (ok := fun k_ => (((some k_ ≠ (.slice Ao10 tz1.length co10 : Value).ownBlock ∧ k_ ≠ gbz4) ∧ some k_ ≠ (.slice Ao16 tz2.length co16 : Value).ownBlock) ∧ k_ ≠ gbz3)) (n := tz0.length) (c := co11) ?_).2.2; exact (by exact (Kd.N_mono (Kd.N_far (p := ⟨gbz3, 3, none⟩) (Kd.N_far (p := ⟨gbz3, 2, none⟩) (Kd.N_far (p := ⟨gbz3, 1, none⟩) (Kd.N_far (p := ⟨gbz3, 0, none⟩) (Kd.N_mono HOz8.out (fun k_ hk => (⟨hk, hk.2⟩ : _ ∧ k_ ≠ gbz3))) (fun _ hk => hk.2) (.int .i64 tz9)) (fun _ hk => hk.2) (.int .i64 tz10)) (fun _ hk => hk.2) (.int .i64 tz11)) (fun _ hk => hk.2) (.slice Ao16 tz2.length co16)) (fun _ h_ => h_.1)))); (case side4 => exact (Kd.N_reads' HOz8.out).2.1); rintro e w18 ⟨vz6, rfl, ho0, hb⟩; refine ⟨_, rfl, ?_⟩; replace HOz8 := mk (Kd.N_elder' (by exact (Kd.N_mono (Kd.N_far (p := ⟨gbz3, 3, none⟩) (Kd.N_far (p := ⟨gbz3, 2, none⟩) (Kd.N_far (p := ⟨gbz3, 1, none⟩) (Kd.N_far (p := ⟨gbz3, 0, none⟩) (Kd.N_mono HOz8.out (fun k_ hk => (⟨hk, hk.2⟩ : _ ∧ k_ ≠ gbz3))) (fun _ hk => hk.2) (.int .i64 tz9)) (fun _ hk => hk.2) (.int .i64 tz10)) (fun _ hk => hk.2) (.int .i64 tz11)) (fun _ hk => hk.2) (.slice Ao16 tz2.length co16)) (fun _ h_ => h_.1))) (Kd.R_base ho0) hb); have HOz9 := mk (Kd.R_lower (Kd.R_new' (Kd.R_new' ho0 (Kd.Q_lt (by exact (Kd.Q_mono (Kd.Q_far (p := ⟨gbz3, 3, none⟩) (Kd.Q_far (p := ⟨gbz3, 2, none⟩) (Kd.Q_far (p := ⟨gbz3, 1, none⟩) (Kd.Q_far (p := ⟨gbz3, 0, none⟩) (Kd.Q_types HOz6.out BKz1.out (by decide)) (fun _ hk => hk.2) (.int .i64 tz9)) (fun _ hk => hk.2) (.int .i64 tz10)) (fun _ hk => hk.2) (.int .i64 tz11)) (fun _ hk => hk.2) (.slice Ao16 tz2.length co16)) (fun _ h_ => h_.1))))) (Kd.R_lt (by exact (Kd.R_mono (Kd.R_far (p := ⟨gbz3, 3, none⟩) (Kd.R_far (p := ⟨gbz3, 2, none⟩) (Kd.R_far (p := ⟨gbz3, 1, none⟩) (Kd.R_far (p := ⟨gbz3, 0, none⟩) (Kd.R_types HOz7.out BKz1.out (by decide)) (fun _ hk => hk.2) (.int .i64 tz9)) (fun _ hk => hk.2) (.int .i64 tz10)) (fun _ hk => hk.2) (.int .i64 tz11)) (fun _ hk => hk.2) (.slice Ao16 tz2.length co16)) (fun _ h_ => h_.1))))) (below_size (by repeat (with_reducible first | exact HB.out | refine below_set ?_ GEz4.out)))); replace HOz6 := mk (Kd.Q_elder' (by exact (Kd.Q_mono (Kd.Q_far (p := ⟨gbz3, 3, none⟩) (Kd.Q_far (p := ⟨gbz3, 2, none⟩) (Kd.Q_far (p := ⟨gbz3, 1, none⟩) (Kd.Q_far (p := ⟨gbz3, 0, none⟩) (Kd.Q_types HOz6.out BKz1.out (by decide)) (fun _ hk => hk.2) (.int .i64 tz9)) (fun _ hk => hk.2) (.int .i64 tz10)) (fun _ hk => hk.2) (.int .i64 tz11)) (fun _ hk => hk.2) (.slice Ao16 tz2.length co16)) (fun _ h_ => h_.1))) (Kd.R_base ho0) hb); replace HOz7 := mk (Kd.R_elder' (by exact (Kd.R_mono (Kd.R_far (p := ⟨gbz3, 3, none⟩) (Kd.R_far (p := ⟨gbz3, 2, none⟩) (Kd.R_far (p := ⟨gbz3, 1, none⟩) (Kd.R_far (p := ⟨gbz3, 0, none⟩) (Kd.R_types HOz7.out BKz1.out (by decide)) (fun _ hk => hk.2) (.int .i64 tz9)) (fun _ hk => hk.2) (.int .i64 tz10)) (fun _ hk => hk.2) (.int .i64 tz11)) (fun _ hk => hk.2) (.slice Ao16 tz2.length co16)) (fun _ h_ => h_.1))) (Kd.R_base ho0) hb); replace BKz0 := mk (blk_below (g := gbz4) (o := .cells #[.int .i64 tz4, .int .i64 tz5, .int .i64 tz6, .slice Ao10 tz1.length co10] 27 (0, 0)) (by refine blk_far ?_ NBz16.out _; refine blk_far ?_ NBz16.out _; refine blk_far ?_ NBz16.out _; refine blk_far ?_ NBz16.out _; exact BKz0.out) hb); replace BKz1 := mk (blk_below (g := gbz3) (o := .cells #[.int .i64 tz9, .int .i64 tz10, .int .i64 tz11, .slice Ao16 tz2.length co16] 27 (0, 0)) (by refine blk_put (cs := #[.int .i64 tz9, .int .i64 tz10, .int .i64 tz11, .slice none 0 0]) ?_ 3 _ rfl; refine blk_put (cs := #[.int .i64 tz9, .int .i64 tz10, .int .i64 0, .slice none 0 0]) ?_ 2 _ rfl; refine blk_put (cs := #[.int .i64 tz9, .int .i64 0, .int .i64 0, .slice none 0 0]) ?_ 1 _ rfl; refine blk_put (cs := #[.int .i64 0, .int .i64 0, .int .i64 0, .slice none 0 0]) ?_ 0 _ rfl; exact BKz1.out) hb); replace HB := mk (below_step (by repeat (with_reducible first | exact HB.out | refine below_set ?_ GEz4.out)) hb); (try clear hb); (try clear ho0)) | ((with_reducible refine gate_dst (N := 7) rfl ?_); (try (refine gate_guard (by rfl) ?_; dsimp only)); refine box_event (by rfl) (N := 7) (by rfl) (cs := #[.int .i64 0, .int .i64 0, .int .i64 0, .slice none 0 0]) (t := 27) (by go_simp; done) ?_; intro gbz1 hg w19 hbox hb; replace HOz6 := mk (Kd.Q_below HOz6.out hb); replace HOz8 := mk (Kd.N_below (Kd.N_elderB HOz8.out gbz1 (Nat.le_of_eq hg.symm)) hb); replace HOz7 := mk (Kd.R_below HOz7.out hb); replace HOz9 := mk (Kd.R_below HOz9.out hb); have BKz2 := mk (hbox); have GEz2 := mk ((by rw [hg]; exact (below_size HB.out) : w.heap.size ≤ gbz1)); replace HB := mk (below_step HB.out hb); have NBz3 := mk ((by rw [hg]; exact Nat.ne_of_lt (blk_lt BKz0.out) : gbz4 ≠ gbz1)); have NBz18 := mk ((by rw [hg]; exact Nat.ne_of_gt (blk_lt BKz0.out) : gbz1 ≠ gbz4)); replace BKz0 := mk (blk_below BKz0.out hb); have NBz4 := mk ((by rw [hg]; exact Nat.ne_of_lt (blk_lt BKz1.out) : gbz3 ≠ gbz1)); have NBz17 := mk ((by rw [hg]; exact Nat.ne_of_gt (blk_lt BKz1.out) : gbz1 ≠ gbz3)); replace BKz1 := mk (blk_below BKz1.out hb); clear hb hbox hg; obtain ⟨hcz22_0, hcz22_1, hcz22_2, hcz22_3, hfz22_0, hfz22_1, hfz22_2, hfz22_3⟩ := c4 BKz2.out; obtain ⟨Ao23, co23, eo23⟩ := Kd.R_slice HOz9.out; subst eo23))
  go_cut [51] (fun v51 wc => ∃ (kq : Nat) (x51_5 : Bool), v51 = .bool x51_5 ∧ Aside0 (laws_FnRedrawDirty.j0 kq tz0 tz16 tz18 x51_5 tz4 tz5 tz6 tz1 tz9 tz10 tz11 tz2 tz7 tz8 tz12 tz3 = some r) ∧ Aside0 (kq ≤ k) ∧ Aside0 (Kd.N k55 55 wc w.heap.size (fun k_ => some k_ ≠ ((.slice Ao10 tz1.length co10) : Value).ownBlock ∧ some k_ ≠ ((.slice Ao16 tz2.length co16) : Value).ownBlock ∧ some k_ ≠ ((.slice Ao23 tz3.length co23) : Value).ownBlock ∧ k_ ≠ gbz4 ∧ k_ ≠ gbz3 ∧ k_ ≠ gbz1) (.slice Ao11 tz0.length co11) tz0) ∧ Aside0 (Kd.Q (Kd.int .i64) 3 wc w.heap.size (fun k_ => some k_ ≠ ((.slice Ao16 tz2.length co16) : Value).ownBlock ∧ some k_ ≠ ((.slice Ao23 tz3.length co23) : Value).ownBlock) (.slice Ao10 tz1.length co10) tz1) ∧ Aside0 (Kd.Q (Kd.int .i64) 3 wc w.heap.size (fun k_ => some k_ ≠ ((.slice Ao10 tz1.length co10) : Value).ownBlock ∧ some k_ ≠ ((.slice Ao23 tz3.length co23) : Value).ownBlock) (.slice Ao16 tz2.length co16) tz2) ∧ Aside0 (Kd.Q (Kd.int .i64) 3 wc w.heap.size (fun k_ => some k_ ≠ ((.slice Ao10 tz1.length co10) : Value).ownBlock ∧ some k_ ≠ ((.slice Ao16 tz2.length co16) : Value).ownBlock) (.slice Ao23 tz3.length co23) tz3) ∧ Aside0 (wc.heap[gbz4]? = some (.cells #[.int .i64 tz4, .int .i64 tz5, .int .i64 tz6, (.slice Ao10 tz1.length co10)] 27 (0, 0))) ∧ Aside0 (wc.heap[gbz3]? = some (.cells #[.int .i64 tz9, .int .i64 tz10, .int .i64 tz11, (.slice Ao16 tz2.length co16)] 27 (0, 0))) ∧ Aside0 (wc.heap[gbz1]? = some (.cells #[.int .i64 tz7, .int .i64 tz8, .int .i64 tz12, (.slice Ao23 tz3.length co23)] 27 (0, 0))) ∧ Aside0 (Below w.heap.size w wc))
  case first =>
   have H := HC6.out
   clear HC6
   replace H := Option.bind_eq_some_iff.mp H
   obtain ⟨tz25, A240, H⟩ := H
   replace H : (if tz25 = true then (if (tz16 != tz18) = true then (laws_FnRedrawDirty.j0 k tz0 tz16 tz18 true tz4 tz5 tz6 tz1 tz9 tz10 tz11 tz2 tz7 tz8 tz12 tz3) else (if tz16 = true then (laws_FnRedrawDirty.j0 k tz0 tz16 tz18 ((tz0.length : Int) == 0) tz4 tz5 tz6 tz1 tz9 tz10 tz11 tz2 tz7 tz8 tz12 tz3) else (laws_FnRedrawDirty.j0 k tz0 tz16 tz18 true tz4 tz5 tz6 tz1 tz9 tz10 tz11 tz2 tz7 tz8 tz12 tz3))) else (laws_FnRedrawDirty.j0 k tz0 tz16 tz18 true tz4 tz5 tz6 tz1 tz9 tz10 tz11 tz2 tz7 tz8 tz12 tz3)) = some r := H
   have A24 := mk A240
   clear A240
   by_cases c25 : tz25 = true
   ·subst c25
    have H1 : (if (tz16 != tz18) = true then (laws_FnRedrawDirty.j0 k tz0 tz16 tz18 true tz4 tz5 tz6 tz1 tz9 tz10 tz11 tz2 tz7 tz8 tz12 tz3) else (if tz16 = true then (laws_FnRedrawDirty.j0 k tz0 tz16 tz18 ((tz0.length : Int) == 0) tz4 tz5 tz6 tz1 tz9 tz10 tz11 tz2 tz7 tz8 tz12 tz3) else (laws_FnRedrawDirty.j0 k tz0 tz16 tz18 true tz4 tz5 tz6 tz1 tz9 tz10 tz11 tz2 tz7 tz8 tz12 tz3))) = some r := by rw [if_pos rfl] at H; exact H
    clear H
    have H := H1
    clear H1
    by_cases c26 : (tz16 != tz18) = true
    ·rw [if_pos c26] at H
     have c26b0 : (tz16 != tz18) = true := c26
     (try (have c26b1 : decide (tz16 = tz18) = false := by simpa using c26))
     (try (have c26b2 : (tz16 == tz18) = false := by simpa using c26))
     (try (have c26b3 : ¬ (tz16 = tz18) := by simpa using c26))
     clear c26
     (skip)
     have H' := mk H
     clear H
     have hnc28 := NBz17.out
     obtain ⟨hcz29_0, hcz29_1, hcz29_2, hcz29_3, -⟩ := c4 BKz1.out
     have hnb30 := NBz18.out
     have hnc30 := NBz3.out
     go_wp2_with (first | ((with_reducible refine gate_callee (f := 26) rfl ?_); refine goesL_ (some 36) rfl rfl Try.func26 (by kernel_rfl) rfl #[.agg #[.int .i64 tz9, .int .i64 tz10, .int .i64 tz11, .slice Ao16 tz2.length co16], .agg #[.int .i64 tz7, .int .i64 tz8, .int .i64 tz12, .slice Ao23 tz3.length co23]] rfl (by (try simp only [List.map_toArray, List.map_cons, List.map_nil]); rfl) ?_; (with_reducible refine (laws_equalImage.calls k tz9 tz10 tz11 _ _ tz2 tz7 tz8 tz12 _ _ tz3 true _ ?side1 ?side2 ?side3 ?side4 A24.out).mono ?_); (case side1 => refine (Kd.R_reads' (e := 3) (base := w.heap.size) (ok := fun k_ => ((True ∧ some k_ ≠ (.slice Ao10 tz1.length co10 : Value).ownBlock) ∧ some k_ ≠ (.slice Ao23 tz3.length co23 : Value).ownBlock)) (n := tz2.length) (c := co16) ?_).2.2; exact (by exact (Kd.R_mono (Kd.R_far (p := ⟨gbz1, 3, none⟩) (Kd.R_far (p := ⟨gbz1, 2, none⟩) (Kd.R_far (p := ⟨gbz1, 1, none⟩) (Kd.R_far (p := ⟨gbz1, 0, none⟩) (Kd.R_types HOz7.out BKz2.out (by decide)) (fun _ hk => hk.2) (.int .i64 tz7)) (fun _ hk => hk.2) (.int .i64 tz8)) (fun _ hk => hk.2) (.int .i64 tz12)) (fun _ hk => hk.2) (.slice Ao23 tz3.length co23)) (fun _ h_ => h_.1)))); (case side2 => exact (Kd.R_reads' HOz7.out).2.1); (case side3 => refine (Kd.R_reads' (e := 3) (base := w.heap.size) (ok := fun k_ => ((True ∧ some k_ ≠ (.slice Ao10 tz1.length co10 : Value).ownBlock) ∧ some k_ ≠ (.slice Ao16 tz2.length co16 : Value).ownBlock)) (n := tz3.length) (c := co23) ?_).2.2; exact (by exact (Kd.R_mono (Kd.R_far (p := ⟨gbz1, 3, none⟩) (Kd.R_far (p := ⟨gbz1, 2, none⟩) (Kd.R_far (p := ⟨gbz1, 1, none⟩) (Kd.R_far (p := ⟨gbz1, 0, none⟩) (Kd.R_types HOz9.out BKz2.out (by decide)) (fun _ hk => hk.2) (.int .i64 tz7)) (fun _ hk => hk.2) (.int .i64 tz8)) (fun _ hk => hk.2) (.int .i64 tz12)) (fun _ hk => hk.2) (.slice Ao23 tz3.length co23)) (fun _ h_ => h_.1)))); (case side4 => exact (Kd.R_reads' HOz9.out).2.1); rintro e w32 ⟨rfl, hb⟩; refine ⟨_, rfl, ?_⟩; replace HOz6 := mk (Kd.Q_below (by exact (Kd.Q_mono (Kd.Q_far (p := ⟨gbz1, 3, none⟩) (Kd.Q_far (p := ⟨gbz1, 2, none⟩) (Kd.Q_far (p := ⟨gbz1, 1, none⟩) (Kd.Q_far (p := ⟨gbz1, 0, none⟩) (Kd.Q_types HOz6.out BKz2.out (by decide)) (fun _ hk => hk.2) (.int .i64 tz7)) (fun _ hk => hk.2) (.int .i64 tz8)) (fun _ hk => hk.2) (.int .i64 tz12)) (fun _ hk => hk.2) (.slice Ao23 tz3.length co23)) (fun _ h_ => h_.1))) hb); replace HOz8 := mk (Kd.N_below (by exact (Kd.N_mono (Kd.N_far (p := ⟨gbz1, 3, none⟩) (Kd.N_far (p := ⟨gbz1, 2, none⟩) (Kd.N_far (p := ⟨gbz1, 1, none⟩) (Kd.N_far (p := ⟨gbz1, 0, none⟩) (Kd.N_mono HOz8.out (fun k_ hk => (⟨hk, hk.2⟩ : _ ∧ k_ ≠ gbz1))) (fun _ hk => hk.2) (.int .i64 tz7)) (fun _ hk => hk.2) (.int .i64 tz8)) (fun _ hk => hk.2) (.int .i64 tz12)) (fun _ hk => hk.2) (.slice Ao23 tz3.length co23)) (fun _ h_ => h_.1))) hb); replace HOz7 := mk (Kd.R_below (by exact (Kd.R_mono (Kd.R_far (p := ⟨gbz1, 3, none⟩) (Kd.R_far (p := ⟨gbz1, 2, none⟩) (Kd.R_far (p := ⟨gbz1, 1, none⟩) (Kd.R_far (p := ⟨gbz1, 0, none⟩) (Kd.R_types HOz7.out BKz2.out (by decide)) (fun _ hk => hk.2) (.int .i64 tz7)) (fun _ hk => hk.2) (.int .i64 tz8)) (fun _ hk => hk.2) (.int .i64 tz12)) (fun _ hk => hk.2) (.slice Ao23 tz3.length co23)) (fun _ h_ => h_.1))) hb); replace HOz9 := mk (Kd.R_below (by exact (Kd.R_mono (Kd.R_far (p := ⟨gbz1, 3, none⟩) (Kd.R_far (p := ⟨gbz1, 2, none⟩) (Kd.R_far (p := ⟨gbz1, 1, none⟩) (Kd.R_far (p := ⟨gbz1, 0, none⟩) (Kd.R_types HOz9.out BKz2.out (by decide)) (fun _ hk => hk.2) (.int .i64 tz7)) (fun _ hk => hk.2) (.int .i64 tz8)) (fun _ hk => hk.2) (.int .i64 tz12)) (fun _ hk => hk.2) (.slice Ao23 tz3.length co23)) (fun _ h_ => h_.1))) hb); replace BKz0 := mk (blk_below (g := gbz4) (o := .cells #[.int .i64 tz4, .int .i64 tz5, .int .i64 tz6, .slice Ao10 tz1.length co10] 27 (0, 0)) (by refine blk_far ?_ NBz3.out _; refine blk_far ?_ NBz3.out _; refine blk_far ?_ NBz3.out _; refine blk_far ?_ NBz3.out _; exact BKz0.out) hb); replace BKz1 := mk (blk_below (g := gbz3) (o := .cells #[.int .i64 tz9, .int .i64 tz10, .int .i64 tz11, .slice Ao16 tz2.length co16] 27 (0, 0)) (by refine blk_far ?_ NBz4.out _; refine blk_far ?_ NBz4.out _; refine blk_far ?_ NBz4.out _; refine blk_far ?_ NBz4.out _; exact BKz1.out) hb); replace BKz2 := mk (blk_below (g := gbz1) (o := .cells #[.int .i64 tz7, .int .i64 tz8, .int .i64 tz12, .slice Ao23 tz3.length co23] 27 (0, 0)) (by refine blk_put (cs := #[.int .i64 tz7, .int .i64 tz8, .int .i64 tz12, .slice none 0 0]) ?_ 3 _ rfl; refine blk_put (cs := #[.int .i64 tz7, .int .i64 tz8, .int .i64 0, .slice none 0 0]) ?_ 2 _ rfl; refine blk_put (cs := #[.int .i64 tz7, .int .i64 0, .int .i64 0, .slice none 0 0]) ?_ 1 _ rfl; refine blk_put (cs := #[.int .i64 0, .int .i64 0, .int .i64 0, .slice none 0 0]) ?_ 0 _ rfl; exact BKz2.out) hb); replace HB := mk (below_step (by repeat (with_reducible first | exact HB.out | refine below_set ?_ GEz2.out)) hb); (try clear hb)))
     go_meet
     case rel => exact ⟨_, (true), (by rfl), H', ⟨by omega⟩, ⟨by exact Kd.N_mono HOz8.out (fun _ hk => ⟨hk.1.1.1.1.1, ⟨hk.1.1.1.2, ⟨hk.1.2, ⟨hk.1.1.1.1.2, ⟨hk.1.1.2, hk.2⟩⟩⟩⟩⟩)⟩, ⟨by exact Kd.Q_mono HOz6.out (fun _ hk => ⟨hk.1.2, hk.2⟩)⟩, ⟨Kd.Q_of_R (by exact Kd.R_mono HOz7.out (fun _ hk => ⟨hk.1.2, hk.2⟩))⟩, ⟨Kd.Q_of_R (by exact Kd.R_mono HOz9.out (fun _ hk => ⟨hk.1.2, hk.2⟩))⟩, BKz0, BKz1, BKz2, HB⟩
    ·rw [if_neg c26] at H
     have c26b0 : (tz16 != tz18) = false := by simpa using c26
     (try (have c26b1 : decide (tz16 = tz18) = true := by simpa using c26))
     (try (have c26b2 : (tz16 == tz18) = true := by simpa using c26))
     clear c26
     (skip)
     by_cases c33 : tz16 = true
     ·subst c33
      have H1 : (laws_FnRedrawDirty.j0 k tz0 true tz18 ((tz0.length : Int) == 0) tz4 tz5 tz6 tz1 tz9 tz10 tz11 tz2 tz7 tz8 tz12 tz3) = some r := by rw [if_pos rfl] at H; exact H
      clear H
      have H := H1
      clear H1
      have H' := mk H
      clear H
      have hnc35 := NBz17.out
      obtain ⟨hcz36_0, hcz36_1, hcz36_2, hcz36_3, -⟩ := c4 BKz1.out
      have hnb37 := NBz18.out
      have hnc37 := NBz3.out
      go_wp2_with (first | ((with_reducible refine gate_callee (f := 26) rfl ?_); refine goesL_ (some 36) rfl rfl Try.func26 (by kernel_rfl) rfl #[.agg #[.int .i64 tz9, .int .i64 tz10, .int .i64 tz11, .slice Ao16 tz2.length co16], .agg #[.int .i64 tz7, .int .i64 tz8, .int .i64 tz12, .slice Ao23 tz3.length co23]] rfl (by (try simp only [List.map_toArray, List.map_cons, List.map_nil]); rfl) ?_; (with_reducible refine (laws_equalImage.calls k tz9 tz10 tz11 _ _ tz2 tz7 tz8 tz12 _ _ tz3 true _ ?side1 ?side2 ?side3 ?side4 A24.out).mono ?_); (case side1 => refine (Kd.R_reads' (e := 3) (base := w.heap.size) (ok := fun k_ => ((True ∧ some k_ ≠ (.slice Ao10 tz1.length co10 : Value).ownBlock) ∧ some k_ ≠ (.slice Ao23 tz3.length co23 : Value).ownBlock)) (n := tz2.length) (c := co16) ?_).2.2; exact (by exact (Kd.R_mono (Kd.R_far (p := ⟨gbz1, 3, none⟩) (Kd.R_far (p := ⟨gbz1, 2, none⟩) (Kd.R_far (p := ⟨gbz1, 1, none⟩) (Kd.R_far (p := ⟨gbz1, 0, none⟩) (Kd.R_types HOz7.out BKz2.out (by decide)) (fun _ hk => hk.2) (.int .i64 tz7)) (fun _ hk => hk.2) (.int .i64 tz8)) (fun _ hk => hk.2) (.int .i64 tz12)) (fun _ hk => hk.2) (.slice Ao23 tz3.length co23)) (fun _ h_ => h_.1)))); (case side2 => exact (Kd.R_reads' HOz7.out).2.1); (case side3 => refine (Kd.R_reads' (e := 3) (base := w.heap.size) (ok := fun k_ => ((True ∧ some k_ ≠ (.slice Ao10 tz1.length co10 : Value).ownBlock) ∧ some k_ ≠ (.slice Ao16 tz2.length co16 : Value).ownBlock)) (n := tz3.length) (c := co23) ?_).2.2; exact (by exact (Kd.R_mono (Kd.R_far (p := ⟨gbz1, 3, none⟩) (Kd.R_far (p := ⟨gbz1, 2, none⟩) (Kd.R_far (p := ⟨gbz1, 1, none⟩) (Kd.R_far (p := ⟨gbz1, 0, none⟩) (Kd.R_types HOz9.out BKz2.out (by decide)) (fun _ hk => hk.2) (.int .i64 tz7)) (fun _ hk => hk.2) (.int .i64 tz8)) (fun _ hk => hk.2) (.int .i64 tz12)) (fun _ hk => hk.2) (.slice Ao23 tz3.length co23)) (fun _ h_ => h_.1)))); (case side4 => exact (Kd.R_reads' HOz9.out).2.1); rintro e w39 ⟨rfl, hb⟩; refine ⟨_, rfl, ?_⟩; replace HOz6 := mk (Kd.Q_below (by exact (Kd.Q_mono (Kd.Q_far (p := ⟨gbz1, 3, none⟩) (Kd.Q_far (p := ⟨gbz1, 2, none⟩) (Kd.Q_far (p := ⟨gbz1, 1, none⟩) (Kd.Q_far (p := ⟨gbz1, 0, none⟩) (Kd.Q_types HOz6.out BKz2.out (by decide)) (fun _ hk => hk.2) (.int .i64 tz7)) (fun _ hk => hk.2) (.int .i64 tz8)) (fun _ hk => hk.2) (.int .i64 tz12)) (fun _ hk => hk.2) (.slice Ao23 tz3.length co23)) (fun _ h_ => h_.1))) hb); replace HOz8 := mk (Kd.N_below (by exact (Kd.N_mono (Kd.N_far (p := ⟨gbz1, 3, none⟩) (Kd.N_far (p := ⟨gbz1, 2, none⟩) (Kd.N_far (p := ⟨gbz1, 1, none⟩) (Kd.N_far (p := ⟨gbz1, 0, none⟩) (Kd.N_mono HOz8.out (fun k_ hk => (⟨hk, hk.2⟩ : _ ∧ k_ ≠ gbz1))) (fun _ hk => hk.2) (.int .i64 tz7)) (fun _ hk => hk.2) (.int .i64 tz8)) (fun _ hk => hk.2) (.int .i64 tz12)) (fun _ hk => hk.2) (.slice Ao23 tz3.length co23)) (fun _ h_ => h_.1))) hb); replace HOz7 := mk (Kd.R_below (by exact (Kd.R_mono (Kd.R_far (p := ⟨gbz1, 3, none⟩) (Kd.R_far (p := ⟨gbz1, 2, none⟩) (Kd.R_far (p := ⟨gbz1, 1, none⟩) (Kd.R_far (p := ⟨gbz1, 0, none⟩) (Kd.R_types HOz7.out BKz2.out (by decide)) (fun _ hk => hk.2) (.int .i64 tz7)) (fun _ hk => hk.2) (.int .i64 tz8)) (fun _ hk => hk.2) (.int .i64 tz12)) (fun _ hk => hk.2) (.slice Ao23 tz3.length co23)) (fun _ h_ => h_.1))) hb); replace HOz9 := mk (Kd.R_below (by exact (Kd.R_mono (Kd.R_far (p := ⟨gbz1, 3, none⟩) (Kd.R_far (p := ⟨gbz1, 2, none⟩) (Kd.R_far (p := ⟨gbz1, 1, none⟩) (Kd.R_far (p := ⟨gbz1, 0, none⟩) (Kd.R_types HOz9.out BKz2.out (by decide)) (fun _ hk => hk.2) (.int .i64 tz7)) (fun _ hk => hk.2) (.int .i64 tz8)) (fun _ hk => hk.2) (.int .i64 tz12)) (fun _ hk => hk.2) (.slice Ao23 tz3.length co23)) (fun _ h_ => h_.1))) hb); replace BKz0 := mk (blk_below (g := gbz4) (o := .cells #[.int .i64 tz4, .int .i64 tz5, .int .i64 tz6, .slice Ao10 tz1.length co10] 27 (0, 0)) (by refine blk_far ?_ NBz3.out _; refine blk_far ?_ NBz3.out _; refine blk_far ?_ NBz3.out _; refine blk_far ?_ NBz3.out _; exact BKz0.out) hb); replace BKz1 := mk (blk_below (g := gbz3) (o := .cells #[.int .i64 tz9, .int .i64 tz10, .int .i64 tz11, .slice Ao16 tz2.length co16] 27 (0, 0)) (by refine blk_far ?_ NBz4.out _; refine blk_far ?_ NBz4.out _; refine blk_far ?_ NBz4.out _; refine blk_far ?_ NBz4.out _; exact BKz1.out) hb); replace BKz2 := mk (blk_below (g := gbz1) (o := .cells #[.int .i64 tz7, .int .i64 tz8, .int .i64 tz12, .slice Ao23 tz3.length co23] 27 (0, 0)) (by refine blk_put (cs := #[.int .i64 tz7, .int .i64 tz8, .int .i64 tz12, .slice none 0 0]) ?_ 3 _ rfl; refine blk_put (cs := #[.int .i64 tz7, .int .i64 tz8, .int .i64 0, .slice none 0 0]) ?_ 2 _ rfl; refine blk_put (cs := #[.int .i64 tz7, .int .i64 0, .int .i64 0, .slice none 0 0]) ?_ 1 _ rfl; refine blk_put (cs := #[.int .i64 0, .int .i64 0, .int .i64 0, .slice none 0 0]) ?_ 0 _ rfl; exact BKz2.out) hb); replace HB := mk (below_step (by repeat (with_reducible first | exact HB.out | refine below_set ?_ GEz2.out)) hb); (try clear hb)))
      go_meet
      case rel => exact ⟨_, (((tz0.length : Int) == 0)), (by rfl), H', ⟨by omega⟩, ⟨by exact Kd.N_mono HOz8.out (fun _ hk => ⟨hk.1.1.1.1.1, ⟨hk.1.1.1.2, ⟨hk.1.2, ⟨hk.1.1.1.1.2, ⟨hk.1.1.2, hk.2⟩⟩⟩⟩⟩)⟩, ⟨by exact Kd.Q_mono HOz6.out (fun _ hk => ⟨hk.1.2, hk.2⟩)⟩, ⟨Kd.Q_of_R (by exact Kd.R_mono HOz7.out (fun _ hk => ⟨hk.1.2, hk.2⟩))⟩, ⟨Kd.Q_of_R (by exact Kd.R_mono HOz9.out (fun _ hk => ⟨hk.1.2, hk.2⟩))⟩, BKz0, BKz1, BKz2, HB⟩
     ·replace c33 := Bool.eq_false_iff.mpr c33
      subst c33
      have H1 : (laws_FnRedrawDirty.j0 k tz0 false tz18 true tz4 tz5 tz6 tz1 tz9 tz10 tz11 tz2 tz7 tz8 tz12 tz3) = some r := by rw [if_neg (show ¬ (false = true) by decide)] at H; exact H
      clear H
      have H := H1
      clear H1
      have H' := mk H
      clear H
      have hnc41 := NBz17.out
      obtain ⟨hcz42_0, hcz42_1, hcz42_2, hcz42_3, -⟩ := c4 BKz1.out
      have hnb43 := NBz18.out
      have hnc43 := NBz3.out
      go_wp2_with (first | ((with_reducible refine gate_callee (f := 26) rfl ?_); refine goesL_ (some 36) rfl rfl Try.func26 (by kernel_rfl) rfl #[.agg #[.int .i64 tz9, .int .i64 tz10, .int .i64 tz11, .slice Ao16 tz2.length co16], .agg #[.int .i64 tz7, .int .i64 tz8, .int .i64 tz12, .slice Ao23 tz3.length co23]] rfl (by (try simp only [List.map_toArray, List.map_cons, List.map_nil]); rfl) ?_; (with_reducible refine (laws_equalImage.calls k tz9 tz10 tz11 _ _ tz2 tz7 tz8 tz12 _ _ tz3 true _ ?side1 ?side2 ?side3 ?side4 A24.out).mono ?_); (case side1 => refine (Kd.R_reads' (e := 3) (base := w.heap.size) (ok := fun k_ => ((True ∧ some k_ ≠ (.slice Ao10 tz1.length co10 : Value).ownBlock) ∧ some k_ ≠ (.slice Ao23 tz3.length co23 : Value).ownBlock)) (n := tz2.length) (c := co16) ?_).2.2; exact (by exact (Kd.R_mono (Kd.R_far (p := ⟨gbz1, 3, none⟩) (Kd.R_far (p := ⟨gbz1, 2, none⟩) (Kd.R_far (p := ⟨gbz1, 1, none⟩) (Kd.R_far (p := ⟨gbz1, 0, none⟩) (Kd.R_types HOz7.out BKz2.out (by decide)) (fun _ hk => hk.2) (.int .i64 tz7)) (fun _ hk => hk.2) (.int .i64 tz8)) (fun _ hk => hk.2) (.int .i64 tz12)) (fun _ hk => hk.2) (.slice Ao23 tz3.length co23)) (fun _ h_ => h_.1)))); (case side2 => exact (Kd.R_reads' HOz7.out).2.1); (case side3 => refine (Kd.R_reads' (e := 3) (base := w.heap.size) (ok := fun k_ => ((True ∧ some k_ ≠ (.slice Ao10 tz1.length co10 : Value).ownBlock) ∧ some k_ ≠ (.slice Ao16 tz2.length co16 : Value).ownBlock)) (n := tz3.length) (c := co23) ?_).2.2; exact (by exact (Kd.R_mono (Kd.R_far (p := ⟨gbz1, 3, none⟩) (Kd.R_far (p := ⟨gbz1, 2, none⟩) (Kd.R_far (p := ⟨gbz1, 1, none⟩) (Kd.R_far (p := ⟨gbz1, 0, none⟩) (Kd.R_types HOz9.out BKz2.out (by decide)) (fun _ hk => hk.2) (.int .i64 tz7)) (fun _ hk => hk.2) (.int .i64 tz8)) (fun _ hk => hk.2) (.int .i64 tz12)) (fun _ hk => hk.2) (.slice Ao23 tz3.length co23)) (fun _ h_ => h_.1)))); (case side4 => exact (Kd.R_reads' HOz9.out).2.1); rintro e w45 ⟨rfl, hb⟩; refine ⟨_, rfl, ?_⟩; replace HOz6 := mk (Kd.Q_below (by exact (Kd.Q_mono (Kd.Q_far (p := ⟨gbz1, 3, none⟩) (Kd.Q_far (p := ⟨gbz1, 2, none⟩) (Kd.Q_far (p := ⟨gbz1, 1, none⟩) (Kd.Q_far (p := ⟨gbz1, 0, none⟩) (Kd.Q_types HOz6.out BKz2.out (by decide)) (fun _ hk => hk.2) (.int .i64 tz7)) (fun _ hk => hk.2) (.int .i64 tz8)) (fun _ hk => hk.2) (.int .i64 tz12)) (fun _ hk => hk.2) (.slice Ao23 tz3.length co23)) (fun _ h_ => h_.1))) hb); replace HOz8 := mk (Kd.N_below (by exact (Kd.N_mono (Kd.N_far (p := ⟨gbz1, 3, none⟩) (Kd.N_far (p := ⟨gbz1, 2, none⟩) (Kd.N_far (p := ⟨gbz1, 1, none⟩) (Kd.N_far (p := ⟨gbz1, 0, none⟩) (Kd.N_mono HOz8.out (fun k_ hk => (⟨hk, hk.2⟩ : _ ∧ k_ ≠ gbz1))) (fun _ hk => hk.2) (.int .i64 tz7)) (fun _ hk => hk.2) (.int .i64 tz8)) (fun _ hk => hk.2) (.int .i64 tz12)) (fun _ hk => hk.2) (.slice Ao23 tz3.length co23)) (fun _ h_ => h_.1))) hb); replace HOz7 := mk (Kd.R_below (by exact (Kd.R_mono (Kd.R_far (p := ⟨gbz1, 3, none⟩) (Kd.R_far (p := ⟨gbz1, 2, none⟩) (Kd.R_far (p := ⟨gbz1, 1, none⟩) (Kd.R_far (p := ⟨gbz1, 0, none⟩) (Kd.R_types HOz7.out BKz2.out (by decide)) (fun _ hk => hk.2) (.int .i64 tz7)) (fun _ hk => hk.2) (.int .i64 tz8)) (fun _ hk => hk.2) (.int .i64 tz12)) (fun _ hk => hk.2) (.slice Ao23 tz3.length co23)) (fun _ h_ => h_.1))) hb); replace HOz9 := mk (Kd.R_below (by exact (Kd.R_mono (Kd.R_far (p := ⟨gbz1, 3, none⟩) (Kd.R_far (p := ⟨gbz1, 2, none⟩) (Kd.R_far (p := ⟨gbz1, 1, none⟩) (Kd.R_far (p := ⟨gbz1, 0, none⟩) (Kd.R_types HOz9.out BKz2.out (by decide)) (fun _ hk => hk.2) (.int .i64 tz7)) (fun _ hk => hk.2) (.int .i64 tz8)) (fun _ hk => hk.2) (.int .i64 tz12)) (fun _ hk => hk.2) (.slice Ao23 tz3.length co23)) (fun _ h_ => h_.1))) hb); replace BKz0 := mk (blk_below (g := gbz4) (o := .cells #[.int .i64 tz4, .int .i64 tz5, .int .i64 tz6, .slice Ao10 tz1.length co10] 27 (0, 0)) (by refine blk_far ?_ NBz3.out _; refine blk_far ?_ NBz3.out _; refine blk_far ?_ NBz3.out _; refine blk_far ?_ NBz3.out _; exact BKz0.out) hb); replace BKz1 := mk (blk_below (g := gbz3) (o := .cells #[.int .i64 tz9, .int .i64 tz10, .int .i64 tz11, .slice Ao16 tz2.length co16] 27 (0, 0)) (by refine blk_far ?_ NBz4.out _; refine blk_far ?_ NBz4.out _; refine blk_far ?_ NBz4.out _; refine blk_far ?_ NBz4.out _; exact BKz1.out) hb); replace BKz2 := mk (blk_below (g := gbz1) (o := .cells #[.int .i64 tz7, .int .i64 tz8, .int .i64 tz12, .slice Ao23 tz3.length co23] 27 (0, 0)) (by refine blk_put (cs := #[.int .i64 tz7, .int .i64 tz8, .int .i64 tz12, .slice none 0 0]) ?_ 3 _ rfl; refine blk_put (cs := #[.int .i64 tz7, .int .i64 tz8, .int .i64 0, .slice none 0 0]) ?_ 2 _ rfl; refine blk_put (cs := #[.int .i64 tz7, .int .i64 0, .int .i64 0, .slice none 0 0]) ?_ 1 _ rfl; refine blk_put (cs := #[.int .i64 0, .int .i64 0, .int .i64 0, .slice none 0 0]) ?_ 0 _ rfl; exact BKz2.out) hb); replace HB := mk (below_step (by repeat (with_reducible first | exact HB.out | refine below_set ?_ GEz2.out)) hb); (try clear hb)))
      go_meet
      case rel => exact ⟨_, (true), (by rfl), H', ⟨by omega⟩, ⟨by exact Kd.N_mono HOz8.out (fun _ hk => ⟨hk.1.1.1.1.1, ⟨hk.1.1.1.2, ⟨hk.1.2, ⟨hk.1.1.1.1.2, ⟨hk.1.1.2, hk.2⟩⟩⟩⟩⟩)⟩, ⟨by exact Kd.Q_mono HOz6.out (fun _ hk => ⟨hk.1.2, hk.2⟩)⟩, ⟨Kd.Q_of_R (by exact Kd.R_mono HOz7.out (fun _ hk => ⟨hk.1.2, hk.2⟩))⟩, ⟨Kd.Q_of_R (by exact Kd.R_mono HOz9.out (fun _ hk => ⟨hk.1.2, hk.2⟩))⟩, BKz0, BKz1, BKz2, HB⟩
   ·replace c25 := Bool.eq_false_iff.mpr c25
    subst c25
    have H1 : (laws_FnRedrawDirty.j0 k tz0 tz16 tz18 true tz4 tz5 tz6 tz1 tz9 tz10 tz11 tz2 tz7 tz8 tz12 tz3) = some r := by rw [if_neg (show ¬ (false = true) by decide)] at H; exact H
    clear H
    have H := H1
    clear H1
    have H' := mk H
    clear H
    have hnc47 := NBz17.out
    obtain ⟨hcz48_0, hcz48_1, hcz48_2, hcz48_3, -⟩ := c4 BKz1.out
    have hnb49 := NBz18.out
    have hnc49 := NBz3.out
    go_wp2_with (first | ((with_reducible refine gate_callee (f := 26) rfl ?_); refine goesL_ (some 36) rfl rfl Try.func26 (by kernel_rfl) rfl #[.agg #[.int .i64 tz9, .int .i64 tz10, .int .i64 tz11, .slice Ao16 tz2.length co16], .agg #[.int .i64 tz7, .int .i64 tz8, .int .i64 tz12, .slice Ao23 tz3.length co23]] rfl (by (try simp only [List.map_toArray, List.map_cons, List.map_nil]); rfl) ?_; (with_reducible refine (laws_equalImage.calls k tz9 tz10 tz11 _ _ tz2 tz7 tz8 tz12 _ _ tz3 false _ ?side1 ?side2 ?side3 ?side4 A24.out).mono ?_); (case side1 => refine (Kd.R_reads' (e := 3) (base := w.heap.size) (ok := fun k_ => ((True ∧ some k_ ≠ (.slice Ao10 tz1.length co10 : Value).ownBlock) ∧ some k_ ≠ (.slice Ao23 tz3.length co23 : Value).ownBlock)) (n := tz2.length) (c := co16) ?_).2.2; exact (by exact (Kd.R_mono (Kd.R_far (p := ⟨gbz1, 3, none⟩) (Kd.R_far (p := ⟨gbz1, 2, none⟩) (Kd.R_far (p := ⟨gbz1, 1, none⟩) (Kd.R_far (p := ⟨gbz1, 0, none⟩) (Kd.R_types HOz7.out BKz2.out (by decide)) (fun _ hk => hk.2) (.int .i64 tz7)) (fun _ hk => hk.2) (.int .i64 tz8)) (fun _ hk => hk.2) (.int .i64 tz12)) (fun _ hk => hk.2) (.slice Ao23 tz3.length co23)) (fun _ h_ => h_.1)))); (case side2 => exact (Kd.R_reads' HOz7.out).2.1); (case side3 => refine (Kd.R_reads' (e := 3) (base := w.heap.size) (ok := fun k_ => ((True ∧ some k_ ≠ (.slice Ao10 tz1.length co10 : Value).ownBlock) ∧ some k_ ≠ (.slice Ao16 tz2.length co16 : Value).ownBlock)) (n := tz3.length) (c := co23) ?_).2.2; exact (by exact (Kd.R_mono (Kd.R_far (p := ⟨gbz1, 3, none⟩) (Kd.R_far (p := ⟨gbz1, 2, none⟩) (Kd.R_far (p := ⟨gbz1, 1, none⟩) (Kd.R_far (p := ⟨gbz1, 0, none⟩) (Kd.R_types HOz9.out BKz2.out (by decide)) (fun _ hk => hk.2) (.int .i64 tz7)) (fun _ hk => hk.2) (.int .i64 tz8)) (fun _ hk => hk.2) (.int .i64 tz12)) (fun _ hk => hk.2) (.slice Ao23 tz3.length co23)) (fun _ h_ => h_.1)))); (case side4 => exact (Kd.R_reads' HOz9.out).2.1); rintro e w51 ⟨rfl, hb⟩; refine ⟨_, rfl, ?_⟩; replace HOz6 := mk (Kd.Q_below (by exact (Kd.Q_mono (Kd.Q_far (p := ⟨gbz1, 3, none⟩) (Kd.Q_far (p := ⟨gbz1, 2, none⟩) (Kd.Q_far (p := ⟨gbz1, 1, none⟩) (Kd.Q_far (p := ⟨gbz1, 0, none⟩) (Kd.Q_types HOz6.out BKz2.out (by decide)) (fun _ hk => hk.2) (.int .i64 tz7)) (fun _ hk => hk.2) (.int .i64 tz8)) (fun _ hk => hk.2) (.int .i64 tz12)) (fun _ hk => hk.2) (.slice Ao23 tz3.length co23)) (fun _ h_ => h_.1))) hb); replace HOz8 := mk (Kd.N_below (by exact (Kd.N_mono (Kd.N_far (p := ⟨gbz1, 3, none⟩) (Kd.N_far (p := ⟨gbz1, 2, none⟩) (Kd.N_far (p := ⟨gbz1, 1, none⟩) (Kd.N_far (p := ⟨gbz1, 0, none⟩) (Kd.N_mono HOz8.out (fun k_ hk => (⟨hk, hk.2⟩ : _ ∧ k_ ≠ gbz1))) (fun _ hk => hk.2) (.int .i64 tz7)) (fun _ hk => hk.2) (.int .i64 tz8)) (fun _ hk => hk.2) (.int .i64 tz12)) (fun _ hk => hk.2) (.slice Ao23 tz3.length co23)) (fun _ h_ => h_.1))) hb); replace HOz7 := mk (Kd.R_below (by exact (Kd.R_mono (Kd.R_far (p := ⟨gbz1, 3, none⟩) (Kd.R_far (p := ⟨gbz1, 2, none⟩) (Kd.R_far (p := ⟨gbz1, 1, none⟩) (Kd.R_far (p := ⟨gbz1, 0, none⟩) (Kd.R_types HOz7.out BKz2.out (by decide)) (fun _ hk => hk.2) (.int .i64 tz7)) (fun _ hk => hk.2) (.int .i64 tz8)) (fun _ hk => hk.2) (.int .i64 tz12)) (fun _ hk => hk.2) (.slice Ao23 tz3.length co23)) (fun _ h_ => h_.1))) hb); replace HOz9 := mk (Kd.R_below (by exact (Kd.R_mono (Kd.R_far (p := ⟨gbz1, 3, none⟩) (Kd.R_far (p := ⟨gbz1, 2, none⟩) (Kd.R_far (p := ⟨gbz1, 1, none⟩) (Kd.R_far (p := ⟨gbz1, 0, none⟩) (Kd.R_types HOz9.out BKz2.out (by decide)) (fun _ hk => hk.2) (.int .i64 tz7)) (fun _ hk => hk.2) (.int .i64 tz8)) (fun _ hk => hk.2) (.int .i64 tz12)) (fun _ hk => hk.2) (.slice Ao23 tz3.length co23)) (fun _ h_ => h_.1))) hb); replace BKz0 := mk (blk_below (g := gbz4) (o := .cells #[.int .i64 tz4, .int .i64 tz5, .int .i64 tz6, .slice Ao10 tz1.length co10] 27 (0, 0)) (by refine blk_far ?_ NBz3.out _; refine blk_far ?_ NBz3.out _; refine blk_far ?_ NBz3.out _; refine blk_far ?_ NBz3.out _; exact BKz0.out) hb); replace BKz1 := mk (blk_below (g := gbz3) (o := .cells #[.int .i64 tz9, .int .i64 tz10, .int .i64 tz11, .slice Ao16 tz2.length co16] 27 (0, 0)) (by refine blk_far ?_ NBz4.out _; refine blk_far ?_ NBz4.out _; refine blk_far ?_ NBz4.out _; refine blk_far ?_ NBz4.out _; exact BKz1.out) hb); replace BKz2 := mk (blk_below (g := gbz1) (o := .cells #[.int .i64 tz7, .int .i64 tz8, .int .i64 tz12, .slice Ao23 tz3.length co23] 27 (0, 0)) (by refine blk_put (cs := #[.int .i64 tz7, .int .i64 tz8, .int .i64 tz12, .slice none 0 0]) ?_ 3 _ rfl; refine blk_put (cs := #[.int .i64 tz7, .int .i64 tz8, .int .i64 0, .slice none 0 0]) ?_ 2 _ rfl; refine blk_put (cs := #[.int .i64 tz7, .int .i64 0, .int .i64 0, .slice none 0 0]) ?_ 1 _ rfl; refine blk_put (cs := #[.int .i64 0, .int .i64 0, .int .i64 0, .slice none 0 0]) ?_ 0 _ rfl; exact BKz2.out) hb); replace HB := mk (below_step (by repeat (with_reducible first | exact HB.out | refine below_set ?_ GEz2.out)) hb); (try clear hb)))
    go_meet
    case rel => exact ⟨_, (true), (by rfl), H', ⟨by omega⟩, ⟨by exact Kd.N_mono HOz8.out (fun _ hk => ⟨hk.1.1.1.1.1, ⟨hk.1.1.1.2, ⟨hk.1.2, ⟨hk.1.1.1.1.2, ⟨hk.1.1.2, hk.2⟩⟩⟩⟩⟩)⟩, ⟨by exact Kd.Q_mono HOz6.out (fun _ hk => ⟨hk.1.2, hk.2⟩)⟩, ⟨Kd.Q_of_R (by exact Kd.R_mono HOz7.out (fun _ hk => ⟨hk.1.2, hk.2⟩))⟩, ⟨Kd.Q_of_R (by exact Kd.R_mono HOz9.out (fun _ hk => ⟨hk.1.2, hk.2⟩))⟩, BKz0, BKz1, BKz2, HB⟩
  case rest =>
   clear HC6
   obtain ⟨kq, x51_5, rfl, HA, HJ5, HO_4, HOz0, HOz1, HOz2, BKz0, BKz1, BKz2, HB⟩ := hcut
   cases kq with
   | zero => exact absurd HA.out (by simp [laws_FnRedrawDirty.j0])
   | succ kj5 =>
    have H := HA.out
    clear HA
    simp only [laws_FnRedrawDirty.j0] at H
    by_cases c52 : x51_5 = true
    ·subst c52
     have H1 : ((laws_equalImage.f kj5 tz9 tz10 tz11 tz2 tz7 tz8 tz12 tz3).bind fun tz26 => (if tz26 = true then (some (tz16 == tz18)) else (some false))) = some r := by rw [if_pos rfl] at H; exact H
     clear H
     have H := H1
     clear H1
     replace H := Option.bind_eq_some_iff.mp H
     obtain ⟨tz26, A530, H⟩ := H
     replace H : (if tz26 = true then (some (tz16 == tz18)) else (some false)) = some r := H
     have A53 := mk A530
     clear A530
     by_cases c54 : tz26 = true
     ·subst c54
      have H1 : (some (tz16 == tz18)) = some r := by rw [if_pos rfl] at H; exact H
      clear H
      have H := H1
      clear H1
      obtain rfl := Option.some.inj H
      obtain ⟨hcz57_0, hcz57_1, hcz57_2, hcz57_3, -⟩ := c4 BKz1.out
      obtain ⟨hcz59_0, hcz59_1, hcz59_2, hcz59_3, -⟩ := c4 BKz2.out
      go_wp2_with (first | ((with_reducible refine gate_callee (f := 26) rfl ?_); refine goesL_ (some 54) rfl rfl Try.func26 (by kernel_rfl) rfl #[.agg #[.int .i64 tz9, .int .i64 tz10, .int .i64 tz11, .slice Ao16 tz2.length co16], .agg #[.int .i64 tz7, .int .i64 tz8, .int .i64 tz12, .slice Ao23 tz3.length co23]] rfl (by (try simp only [List.map_toArray, List.map_cons, List.map_nil]); rfl) ?_; (with_reducible refine (laws_equalImage.calls kj5 tz9 tz10 tz11 _ _ tz2 tz7 tz8 tz12 _ _ tz3 true _ ?side1 ?side2 ?side3 ?side4 A53.out).mono ?_); (case side1 => repeat (exact (Kd.Q_reads' HOz1.out).2.2)); (case side2 => exact (Kd.Q_reads' HOz1.out).2.1); (case side3 => repeat (exact (Kd.Q_reads' HOz2.out).2.2)); (case side4 => exact (Kd.Q_reads' HOz2.out).2.1); rintro e w60 ⟨rfl, hb⟩; refine ⟨_, rfl, ?_⟩; have n7_ := mk (below_step HB.out hb); clear HO_4; clear HOz0; clear HOz1; clear HOz2; clear BKz0; clear BKz1; clear BKz2; clear HB; have HB := n7_; (try clear hb)))
      go_ret
      exact ⟨by rfl, by exact HB.out⟩
     ·replace c54 := Bool.eq_false_iff.mpr c54
      subst c54
      have H1 : (some false) = some r := by rw [if_neg (show ¬ (false = true) by decide)] at H; exact H
      clear H
      have H := H1
      clear H1
      exact absurd ((Option.some.inj H).trans HRT.out) (by decide)
    ·replace c52 := Bool.eq_false_iff.mpr c52
     subst c52
     have H1 : (if 0 ≤ (wrap64 ((tz0.length : Int) - 1)) then (if (wrap64 ((tz0.length : Int) - 1)) ≤ (tz0.length : Int) then ((impl_FlattenLayers.f kj5 tz4 tz5 tz6 tz1 (tz0.take ((wrap64 ((tz0.length : Int) - 1)) : Int).toNat)).bind fun btz4 => (if (wrap64 ((tz0.length : Int) - 1)) < (tz0.length : Int) then ((impl_DirtyTiles.f kj5 tz4 tz5 tz6 tz1 ((rd_T55 tz0 (wrap64 ((tz0.length : Int) - 1))).f0.f0) ((rd_T55 tz0 (wrap64 ((tz0.length : Int) - 1))).f0.f1) ((rd_T55 tz0 (wrap64 ((tz0.length : Int) - 1))).f0.f2) ((rd_T55 tz0 (wrap64 ((tz0.length : Int) - 1))).f0.f3) ((rd_T55 tz0 (wrap64 ((tz0.length : Int) - 1))).f1) ((rd_T55 tz0 (wrap64 ((tz0.length : Int) - 1))).f2) ((rd_T55 tz0 (wrap64 ((tz0.length : Int) - 1))).f3) ((rd_T55 tz0 (wrap64 ((tz0.length : Int) - 1))).f4) ((rd_T55 tz0 (wrap64 ((tz0.length : Int) - 1))).f5)).bind fun tz19 => ((impl_RedrawTiles.f kj5 btz4.1 btz4.2.1 btz4.2.2.1 btz4.2.2.2.1 tz4 tz5 tz6 tz1 tz0 tz19).bind fun btz3 => (if btz4.2.2.2.2 = true then (if btz3.2.2.2.2 = true then ((laws_equalImage.f kj5 btz3.1 btz3.2.1 btz3.2.2.1 btz3.2.2.2.1 tz9 tz10 tz11 tz2).bind fun tz20 => (some tz20)) else (some false)) else (some false)))) else none)) else none) else none) = some r := by rw [if_neg (show ¬ (false = true) by decide)] at H; exact H
     clear H
     have H := H1
     clear H1
     obtain ⟨ji67, hji67⟩ : ∃ j_ : Int, (wrap64 ((tz0.length : Int) - 1)) = j_ := ⟨_, rfl⟩
     replace H : (if 0 ≤ ji67 then (if ji67 ≤ (tz0.length : Int) then ((impl_FlattenLayers.f kj5 tz4 tz5 tz6 tz1 (tz0.take (ji67 : Int).toNat)).bind fun btz4 => (if ji67 < (tz0.length : Int) then ((impl_DirtyTiles.f kj5 tz4 tz5 tz6 tz1 ((rd_T55 tz0 ji67).f0.f0) ((rd_T55 tz0 ji67).f0.f1) ((rd_T55 tz0 ji67).f0.f2) ((rd_T55 tz0 ji67).f0.f3) ((rd_T55 tz0 ji67).f1) ((rd_T55 tz0 ji67).f2) ((rd_T55 tz0 ji67).f3) ((rd_T55 tz0 ji67).f4) ((rd_T55 tz0 ji67).f5)).bind fun tz19 => ((impl_RedrawTiles.f kj5 btz4.1 btz4.2.1 btz4.2.2.1 btz4.2.2.2.1 tz4 tz5 tz6 tz1 tz0 tz19).bind fun btz3 => (if btz4.2.2.2.2 = true then (if btz3.2.2.2.2 = true then ((laws_equalImage.f kj5 btz3.1 btz3.2.1 btz3.2.2.1 btz3.2.2.2.1 tz9 tz10 tz11 tz2).bind fun tz20 => (some tz20)) else (some false)) else (some false)))) else none)) else none) else none) = some r := by (rw [hji67] at H; exact H)
     have hji67w : (IntKind.i64.wrap ((tz0.length : Int) - 1)) = ji67 := (i64_w _).trans hji67
     by_cases c68 : 0 ≤ (ji67)
     ·rw [if_pos c68] at H
      have c68b0 := eq_true c68
      have c68b1 : decide (0 ≤ ji67) = true := decide_eq_true c68
      clear c68
      by_cases c69 : ji67 ≤ (tz0.length : Int)
      ·rw [if_pos c69] at H
       have c69b0 := eq_true c69
       have c69b1 : decide (ji67 ≤ (tz0.length : Int)) = true := decide_eq_true c69
       clear c69
       obtain ⟨yz0, hyz0⟩ : ∃ y_ : List (S55), y_ = (tz0.take (ji67 : Int).toNat) := ⟨_, rfl⟩
       replace H : ((impl_FlattenLayers.f kj5 tz4 tz5 tz6 tz1 yz0).bind fun btz4 => (if ji67 < (tz0.length : Int) then ((impl_DirtyTiles.f kj5 tz4 tz5 tz6 tz1 ((rd_T55 tz0 ji67).f0.f0) ((rd_T55 tz0 ji67).f0.f1) ((rd_T55 tz0 ji67).f0.f2) ((rd_T55 tz0 ji67).f0.f3) ((rd_T55 tz0 ji67).f1) ((rd_T55 tz0 ji67).f2) ((rd_T55 tz0 ji67).f3) ((rd_T55 tz0 ji67).f4) ((rd_T55 tz0 ji67).f5)).bind fun tz19 => ((impl_RedrawTiles.f kj5 btz4.1 btz4.2.1 btz4.2.2.1 btz4.2.2.2.1 tz4 tz5 tz6 tz1 tz0 tz19).bind fun btz3 => (if btz4.2.2.2.2 = true then (if btz3.2.2.2.2 = true then ((laws_equalImage.f kj5 btz3.1 btz3.2.1 btz3.2.2.1 btz3.2.2.2.1 tz9 tz10 tz11 tz2).bind fun tz20 => (some tz20)) else (some false)) else (some false)))) else none)) = some r := by (rw [hyz0]; with_reducible exact H)
       have Nyz0 := mk hyz0
       clear hyz0
       replace H := Option.bind_eq_some_iff.mp H
       obtain ⟨⟨tz14, tz15, tz17, tz13, tz27⟩, A700, H⟩ := H
       replace H : (if ji67 < (tz0.length : Int) then ((impl_DirtyTiles.f kj5 tz4 tz5 tz6 tz1 ((rd_T55 tz0 ji67).f0.f0) ((rd_T55 tz0 ji67).f0.f1) ((rd_T55 tz0 ji67).f0.f2) ((rd_T55 tz0 ji67).f0.f3) ((rd_T55 tz0 ji67).f1) ((rd_T55 tz0 ji67).f2) ((rd_T55 tz0 ji67).f3) ((rd_T55 tz0 ji67).f4) ((rd_T55 tz0 ji67).f5)).bind fun tz19 => ((impl_RedrawTiles.f kj5 tz14 tz15 tz17 tz13 tz4 tz5 tz6 tz1 tz0 tz19).bind fun btz3 => (if tz27 = true then (if btz3.2.2.2.2 = true then ((laws_equalImage.f kj5 btz3.1 btz3.2.1 btz3.2.2.1 btz3.2.2.2.1 tz9 tz10 tz11 tz2).bind fun tz20 => (some tz20)) else (some false)) else (some false)))) else none) = some r := H
       have A70 := mk A700
       clear A700
       by_cases c71 : ji67 < (tz0.length : Int)
       ·rw [if_pos c71] at H
        have c71b0 : decide (ji67 < (tz0.length : Int)) = true := decide_eq_true c71
        clear c71
        replace H := Option.bind_eq_some_iff.mp H
        obtain ⟨tz19, A720, H⟩ := H
        replace H : ((impl_RedrawTiles.f kj5 tz14 tz15 tz17 tz13 tz4 tz5 tz6 tz1 tz0 tz19).bind fun btz3 => (if tz27 = true then (if btz3.2.2.2.2 = true then ((laws_equalImage.f kj5 btz3.1 btz3.2.1 btz3.2.2.1 btz3.2.2.2.1 tz9 tz10 tz11 tz2).bind fun tz20 => (some tz20)) else (some false)) else (some false))) = some r := H
        have A72 := mk A720
        clear A720
        replace H := Option.bind_eq_some_iff.mp H
        obtain ⟨⟨tz22, tz23, tz24, tz21, tz28⟩, A730, H⟩ := H
        replace H : (if tz27 = true then (if tz28 = true then ((laws_equalImage.f kj5 tz22 tz23 tz24 tz21 tz9 tz10 tz11 tz2).bind fun tz20 => (some tz20)) else (some false)) else (some false)) = some r := H
        have A73 := mk A730
        clear A730
        by_cases c74 : tz27 = true
        ·subst c74
         have H1 : (if tz28 = true then ((laws_equalImage.f kj5 tz22 tz23 tz24 tz21 tz9 tz10 tz11 tz2).bind fun tz20 => (some tz20)) else (some false)) = some r := by rw [if_pos rfl] at H; exact H
         clear H
         have H := H1
         clear H1
         by_cases c75 : tz28 = true
         ·subst c75
          have H1 : ((laws_equalImage.f kj5 tz22 tz23 tz24 tz21 tz9 tz10 tz11 tz2).bind fun tz20 => (some tz20)) = some r := by rw [if_pos rfl] at H; exact H
          clear H
          have H := H1
          clear H1
          replace H := Option.bind_eq_some_iff.mp H
          obtain ⟨tz20, A760, H⟩ := H
          replace H : (some tz20) = some r := H
          have A76 := mk A760
          clear A760
          obtain rfl := Option.some.inj H
          try go_wp2
          replace HO_4 := mk (Kd.N_drew HO_4.out)
          replace HOz0 := mk (Kd.Q_drew HOz0.out)
          replace HOz1 := mk (Kd.Q_drew HOz1.out)
          replace HOz2 := mk (Kd.Q_drew HOz2.out)
          replace BKz0 := mk (blk_drew BKz0.out)
          replace BKz1 := mk (blk_drew BKz1.out)
          replace BKz2 := mk (blk_drew BKz2.out)
          replace HB := mk (below_drew1 HB.out)
          have q78 : (ji67 : Int) ≤ ((tz0.length : Int) : Int) := of_decide_eq_true (by (with_reducible assumption))
          obtain ⟨i078, hi078, _, hsz78, _⟩ := info_parts info55
          have hroom78 : tz0.length ≤ co11 := (Kd.N_reads' HO_4.out).2.1
          have hC78 : Kd.F k55 _ _ Ao11 tz0.length tz0 := (Kd.V_at (base := w.heap.size) (Kd.N_V HO_4.out)).2.2
          have hcut78 := cut_to (P := Try.prog) 81 55 .i64 Try.underlying81 hi078 Ao11 tz0.length co11 ji67 (of_decide_eq_true (by (with_reducible assumption))) q78 hroom78
          have hr78 := Kd.F_take (m := (ji67 : Int).toNat) hC78 (by omega)
          have hy78 : yz0.length = (ji67 : Int).toNat := (by rw [Nyz0.out, List.length_take]; omega)
          rw [← Nyz0.out] at hr78
          rw [← hy78] at hcut78
          have HOz3 := mk (show Kd.V k55 55 _ w.heap.size _ (.slice Ao11 yz0.length co11) yz0 from Kd.V_mk (by omega) hr78)
          have HC19033 := mk (show yz0.length ≤ co11 from by omega)
          clear hr78 hC78 hroom78 hi078 hsz78
          have KY78 := mk hy78
          clear hy78
          replace q78 := eq_true q78
          refine start_ (n := 11) (S := fun w' => w'.cell? ⟨gbz4, 0, none⟩ = some (.int .i64 tz4) ∧ w'.cell? ⟨gbz4, 1, none⟩ = some (.int .i64 tz5) ∧ w'.cell? ⟨gbz4, 2, none⟩ = some (.int .i64 tz6) ∧ w'.cell? ⟨gbz4, 3, none⟩ = some (.slice Ao10 tz1.length co10)) (ds := []) #[false, false, false, false, false, false, false, false, false, false, false] (by kernel_rfl) rfl rfl ⟨blk_cell BKz0.out 0, blk_cell BKz0.out 1, blk_cell BKz0.out 2, blk_cell BKz0.out 3⟩ (fun hHeld => ?_); refine with_tabW laws_FnRedrawDirty.tab9 laws_FnRedrawDirty.bits9 (fun HT_ HW_ => ?_)
          generalize wc.drew = w77 at HO_4 HOz0 HOz1 HOz2 BKz0 BKz1 BKz2 HB HOz3 hHeld ⊢
          refine pure_ (i := 1) (N := some 65) (v := ?_) (a' := ?_) #[false, true, false, false, false, false, false, false, false, false, false] rfl rfl (any_of HT_.out (by kernel_rfl)) (fun _ _ _ h => h) (Or.inl ⟨by rfl, ?_⟩) ?_ ?_
          rotate_left
          ·intro w'
           go_simp
           with_reducible rfl
          rotate_left
          ·simp only [Act.put, List.setIfInBounds_toArray, List.set_cons_zero, List.set_cons_succ, i64_w, i32_w]
           rfl
          refine pure_ (i := 2) (N := some 66) (v := ?_) (a' := ?_) #[false, true, true, false, false, false, false, false, false, false, false] rfl rfl (any_of HT_.out (by kernel_rfl)) (fun _ _ _ h => h) (Or.inl ⟨by rfl, ?_⟩) ?_ ?_
          rotate_left
          ·intro w'
           go_simp
           with_reducible rfl
          rotate_left
          ·simp only [Act.put, List.setIfInBounds_toArray, List.set_cons_zero, List.set_cons_succ, i64_w, i32_w]
           rfl
          refine pure_ (i := 3) (N := some 67) (v := ?_) (a' := ?_) #[false, true, true, true, false, false, false, false, false, false, false] rfl rfl (any_of HT_.out (by kernel_rfl)) (fun _ _ _ h => h) (Or.inl ⟨by rfl, ?_⟩) ?_ ?_
          rotate_left
          ·intro w'
           go_simp
           with_reducible rfl
          rotate_left
          ·simp only [Act.put, List.setIfInBounds_toArray, List.set_cons_zero, List.set_cons_succ, i64_w, i32_w]
           rfl
          refine take_ (i := 0) (N := some 64) (v := ?_) (a' := ?_) #[true, true, true, true, false, false, false, false, false, false, false] rfl rfl (take_ofW HT_.out HW_.out (by kernel_rfl)) (fun _ _ _ h => h) (Or.inl ⟨by rfl, ?_⟩) hHeld ?_ ?_
          rotate_left
          ·rintro w' ⟨s0, s1, s2, s3⟩
           go_simp
           with_reducible rfl
          rotate_left
          ·simp only [Act.put, List.setIfInBounds_toArray, List.set_cons_zero, List.set_cons_succ, i64_w, i32_w]
           rfl
          refine join_ (σ := Value × Nat) 2 #[true, true, true, true, true, true, true, true, true, false, false] (fun s_ => [(68, .tuple #[.agg #[.int .i64 tz14, .int .i64 tz15, .int .i64 tz17, s_.1], .bool true]), (10, .pointer (some ⟨s_.2, 0, none⟩)), (63, .tuple #[.agg #[.int .i64 tz14, .int .i64 tz15, .int .i64 tz17, s_.1], .bool true]), (69, .agg #[.int .i64 tz14, .int .i64 tz15, .int .i64 tz17, s_.1]), (70, .bool true)]) (fun s_ w' => (w'.cell? ⟨gbz4, 0, none⟩ = some (.int .i64 tz4) ∧ w'.cell? ⟨gbz4, 1, none⟩ = some (.int .i64 tz5) ∧ w'.cell? ⟨gbz4, 2, none⟩ = some (.int .i64 tz6) ∧ w'.cell? ⟨gbz4, 3, none⟩ = some (.slice Ao10 tz1.length co10)) ∧ (Kd.V k55 55 w' w.heap.size (fun k_ => some k_ ≠ (s_.1 : Value).ownBlock ∧ some k_ ≠ (.slice Ao10 tz1.length co10 : Value).ownBlock ∧ some k_ ≠ (.slice Ao16 tz2.length co16 : Value).ownBlock ∧ some k_ ≠ (.slice Ao23 tz3.length co23 : Value).ownBlock ∧ k_ ≠ gbz4 ∧ k_ ≠ gbz3 ∧ k_ ≠ gbz1 ∧ k_ ≠ s_.2) (.slice Ao11 yz0.length co11) yz0) ∧ (Kd.R (Kd.int .i64) 3 w' w.heap.size (fun k_ => some k_ ≠ (.slice Ao10 tz1.length co10 : Value).ownBlock ∧ some k_ ≠ (.slice Ao16 tz2.length co16 : Value).ownBlock ∧ some k_ ≠ (.slice Ao23 tz3.length co23 : Value).ownBlock) s_.1 tz13) ∧ (Kd.Q (Kd.int .i64) 3 w' w.heap.size (fun k_ => some k_ ≠ (s_.1 : Value).ownBlock ∧ some k_ ≠ (.slice Ao16 tz2.length co16 : Value).ownBlock ∧ some k_ ≠ (.slice Ao23 tz3.length co23 : Value).ownBlock) (.slice Ao10 tz1.length co10) tz1) ∧ (Kd.Q (Kd.int .i64) 3 w' w.heap.size (fun k_ => some k_ ≠ (s_.1 : Value).ownBlock ∧ some k_ ≠ (.slice Ao10 tz1.length co10 : Value).ownBlock ∧ some k_ ≠ (.slice Ao23 tz3.length co23 : Value).ownBlock) (.slice Ao16 tz2.length co16) tz2) ∧ (Kd.Q (Kd.int .i64) 3 w' w.heap.size (fun k_ => some k_ ≠ (s_.1 : Value).ownBlock ∧ some k_ ≠ (.slice Ao10 tz1.length co10 : Value).ownBlock ∧ some k_ ≠ (.slice Ao16 tz2.length co16 : Value).ownBlock) (.slice Ao23 tz3.length co23) tz3) ∧ (Kd.N k55 55 w' w.heap.size (fun k_ => some k_ ≠ (s_.1 : Value).ownBlock ∧ some k_ ≠ (.slice Ao10 tz1.length co10 : Value).ownBlock ∧ some k_ ≠ (.slice Ao16 tz2.length co16 : Value).ownBlock ∧ some k_ ≠ (.slice Ao23 tz3.length co23 : Value).ownBlock ∧ k_ ≠ gbz4 ∧ k_ ≠ gbz3 ∧ k_ ≠ gbz1 ∧ k_ ≠ s_.2) (.slice Ao11 tz0.length co11) tz0) ∧ (w'.heap[gbz4]? = some (.cells #[.int .i64 tz4, .int .i64 tz5, .int .i64 tz6, .slice Ao10 tz1.length co10] 27 (0, 0))) ∧ (w'.heap[gbz3]? = some (.cells #[.int .i64 tz9, .int .i64 tz10, .int .i64 tz11, .slice Ao16 tz2.length co16] 27 (0, 0))) ∧ (w'.heap[gbz1]? = some (.cells #[.int .i64 tz7, .int .i64 tz8, .int .i64 tz12, .slice Ao23 tz3.length co23] 27 (0, 0))) ∧ (w'.heap[s_.2]? = some (.cells #[.int .i64 0, .int .i64 0, .int .i64 0, .slice none 0 0] 27 (0, 0))) ∧ (w.heap.size ≤ s_.2) ∧ (w.heap.size ≤ s_.2) ∧ (gbz4 ≠ s_.2) ∧ (s_.2 ≠ gbz4) ∧ (gbz3 ≠ s_.2) ∧ (s_.2 ≠ gbz3) ∧ (gbz1 ≠ s_.2) ∧ (s_.2 ≠ gbz1) ∧ (Below w.heap.size w w')) ?_ ?_
          rotate_left
          ·intro hCont
           refine two_ (i := 4) (j := 8) (Ni := some 68) (Nj := some 10) #[true, true, true, true, true, false, false, false, false, false, false] #[true, true, true, true, false, false, false, false, true, false, false] rfl rfl rfl rfl (two_of HT_.out (by kernel_rfl)) (by decide) (by decide) (fun K hK => ?_) (fun K hK => ?_)
           ·skip
            refine goes_ Try.func67 (by kernel_rfl) rfl #[.agg #[.int .i64 tz4, .int .i64 tz5, .int .i64 tz6, .slice Ao10 tz1.length co10], .slice Ao11 yz0.length co11] (by rfl) rfl rfl (by (try simp only [List.map_toArray, List.map_cons, List.map_nil]); rfl) ?_
            with_reducible refine (impl_FlattenLayers.calls kj5 tz4 tz5 tz6 _ _ tz1 _ _ yz0 tz14 tz15 tz17 tz13 true _ ?side1 ?side2 ?side3 ?side4 A70.out).mono ?_
            (case side1 => repeat (exact (Kd.Q_reads' HOz0.out).2.2))
            (case side2 => exact (Kd.Q_reads' HOz0.out).2.1)
            (case side3 => repeat (exact (Kd.V_reads' HOz3.out).2.2))
            (case side4 => exact (Kd.V_reads' HOz3.out).2.1)
            rintro e w79 ⟨vz2, rfl, ho0, hb⟩
            refine ⟨_, rfl, ?_⟩
            replace HO_4 := mk (Kd.N_elder' HO_4.out (Kd.R_base ho0) hb)
            replace HOz3 := mk (Kd.V_elder' HOz3.out (Kd.R_base ho0) hb)
            have HOz4 := mk (Kd.R_lower (Kd.R_new' (Kd.R_new' (Kd.R_new' ho0 (Kd.Q_lt HOz0.out)) (Kd.Q_lt HOz1.out)) (Kd.Q_lt HOz2.out)) (below_size HB.out))
            replace HOz0 := mk (Kd.Q_elder' HOz0.out (Kd.R_base ho0) hb)
            replace HOz1 := mk (Kd.Q_elder' HOz1.out (Kd.R_base ho0) hb)
            replace HOz2 := mk (Kd.Q_elder' HOz2.out (Kd.R_base ho0) hb)
            replace BKz0 := mk (blk_below BKz0.out hb)
            replace BKz1 := mk (blk_below BKz1.out hb)
            replace BKz2 := mk (blk_below BKz2.out hb)
            replace HB := mk (below_step HB.out hb)
            (try clear hb)
            (try clear ho0)
            refine hK.out _ _ ⟨blk_cell BKz0.out 0, blk_cell BKz0.out 1, blk_cell BKz0.out 2, blk_cell BKz0.out 3⟩ (fun hHeld => ?_)
            clear hK K
            refine norm_ (a' := ?_) ?_ ?_
            rotate_left
            ·show Act.put _ (some 68) _ = _
             simp only [Act.put, List.setIfInBounds_toArray, List.set_cons_zero, List.set_cons_succ, i64_w, i32_w]
             rfl
            refine pure_ (i := 5) (N := some 63) (v := ?_) (a' := ?_) #[true, true, true, true, true, true, false, false, false, false, false] rfl rfl (any_of HT_.out (by kernel_rfl)) (fun _ _ _ h => h) (Or.inl ⟨by rfl, ?_⟩) ?_ ?_
            rotate_left
            ·intro w'
             go_simp
             with_reducible rfl
            rotate_left
            ·simp only [Act.put, List.setIfInBounds_toArray, List.set_cons_zero, List.set_cons_succ, i64_w, i32_w]
             rfl
            refine pure_ (i := 6) (N := some 69) (v := ?_) (a' := ?_) #[true, true, true, true, true, true, true, false, false, false, false] rfl rfl (any_of HT_.out (by kernel_rfl)) (fun _ _ _ h => h) (Or.inl ⟨by rfl, ?_⟩) ?_ ?_
            rotate_left
            ·intro w'
             go_simp
             with_reducible rfl
            rotate_left
            ·simp only [Act.put, List.setIfInBounds_toArray, List.set_cons_zero, List.set_cons_succ, i64_w, i32_w]
             rfl
            refine pure_ (i := 7) (N := some 70) (v := ?_) (a' := ?_) #[true, true, true, true, true, true, true, true, false, false, false] rfl rfl (any_of HT_.out (by kernel_rfl)) (fun _ _ _ h => h) (Or.inl ⟨by rfl, ?_⟩) ?_ ?_
            rotate_left
            ·intro w'
             go_simp
             with_reducible rfl
            rotate_left
            ·simp only [Act.put, List.setIfInBounds_toArray, List.set_cons_zero, List.set_cons_succ, i64_w, i32_w]
             rfl
            refine one_ (i := 8) (N := some 10) #[true, true, true, true, true, true, true, true, true, false, false] rfl rfl (one_of HT_.out (by kernel_rfl)) (by decide) (fun K hK => ?_)
            refine box_step ?hg (N := 10) ?hd (cs := #[.int .i64 0, .int .i64 0, .int .i64 0, .slice none 0 0]) (t := 27) ?hr ?_; (case hd => rfl); (case hg => rfl); (case hr => (go_simp; done))
            intro gbz0 hg w80 hbox hb
            replace HO_4 := mk (Kd.N_below (Kd.N_elderB HO_4.out gbz0 (Nat.le_of_eq hg.symm)) hb)
            replace HOz0 := mk (Kd.Q_below HOz0.out hb)
            replace HOz1 := mk (Kd.Q_below HOz1.out hb)
            replace HOz2 := mk (Kd.Q_below HOz2.out hb)
            replace HOz3 := mk (Kd.V_below (Kd.V_elderB HOz3.out gbz0 (Nat.le_of_eq hg.symm)) hb)
            replace HOz4 := mk (Kd.R_below HOz4.out hb)
            have BKz3 := mk (hbox)
            have GWz1 := mk ((by rw [hg]; exact (below_size HB.out) : w.heap.size ≤ gbz0))
            have GEz1 := mk ((by rw [hg]; exact (below_size HB.out) : w.heap.size ≤ gbz0))
            replace HB := mk (below_step HB.out hb)
            have NBz0 := mk ((by rw [hg]; exact Nat.ne_of_lt (blk_lt BKz0.out) : gbz4 ≠ gbz0))
            replace BKz0 := mk (blk_below BKz0.out hb)
            have NBz14 := mk NBz0.out.symm
            have NBz5 := mk ((by rw [hg]; exact Nat.ne_of_lt (blk_lt BKz1.out) : gbz3 ≠ gbz0))
            replace BKz1 := mk (blk_below BKz1.out hb)
            have NBz13 := mk NBz5.out.symm
            have NBz6 := mk ((by rw [hg]; exact Nat.ne_of_lt (blk_lt BKz2.out) : gbz1 ≠ gbz0))
            replace BKz2 := mk (blk_below BKz2.out hb)
            have NBz15 := mk NBz6.out.symm
            clear hb hbox hg
            refine hK.out _ _ ⟨blk_cell BKz0.out 0, blk_cell BKz0.out 1, blk_cell BKz0.out 2, blk_cell BKz0.out 3⟩ (fun hHeld => ?_)
            clear hK K
            refine norm_ (a' := ?_) ?_ ?_
            rotate_left
            ·show Act.put _ (some 10) _ = _
             simp only [Act.put, List.setIfInBounds_toArray, List.set_cons_zero, List.set_cons_succ, i64_w, i32_w]
             rfl
            exact norm_ (by simp only [putAll, Act.put, List.setIfInBounds_toArray, List.set_cons_zero, List.set_cons_succ]) (hCont (vz2, gbz0) _ ⟨hHeld, (by exact Kd.V_mono HOz3.out (fun _ hk => ⟨hk.1.2, ⟨hk.1.1.1, ⟨hk.1.1.2.1, ⟨hk.1.1.2.2.1, ⟨hk.1.1.2.2.2.1, ⟨hk.1.1.2.2.2.2.1, ⟨hk.1.1.2.2.2.2.2, hk.2⟩⟩⟩⟩⟩⟩⟩)), (by exact Kd.R_mono HOz4.out (fun _ hk => ⟨hk.1.1.2, ⟨hk.1.2, hk.2⟩⟩)), (by exact Kd.Q_mono HOz0.out (fun _ hk => ⟨hk.2, ⟨hk.1.1, hk.1.2⟩⟩)), (by exact Kd.Q_mono HOz1.out (fun _ hk => ⟨hk.2, ⟨hk.1.1, hk.1.2⟩⟩)), (by exact Kd.Q_mono HOz2.out (fun _ hk => ⟨hk.2, ⟨hk.1.1, hk.1.2⟩⟩)), (by exact Kd.N_mono HO_4.out (fun _ hk => ⟨hk.1.2, ⟨hk.1.1.1, ⟨hk.1.1.2.1, ⟨hk.1.1.2.2.1, ⟨hk.1.1.2.2.2.1, ⟨hk.1.1.2.2.2.2.1, ⟨hk.1.1.2.2.2.2.2, hk.2⟩⟩⟩⟩⟩⟩⟩)), BKz0.out, BKz1.out, BKz2.out, BKz3.out, GWz1.out, GEz1.out, NBz0.out, NBz14.out, NBz5.out, NBz13.out, NBz6.out, NBz15.out, (HB.out)⟩)
           ·skip
            refine box_step ?hg (N := 10) ?hd (cs := #[.int .i64 0, .int .i64 0, .int .i64 0, .slice none 0 0]) (t := 27) ?hr ?_; (case hd => rfl); (case hg => rfl); (case hr => (go_simp; done))
            intro gbz0 hg w79 hbox hb
            replace HO_4 := mk (Kd.N_below (Kd.N_elderB HO_4.out gbz0 (Nat.le_of_eq hg.symm)) hb)
            replace HOz0 := mk (Kd.Q_below HOz0.out hb)
            replace HOz1 := mk (Kd.Q_below HOz1.out hb)
            replace HOz2 := mk (Kd.Q_below HOz2.out hb)
            replace HOz3 := mk (Kd.V_below (Kd.V_elderB HOz3.out gbz0 (Nat.le_of_eq hg.symm)) hb)
            have BKz3 := mk (hbox)
            have GWz1 := mk ((by rw [hg]; exact (below_size HB.out) : w.heap.size ≤ gbz0))
            have GEz1 := mk ((by rw [hg]; exact (below_size HB.out) : w.heap.size ≤ gbz0))
            replace HB := mk (below_step HB.out hb)
            have NBz0 := mk ((by rw [hg]; exact Nat.ne_of_lt (blk_lt BKz0.out) : gbz4 ≠ gbz0))
            replace BKz0 := mk (blk_below BKz0.out hb)
            have NBz14 := mk NBz0.out.symm
            have NBz5 := mk ((by rw [hg]; exact Nat.ne_of_lt (blk_lt BKz1.out) : gbz3 ≠ gbz0))
            replace BKz1 := mk (blk_below BKz1.out hb)
            have NBz13 := mk NBz5.out.symm
            have NBz6 := mk ((by rw [hg]; exact Nat.ne_of_lt (blk_lt BKz2.out) : gbz1 ≠ gbz0))
            replace BKz2 := mk (blk_below BKz2.out hb)
            have NBz15 := mk NBz6.out.symm
            clear hb hbox hg
            refine hK.out _ _ ⟨blk_cell BKz0.out 0, blk_cell BKz0.out 1, blk_cell BKz0.out 2, blk_cell BKz0.out 3⟩ (fun hHeld => ?_)
            clear hK K
            refine norm_ (a' := ?_) ?_ ?_
            rotate_left
            ·show Act.put _ (some 10) _ = _
             simp only [Act.put, List.setIfInBounds_toArray, List.set_cons_zero, List.set_cons_succ, i64_w, i32_w]
             rfl
            refine one_ (i := 4) (N := some 68) #[true, true, true, true, true, false, false, false, true, false, false] rfl rfl (one_of HT_.out (by kernel_rfl)) (by decide) (fun K hK => ?_)
            refine goes_ Try.func67 (by kernel_rfl) rfl #[.agg #[.int .i64 tz4, .int .i64 tz5, .int .i64 tz6, .slice Ao10 tz1.length co10], .slice Ao11 yz0.length co11] (by rfl) rfl rfl (by (try simp only [List.map_toArray, List.map_cons, List.map_nil]); rfl) ?_
            with_reducible refine (impl_FlattenLayers.calls kj5 tz4 tz5 tz6 _ _ tz1 _ _ yz0 tz14 tz15 tz17 tz13 true _ ?side1 ?side2 ?side3 ?side4 A70.out).mono ?_
            (case side1 => repeat (exact (Kd.Q_reads' HOz0.out).2.2))
            (case side2 => exact (Kd.Q_reads' HOz0.out).2.1)
            (case side3 => repeat (exact (Kd.V_reads' HOz3.out).2.2))
            (case side4 => exact (Kd.V_reads' HOz3.out).2.1)
            rintro e w80 ⟨vz2, rfl, ho0, hb⟩
            refine ⟨_, rfl, ?_⟩
            replace HO_4 := mk (Kd.N_elder' HO_4.out (Kd.R_base ho0) hb)
            replace HOz3 := mk (Kd.V_elder' HOz3.out (Kd.R_base ho0) hb)
            have HOz4 := mk (Kd.R_lower (Kd.R_new' (Kd.R_new' (Kd.R_new' ho0 (Kd.Q_lt HOz0.out)) (Kd.Q_lt HOz1.out)) (Kd.Q_lt HOz2.out)) (below_size HB.out))
            replace HOz0 := mk (Kd.Q_elder' HOz0.out (Kd.R_base ho0) hb)
            replace HOz1 := mk (Kd.Q_elder' HOz1.out (Kd.R_base ho0) hb)
            replace HOz2 := mk (Kd.Q_elder' HOz2.out (Kd.R_base ho0) hb)
            replace BKz0 := mk (blk_below BKz0.out hb)
            replace BKz1 := mk (blk_below BKz1.out hb)
            replace BKz2 := mk (blk_below BKz2.out hb)
            replace BKz3 := mk (blk_below BKz3.out hb)
            replace HB := mk (below_step HB.out hb)
            (try clear hb)
            (try clear ho0)
            refine hK.out _ _ ⟨blk_cell BKz0.out 0, blk_cell BKz0.out 1, blk_cell BKz0.out 2, blk_cell BKz0.out 3⟩ (fun hHeld => ?_)
            clear hK K
            refine norm_ (a' := ?_) ?_ ?_
            rotate_left
            ·show Act.put _ (some 68) _ = _
             simp only [Act.put, List.setIfInBounds_toArray, List.set_cons_zero, List.set_cons_succ, i64_w, i32_w]
             rfl
            refine pure_ (i := 5) (N := some 63) (v := ?_) (a' := ?_) #[true, true, true, true, true, true, false, false, true, false, false] rfl rfl (any_of HT_.out (by kernel_rfl)) (fun _ _ _ h => h) (Or.inl ⟨by rfl, ?_⟩) ?_ ?_
            rotate_left
            ·intro w'
             go_simp
             with_reducible rfl
            rotate_left
            ·simp only [Act.put, List.setIfInBounds_toArray, List.set_cons_zero, List.set_cons_succ, i64_w, i32_w]
             rfl
            refine pure_ (i := 6) (N := some 69) (v := ?_) (a' := ?_) #[true, true, true, true, true, true, true, false, true, false, false] rfl rfl (any_of HT_.out (by kernel_rfl)) (fun _ _ _ h => h) (Or.inl ⟨by rfl, ?_⟩) ?_ ?_
            rotate_left
            ·intro w'
             go_simp
             with_reducible rfl
            rotate_left
            ·simp only [Act.put, List.setIfInBounds_toArray, List.set_cons_zero, List.set_cons_succ, i64_w, i32_w]
             rfl
            refine pure_ (i := 7) (N := some 70) (v := ?_) (a' := ?_) #[true, true, true, true, true, true, true, true, true, false, false] rfl rfl (any_of HT_.out (by kernel_rfl)) (fun _ _ _ h => h) (Or.inl ⟨by rfl, ?_⟩) ?_ ?_
            rotate_left
            ·intro w'
             go_simp
             with_reducible rfl
            rotate_left
            ·simp only [Act.put, List.setIfInBounds_toArray, List.set_cons_zero, List.set_cons_succ, i64_w, i32_w]
             rfl
            exact norm_ (by simp only [putAll, Act.put, List.setIfInBounds_toArray, List.set_cons_zero, List.set_cons_succ]) (hCont (vz2, gbz0) _ ⟨hHeld, (by exact Kd.V_mono HOz3.out (fun _ hk => ⟨hk.2, ⟨hk.1.1.1, ⟨hk.1.1.2.1, ⟨hk.1.1.2.2.1, ⟨hk.1.1.2.2.2.1, ⟨hk.1.1.2.2.2.2.1, ⟨hk.1.1.2.2.2.2.2, hk.1.2⟩⟩⟩⟩⟩⟩⟩)), (by exact Kd.R_mono HOz4.out (fun _ hk => ⟨hk.1.1.2, ⟨hk.1.2, hk.2⟩⟩)), (by exact Kd.Q_mono HOz0.out (fun _ hk => ⟨hk.2, ⟨hk.1.1, hk.1.2⟩⟩)), (by exact Kd.Q_mono HOz1.out (fun _ hk => ⟨hk.2, ⟨hk.1.1, hk.1.2⟩⟩)), (by exact Kd.Q_mono HOz2.out (fun _ hk => ⟨hk.2, ⟨hk.1.1, hk.1.2⟩⟩)), (by exact Kd.N_mono HO_4.out (fun _ hk => ⟨hk.2, ⟨hk.1.1.1, ⟨hk.1.1.2.1, ⟨hk.1.1.2.2.1, ⟨hk.1.1.2.2.2.1, ⟨hk.1.1.2.2.2.2.1, ⟨hk.1.1.2.2.2.2.2, hk.1.2⟩⟩⟩⟩⟩⟩⟩)), BKz0.out, BKz1.out, BKz2.out, BKz3.out, GWz1.out, GEz1.out, NBz0.out, NBz14.out, NBz5.out, NBz13.out, NBz6.out, NBz15.out, (HB.out)⟩)
          rintro ⟨vz2, gbz0⟩ w81 ⟨hS_, h0_, h1_, h2_, h3_, h4_, h5_, h6_, h7_, h8_, h9_, h10_, h11_, h12_, h13_, h14_, h15_, h16_, h17_, h18_⟩
          have n0_ : Aside0 (Kd.V k55 55 w81 w.heap.size (fun k_ => some k_ ≠ (vz2 : Value).ownBlock ∧ some k_ ≠ (.slice Ao10 tz1.length co10 : Value).ownBlock ∧ some k_ ≠ (.slice Ao16 tz2.length co16 : Value).ownBlock ∧ some k_ ≠ (.slice Ao23 tz3.length co23 : Value).ownBlock ∧ k_ ≠ gbz4 ∧ k_ ≠ gbz3 ∧ k_ ≠ gbz1 ∧ k_ ≠ gbz0) (.slice Ao11 yz0.length co11) yz0) := ⟨h0_⟩
          have n1_ : Aside0 (Kd.R (Kd.int .i64) 3 w81 w.heap.size (fun k_ => some k_ ≠ (.slice Ao10 tz1.length co10 : Value).ownBlock ∧ some k_ ≠ (.slice Ao16 tz2.length co16 : Value).ownBlock ∧ some k_ ≠ (.slice Ao23 tz3.length co23 : Value).ownBlock) vz2 tz13) := ⟨h1_⟩
          have n2_ : Aside0 (Kd.Q (Kd.int .i64) 3 w81 w.heap.size (fun k_ => some k_ ≠ (vz2 : Value).ownBlock ∧ some k_ ≠ (.slice Ao16 tz2.length co16 : Value).ownBlock ∧ some k_ ≠ (.slice Ao23 tz3.length co23 : Value).ownBlock) (.slice Ao10 tz1.length co10) tz1) := ⟨h2_⟩
          have n3_ : Aside0 (Kd.Q (Kd.int .i64) 3 w81 w.heap.size (fun k_ => some k_ ≠ (vz2 : Value).ownBlock ∧ some k_ ≠ (.slice Ao10 tz1.length co10 : Value).ownBlock ∧ some k_ ≠ (.slice Ao23 tz3.length co23 : Value).ownBlock) (.slice Ao16 tz2.length co16) tz2) := ⟨h3_⟩
          have n4_ : Aside0 (Kd.Q (Kd.int .i64) 3 w81 w.heap.size (fun k_ => some k_ ≠ (vz2 : Value).ownBlock ∧ some k_ ≠ (.slice Ao10 tz1.length co10 : Value).ownBlock ∧ some k_ ≠ (.slice Ao16 tz2.length co16 : Value).ownBlock) (.slice Ao23 tz3.length co23) tz3) := ⟨h4_⟩
          have n5_ : Aside0 (Kd.N k55 55 w81 w.heap.size (fun k_ => some k_ ≠ (vz2 : Value).ownBlock ∧ some k_ ≠ (.slice Ao10 tz1.length co10 : Value).ownBlock ∧ some k_ ≠ (.slice Ao16 tz2.length co16 : Value).ownBlock ∧ some k_ ≠ (.slice Ao23 tz3.length co23 : Value).ownBlock ∧ k_ ≠ gbz4 ∧ k_ ≠ gbz3 ∧ k_ ≠ gbz1 ∧ k_ ≠ gbz0) (.slice Ao11 tz0.length co11) tz0) := ⟨h5_⟩
          have n6_ : Aside0 (w81.heap[gbz4]? = some (.cells #[.int .i64 tz4, .int .i64 tz5, .int .i64 tz6, .slice Ao10 tz1.length co10] 27 (0, 0))) := ⟨h6_⟩
          have n7_ : Aside0 (w81.heap[gbz3]? = some (.cells #[.int .i64 tz9, .int .i64 tz10, .int .i64 tz11, .slice Ao16 tz2.length co16] 27 (0, 0))) := ⟨h7_⟩
          have n8_ : Aside0 (w81.heap[gbz1]? = some (.cells #[.int .i64 tz7, .int .i64 tz8, .int .i64 tz12, .slice Ao23 tz3.length co23] 27 (0, 0))) := ⟨h8_⟩
          have n9_ : Aside0 (w81.heap[gbz0]? = some (.cells #[.int .i64 0, .int .i64 0, .int .i64 0, .slice none 0 0] 27 (0, 0))) := ⟨h9_⟩
          have n10_ : Aside0 (w.heap.size ≤ gbz0) := ⟨h10_⟩
          have n11_ : Aside0 (w.heap.size ≤ gbz0) := ⟨h11_⟩
          have n12_ : Aside0 (gbz4 ≠ gbz0) := ⟨h12_⟩
          have n13_ : Aside0 (gbz0 ≠ gbz4) := ⟨h13_⟩
          have n14_ : Aside0 (gbz3 ≠ gbz0) := ⟨h14_⟩
          have n15_ : Aside0 (gbz0 ≠ gbz3) := ⟨h15_⟩
          have n16_ : Aside0 (gbz1 ≠ gbz0) := ⟨h16_⟩
          have n17_ : Aside0 (gbz0 ≠ gbz1) := ⟨h17_⟩
          have n18_ : Aside0 (Below w.heap.size w w81) := ⟨h18_⟩
          clear HO_4 HOz0 HOz1 HOz2 BKz0 BKz1 BKz2 HB h0_ h1_ h2_ h3_ h4_ h5_ h6_ h7_ h8_ h9_ h10_ h11_ h12_ h13_ h14_ h15_ h16_ h17_ h18_
          revert n0_ n1_ n2_ n3_ n4_ n5_ n6_ n7_ n8_ n9_ n10_ n11_ n12_ n13_ n14_ n15_ n16_ n17_ n18_; intro HOz3 HOz4 HOz0 HOz1 HOz2 HO_4 BKz0 BKz1 BKz2 BKz3 GWz1 GEz1 NBz0 NBz14 NBz5 NBz13 NBz6 NBz15 HB
          have hHeld : w81.cell? ⟨gbz4, 0, none⟩ = some (.int .i64 tz4) ∧ w81.cell? ⟨gbz4, 1, none⟩ = some (.int .i64 tz5) ∧ w81.cell? ⟨gbz4, 2, none⟩ = some (.int .i64 tz6) ∧ w81.cell? ⟨gbz4, 3, none⟩ = some (.slice Ao10 tz1.length co10) := hS_
          obtain ⟨Ao85, co85, eo85⟩ := Kd.R_slice HOz4.out
          (subst eo85)
          refine norm_ (a' := ?_) ?_ ?_
          rotate_left
          ·simp only [putAll, Act.put, List.setIfInBounds_toArray, List.set_cons_zero, List.set_cons_succ]
           rfl
          refine one_ (i := 9) (N := none) #[true, true, true, true, true, true, true, true, true, true, false] rfl rfl (one_of HT_.out (by kernel_rfl)) (by decide) (fun K hK => ?_)
          obtain ⟨hs82, -, -, -, hfs82, -⟩ := c4 BKz3.out
          have hns82_0 := NBz0.out
          have hns82_1 := NBz5.out
          have hns82_2 := NBz6.out
          have hms82_0 := NBz14.out
          have hms82_1 := NBz13.out
          have hms82_2 := NBz15.out
          obtain ⟨-, hs83, -, -, -, hfs83, -⟩ := c4 BKz3.out
          have hns83_0 := NBz0.out
          have hns83_1 := NBz5.out
          have hns83_2 := NBz6.out
          have hms83_0 := NBz14.out
          have hms83_1 := NBz13.out
          have hms83_2 := NBz15.out
          obtain ⟨-, -, hs84, -, -, -, hfs84, -⟩ := c4 BKz3.out
          have hns84_0 := NBz0.out
          have hns84_1 := NBz5.out
          have hns84_2 := NBz6.out
          have hms84_0 := NBz14.out
          have hms84_1 := NBz13.out
          have hms84_2 := NBz15.out
          obtain ⟨-, -, -, hs86, -, -, -, hfs86⟩ := c4 BKz3.out
          have hns86_0 := NBz0.out
          have hns86_1 := NBz5.out
          have hns86_2 := NBz6.out
          have hms86_0 := NBz14.out
          have hms86_1 := NBz13.out
          have hms86_2 := NBz15.out
          refine skip_ (w1 := ?_) (by rfl) rfl ?_ ?_
          rotate_left
          ·go_simp
           rfl
          refine hK.out _ _ ⟨((cell_far (p := ⟨gbz0, _, none⟩) NBz0.out _).trans (((cell_far (p := ⟨gbz0, _, none⟩) NBz0.out _).trans (((cell_far (p := ⟨gbz0, _, none⟩) NBz0.out _).trans (((cell_far (p := ⟨gbz0, _, none⟩) NBz0.out _).trans hHeld.1))))))), ((cell_far (p := ⟨gbz0, _, none⟩) NBz0.out _).trans (((cell_far (p := ⟨gbz0, _, none⟩) NBz0.out _).trans (((cell_far (p := ⟨gbz0, _, none⟩) NBz0.out _).trans (((cell_far (p := ⟨gbz0, _, none⟩) NBz0.out _).trans hHeld.2.1))))))), ((cell_far (p := ⟨gbz0, _, none⟩) NBz0.out _).trans (((cell_far (p := ⟨gbz0, _, none⟩) NBz0.out _).trans (((cell_far (p := ⟨gbz0, _, none⟩) NBz0.out _).trans (((cell_far (p := ⟨gbz0, _, none⟩) NBz0.out _).trans hHeld.2.2.1))))))), ((cell_far (p := ⟨gbz0, _, none⟩) NBz0.out _).trans (((cell_far (p := ⟨gbz0, _, none⟩) NBz0.out _).trans (((cell_far (p := ⟨gbz0, _, none⟩) NBz0.out _).trans (((cell_far (p := ⟨gbz0, _, none⟩) NBz0.out _).trans hHeld.2.2.2)))))))⟩ (fun hHeld => ?_)
          clear hK K
          refine pure_ (i := 10) (N := some 11) (v := ?_) (a' := ?_) #[true, true, true, true, true, true, true, true, true, true, true] rfl rfl (any_of HT_.out (by kernel_rfl)) (fun _ _ _ h => h) (Or.inl ⟨by rfl, ?_⟩) ?_ ?_
          rotate_left
          ·intro w'
           go_simp
           with_reducible rfl
          rotate_left
          ·simp only [Act.put, List.setIfInBounds_toArray, List.set_cons_zero, List.set_cons_succ, i64_w, i32_w]
           rfl
          refine done_ (done_of HT_.out (by kernel_rfl)) ?_
          try go_wp2
          have n0_ : Aside0 (Kd.N k55 55 ((((w81.setCell ⟨gbz0, 0, none⟩ (.int .i64 tz14)).setCell ⟨gbz0, 1, none⟩ (.int .i64 tz15)).setCell ⟨gbz0, 2, none⟩ (.int .i64 tz17)).setCell ⟨gbz0, 3, none⟩ (.slice Ao85 tz13.length co85)) w.heap.size (fun k_ => some k_ ≠ (.slice Ao10 tz1.length co10 : Value).ownBlock ∧ some k_ ≠ (.slice Ao16 tz2.length co16 : Value).ownBlock ∧ some k_ ≠ (.slice Ao23 tz3.length co23 : Value).ownBlock ∧ some k_ ≠ (.slice Ao85 tz13.length co85 : Value).ownBlock ∧ k_ ≠ gbz4 ∧ k_ ≠ gbz3 ∧ k_ ≠ gbz1 ∧ k_ ≠ gbz0) (.slice Ao11 tz0.length co11) tz0) := ⟨by exact Kd.N_mono (Kd.N_far (p := ⟨gbz0, 3, none⟩) (Kd.N_far (p := ⟨gbz0, 2, none⟩) (Kd.N_far (p := ⟨gbz0, 1, none⟩) (Kd.N_far (p := ⟨gbz0, 0, none⟩) (Kd.N_mono HO_4.out (fun k_ hk => (⟨hk, hk.2.2.2.2.2.2.2⟩ : _ ∧ k_ ≠ gbz0))) (fun _ hk => hk.2) (.int .i64 tz14)) (fun _ hk => hk.2) (.int .i64 tz15)) (fun _ hk => hk.2) (.int .i64 tz17)) (fun _ hk => hk.2) (.slice Ao85 tz13.length co85)) (fun _ hk => ⟨hk.1.2.1, ⟨hk.1.2.2.1, ⟨hk.1.2.2.2.1, ⟨hk.1.1, ⟨hk.1.2.2.2.2.1, ⟨hk.1.2.2.2.2.2.1, ⟨hk.1.2.2.2.2.2.2.1, hk.1.2.2.2.2.2.2.2⟩⟩⟩⟩⟩⟩⟩)⟩
          have n1_ : Aside0 (Kd.Q (Kd.int .i64) 3 ((((w81.setCell ⟨gbz0, 0, none⟩ (.int .i64 tz14)).setCell ⟨gbz0, 1, none⟩ (.int .i64 tz15)).setCell ⟨gbz0, 2, none⟩ (.int .i64 tz17)).setCell ⟨gbz0, 3, none⟩ (.slice Ao85 tz13.length co85)) w.heap.size (fun k_ => some k_ ≠ (.slice Ao16 tz2.length co16 : Value).ownBlock ∧ some k_ ≠ (.slice Ao23 tz3.length co23 : Value).ownBlock ∧ some k_ ≠ (.slice Ao85 tz13.length co85 : Value).ownBlock) (.slice Ao10 tz1.length co10) tz1) := ⟨by exact Kd.Q_mono (Kd.Q_far (p := ⟨gbz0, 3, none⟩) (Kd.Q_far (p := ⟨gbz0, 2, none⟩) (Kd.Q_far (p := ⟨gbz0, 1, none⟩) (Kd.Q_far (p := ⟨gbz0, 0, none⟩) (Kd.Q_types HOz0.out BKz3.out (by decide)) (fun _ hk => hk.2) (.int .i64 tz14)) (fun _ hk => hk.2) (.int .i64 tz15)) (fun _ hk => hk.2) (.int .i64 tz17)) (fun _ hk => hk.2) (.slice Ao85 tz13.length co85)) (fun _ hk => ⟨hk.1.2.1, ⟨hk.1.2.2, hk.1.1⟩⟩)⟩
          have n2_ : Aside0 (Kd.Q (Kd.int .i64) 3 ((((w81.setCell ⟨gbz0, 0, none⟩ (.int .i64 tz14)).setCell ⟨gbz0, 1, none⟩ (.int .i64 tz15)).setCell ⟨gbz0, 2, none⟩ (.int .i64 tz17)).setCell ⟨gbz0, 3, none⟩ (.slice Ao85 tz13.length co85)) w.heap.size (fun k_ => some k_ ≠ (.slice Ao10 tz1.length co10 : Value).ownBlock ∧ some k_ ≠ (.slice Ao23 tz3.length co23 : Value).ownBlock ∧ some k_ ≠ (.slice Ao85 tz13.length co85 : Value).ownBlock) (.slice Ao16 tz2.length co16) tz2) := ⟨by exact Kd.Q_mono (Kd.Q_far (p := ⟨gbz0, 3, none⟩) (Kd.Q_far (p := ⟨gbz0, 2, none⟩) (Kd.Q_far (p := ⟨gbz0, 1, none⟩) (Kd.Q_far (p := ⟨gbz0, 0, none⟩) (Kd.Q_types HOz1.out BKz3.out (by decide)) (fun _ hk => hk.2) (.int .i64 tz14)) (fun _ hk => hk.2) (.int .i64 tz15)) (fun _ hk => hk.2) (.int .i64 tz17)) (fun _ hk => hk.2) (.slice Ao85 tz13.length co85)) (fun _ hk => ⟨hk.1.2.1, ⟨hk.1.2.2, hk.1.1⟩⟩)⟩
          have n3_ : Aside0 (Kd.Q (Kd.int .i64) 3 ((((w81.setCell ⟨gbz0, 0, none⟩ (.int .i64 tz14)).setCell ⟨gbz0, 1, none⟩ (.int .i64 tz15)).setCell ⟨gbz0, 2, none⟩ (.int .i64 tz17)).setCell ⟨gbz0, 3, none⟩ (.slice Ao85 tz13.length co85)) w.heap.size (fun k_ => some k_ ≠ (.slice Ao10 tz1.length co10 : Value).ownBlock ∧ some k_ ≠ (.slice Ao16 tz2.length co16 : Value).ownBlock ∧ some k_ ≠ (.slice Ao85 tz13.length co85 : Value).ownBlock) (.slice Ao23 tz3.length co23) tz3) := ⟨by exact Kd.Q_mono (Kd.Q_far (p := ⟨gbz0, 3, none⟩) (Kd.Q_far (p := ⟨gbz0, 2, none⟩) (Kd.Q_far (p := ⟨gbz0, 1, none⟩) (Kd.Q_far (p := ⟨gbz0, 0, none⟩) (Kd.Q_types HOz2.out BKz3.out (by decide)) (fun _ hk => hk.2) (.int .i64 tz14)) (fun _ hk => hk.2) (.int .i64 tz15)) (fun _ hk => hk.2) (.int .i64 tz17)) (fun _ hk => hk.2) (.slice Ao85 tz13.length co85)) (fun _ hk => ⟨hk.1.2.1, ⟨hk.1.2.2, hk.1.1⟩⟩)⟩
          have n4_ : Aside0 (Kd.V k55 55 ((((w81.setCell ⟨gbz0, 0, none⟩ (.int .i64 tz14)).setCell ⟨gbz0, 1, none⟩ (.int .i64 tz15)).setCell ⟨gbz0, 2, none⟩ (.int .i64 tz17)).setCell ⟨gbz0, 3, none⟩ (.slice Ao85 tz13.length co85)) w.heap.size (fun k_ => some k_ ≠ (.slice Ao10 tz1.length co10 : Value).ownBlock ∧ some k_ ≠ (.slice Ao16 tz2.length co16 : Value).ownBlock ∧ some k_ ≠ (.slice Ao23 tz3.length co23 : Value).ownBlock ∧ some k_ ≠ (.slice Ao85 tz13.length co85 : Value).ownBlock ∧ k_ ≠ gbz4 ∧ k_ ≠ gbz3 ∧ k_ ≠ gbz1 ∧ k_ ≠ gbz0) (.slice Ao11 yz0.length co11) yz0) := ⟨by exact Kd.V_mono (Kd.V_far (p := ⟨gbz0, 3, none⟩) (Kd.V_far (p := ⟨gbz0, 2, none⟩) (Kd.V_far (p := ⟨gbz0, 1, none⟩) (Kd.V_far (p := ⟨gbz0, 0, none⟩) (Kd.V_mono HOz3.out (fun k_ hk => (⟨hk, hk.2.2.2.2.2.2.2⟩ : _ ∧ k_ ≠ gbz0))) (fun _ hk => hk.2) (.int .i64 tz14)) (fun _ hk => hk.2) (.int .i64 tz15)) (fun _ hk => hk.2) (.int .i64 tz17)) (fun _ hk => hk.2) (.slice Ao85 tz13.length co85)) (fun _ hk => ⟨hk.1.2.1, ⟨hk.1.2.2.1, ⟨hk.1.2.2.2.1, ⟨hk.1.1, ⟨hk.1.2.2.2.2.1, ⟨hk.1.2.2.2.2.2.1, ⟨hk.1.2.2.2.2.2.2.1, hk.1.2.2.2.2.2.2.2⟩⟩⟩⟩⟩⟩⟩)⟩
          have n5_ : Aside0 (Kd.R (Kd.int .i64) 3 ((((w81.setCell ⟨gbz0, 0, none⟩ (.int .i64 tz14)).setCell ⟨gbz0, 1, none⟩ (.int .i64 tz15)).setCell ⟨gbz0, 2, none⟩ (.int .i64 tz17)).setCell ⟨gbz0, 3, none⟩ (.slice Ao85 tz13.length co85)) w.heap.size (fun k_ => some k_ ≠ (.slice Ao10 tz1.length co10 : Value).ownBlock ∧ some k_ ≠ (.slice Ao16 tz2.length co16 : Value).ownBlock ∧ some k_ ≠ (.slice Ao23 tz3.length co23 : Value).ownBlock) (.slice Ao85 tz13.length co85) tz13) := ⟨by exact Kd.R_mono (Kd.R_far (p := ⟨gbz0, 3, none⟩) (Kd.R_far (p := ⟨gbz0, 2, none⟩) (Kd.R_far (p := ⟨gbz0, 1, none⟩) (Kd.R_far (p := ⟨gbz0, 0, none⟩) (Kd.R_types HOz4.out BKz3.out (by decide)) (fun _ hk => hk.2) (.int .i64 tz14)) (fun _ hk => hk.2) (.int .i64 tz15)) (fun _ hk => hk.2) (.int .i64 tz17)) (fun _ hk => hk.2) (.slice Ao85 tz13.length co85)) (fun _ hk => ⟨hk.1.1, ⟨hk.1.2.1, hk.1.2.2⟩⟩)⟩
          have n6_ : Aside0 (((((w81.setCell ⟨gbz0, 0, none⟩ (.int .i64 tz14)).setCell ⟨gbz0, 1, none⟩ (.int .i64 tz15)).setCell ⟨gbz0, 2, none⟩ (.int .i64 tz17)).setCell ⟨gbz0, 3, none⟩ (.slice Ao85 tz13.length co85)).heap[gbz4]? = some (.cells #[.int .i64 tz4, .int .i64 tz5, .int .i64 tz6, .slice Ao10 tz1.length co10] 27 (0, 0))) := ⟨by refine blk_far ?_ NBz0.out _; refine blk_far ?_ NBz0.out _; refine blk_far ?_ NBz0.out _; refine blk_far ?_ NBz0.out _; exact BKz0.out⟩
          have n7_ : Aside0 (((((w81.setCell ⟨gbz0, 0, none⟩ (.int .i64 tz14)).setCell ⟨gbz0, 1, none⟩ (.int .i64 tz15)).setCell ⟨gbz0, 2, none⟩ (.int .i64 tz17)).setCell ⟨gbz0, 3, none⟩ (.slice Ao85 tz13.length co85)).heap[gbz3]? = some (.cells #[.int .i64 tz9, .int .i64 tz10, .int .i64 tz11, .slice Ao16 tz2.length co16] 27 (0, 0))) := ⟨by refine blk_far ?_ NBz5.out _; refine blk_far ?_ NBz5.out _; refine blk_far ?_ NBz5.out _; refine blk_far ?_ NBz5.out _; exact BKz1.out⟩
          have n8_ : Aside0 (((((w81.setCell ⟨gbz0, 0, none⟩ (.int .i64 tz14)).setCell ⟨gbz0, 1, none⟩ (.int .i64 tz15)).setCell ⟨gbz0, 2, none⟩ (.int .i64 tz17)).setCell ⟨gbz0, 3, none⟩ (.slice Ao85 tz13.length co85)).heap[gbz1]? = some (.cells #[.int .i64 tz7, .int .i64 tz8, .int .i64 tz12, .slice Ao23 tz3.length co23] 27 (0, 0))) := ⟨by refine blk_far ?_ NBz6.out _; refine blk_far ?_ NBz6.out _; refine blk_far ?_ NBz6.out _; refine blk_far ?_ NBz6.out _; exact BKz2.out⟩
          have n9_ : Aside0 (((((w81.setCell ⟨gbz0, 0, none⟩ (.int .i64 tz14)).setCell ⟨gbz0, 1, none⟩ (.int .i64 tz15)).setCell ⟨gbz0, 2, none⟩ (.int .i64 tz17)).setCell ⟨gbz0, 3, none⟩ (.slice Ao85 tz13.length co85)).heap[gbz0]? = some (.cells #[.int .i64 tz14, .int .i64 tz15, .int .i64 tz17, .slice Ao85 tz13.length co85] 27 (0, 0))) := ⟨by refine blk_put (cs := #[.int .i64 tz14, .int .i64 tz15, .int .i64 tz17, .slice none 0 0]) ?_ 3 _ rfl; refine blk_put (cs := #[.int .i64 tz14, .int .i64 tz15, .int .i64 0, .slice none 0 0]) ?_ 2 _ rfl; refine blk_put (cs := #[.int .i64 tz14, .int .i64 0, .int .i64 0, .slice none 0 0]) ?_ 1 _ rfl; refine blk_put (cs := #[.int .i64 0, .int .i64 0, .int .i64 0, .slice none 0 0]) ?_ 0 _ rfl; exact BKz3.out⟩
          have n10_ : Aside0 (Below w.heap.size w ((((w81.setCell ⟨gbz0, 0, none⟩ (.int .i64 tz14)).setCell ⟨gbz0, 1, none⟩ (.int .i64 tz15)).setCell ⟨gbz0, 2, none⟩ (.int .i64 tz17)).setCell ⟨gbz0, 3, none⟩ (.slice Ao85 tz13.length co85))) := ⟨by repeat (with_reducible first | exact HB.out | refine below_set ?_ GEz1.out)⟩
          (try clear HO_4)
          (try clear HOz0)
          (try clear HOz1)
          (try clear HOz2)
          (try clear HOz3)
          (try clear HOz4)
          (try clear BKz0)
          (try clear BKz1)
          (try clear BKz2)
          (try clear BKz3)
          (try clear HB)
          generalize ((((w81.setCell ⟨gbz0, 0, none⟩ (.int .i64 tz14)).setCell ⟨gbz0, 1, none⟩ (.int .i64 tz15)).setCell ⟨gbz0, 2, none⟩ (.int .i64 tz17)).setCell ⟨gbz0, 3, none⟩ (.slice Ao85 tz13.length co85)) = w87 at n0_ n1_ n2_ n3_ n4_ n5_ n6_ n7_ n8_ n9_ n10_ ⊢
          revert n0_ n1_ n2_ n3_ n4_ n5_ n6_ n7_ n8_ n9_ n10_; intro HO_4 HOz0 HOz1 HOz2 HOz3 HOz4 BKz0 BKz1 BKz2 BKz3 HB
          replace HO_4 := mk (Kd.N_drew HO_4.out)
          replace HOz0 := mk (Kd.Q_drew HOz0.out)
          replace HOz1 := mk (Kd.Q_drew HOz1.out)
          replace HOz2 := mk (Kd.Q_drew HOz2.out)
          replace HOz3 := mk (Kd.V_drew HOz3.out)
          replace HOz4 := mk (Kd.R_drew HOz4.out)
          replace BKz0 := mk (blk_drew BKz0.out)
          replace BKz1 := mk (blk_drew BKz1.out)
          replace BKz2 := mk (blk_drew BKz2.out)
          replace BKz3 := mk (blk_drew BKz3.out)
          replace HB := mk (below_drew1 HB.out)
          have p19042 : 0 ≤ (ji67 : Int) := of_decide_eq_true (by (with_reducible assumption))
          have q19042 : ji67 < (tz0.length : Int) := of_decide_eq_true (by (with_reducible assumption))
          obtain ⟨ad19042, Az0, cz0, e19042, hx19042_0, hx19042_1, hx19042_2, hx19042_3, hx19042_4, hx19042_5, hx19042_6, hx19042_7, hx19042_8, hl19042_3, hi19042_3⟩ := at_T55 (Kd.N_reads' HO_4.out).2.2 ji67 p19042 q19042
          cases e19042
          obtain ⟨ce19042, hce19042, hMe19042, hcc19042⟩ := Kd.N_get HO_4.out z55 ji67 p19042 q19042
          obtain ⟨ua19042_3, uc19042_3, rfl, ul19042_3, ge19042_3⟩ := k55_openF hMe19042
          have hv19042_3 := hcc19042 3 _ rfl
          rw [add_field _ _ 3 (by omega)] at hv19042_3
          replace hv19042_3 := Option.some.inj (hv19042_3.symm.trans hx19042_3)
          injection hv19042_3 with hva_ hvn_ hvc_
          rw [hva_] at ge19042_3
          rw [hvc_] at ul19042_3
          have HL19042_3 := mk (show Kd.V (Kd.int .i64) 3 _ w.heap.size _ _ ((rd_T55 tz0 ji67).f0.f3) from Kd.V_mk ul19042_3 ge19042_3)
          clear hva_ hvn_ hvc_ ge19042_3 ul19042_3 hcc19042 hce19042
          have HR19042_3 := mk hi19042_3
          have HC19042_3 := mk hl19042_3
          clear hi19042_3 hl19042_3
          replace p19042 := eq_true p19042
          replace q19042 := eq_true q19042
          refine start_ (n := 16) (S := fun w' => w'.cell? ⟨gbz0, 0, none⟩ = some (.int .i64 tz14) ∧ w'.cell? ⟨gbz0, 1, none⟩ = some (.int .i64 tz15) ∧ w'.cell? ⟨gbz0, 2, none⟩ = some (.int .i64 tz17) ∧ w'.cell? ⟨gbz0, 3, none⟩ = some (.slice Ao85 tz13.length co85) ∧ w'.cell? ⟨gbz4, 0, none⟩ = some (.int .i64 tz4) ∧ w'.cell? ⟨gbz4, 1, none⟩ = some (.int .i64 tz5) ∧ w'.cell? ⟨gbz4, 2, none⟩ = some (.int .i64 tz6) ∧ w'.cell? ⟨gbz4, 3, none⟩ = some (.slice Ao10 tz1.length co10) ∧ w'.cell? (ad19042.add ((ji67).toNat * 9)) = some (.int .i64 ((rd_T55 tz0 ji67).f0.f0)) ∧ w'.cell? ⟨(ad19042.add ((ji67).toNat * 9)).block, (ad19042.add ((ji67).toNat * 9)).off + 1, none⟩ = some (.int .i64 ((rd_T55 tz0 ji67).f0.f1)) ∧ w'.cell? ⟨(ad19042.add ((ji67).toNat * 9)).block, (ad19042.add ((ji67).toNat * 9)).off + 2, none⟩ = some (.int .i64 ((rd_T55 tz0 ji67).f0.f2)) ∧ w'.cell? ⟨(ad19042.add ((ji67).toNat * 9)).block, (ad19042.add ((ji67).toNat * 9)).off + 3, none⟩ = some (.slice Az0 ((rd_T55 tz0 ji67).f0.f3).length cz0) ∧ w'.cell? ⟨(ad19042.add ((ji67).toNat * 9)).block, (ad19042.add ((ji67).toNat * 9)).off + 4, none⟩ = some (.int .i64 ((rd_T55 tz0 ji67).f1)) ∧ w'.cell? ⟨(ad19042.add ((ji67).toNat * 9)).block, (ad19042.add ((ji67).toNat * 9)).off + 5, none⟩ = some (.int .i64 ((rd_T55 tz0 ji67).f2)) ∧ w'.cell? ⟨(ad19042.add ((ji67).toNat * 9)).block, (ad19042.add ((ji67).toNat * 9)).off + 6, none⟩ = some (.int .i64 ((rd_T55 tz0 ji67).f3)) ∧ w'.cell? ⟨(ad19042.add ((ji67).toNat * 9)).block, (ad19042.add ((ji67).toNat * 9)).off + 7, none⟩ = some (.int .i64 ((rd_T55 tz0 ji67).f4)) ∧ w'.cell? ⟨(ad19042.add ((ji67).toNat * 9)).block, (ad19042.add ((ji67).toNat * 9)).off + 8, none⟩ = some (.bool ((rd_T55 tz0 ji67).f5))) (ds := []) #[false, false, false, false, false, false, false, false, false, false, false, false, false, false, false, false] (by kernel_rfl) rfl rfl ⟨blk_cell BKz3.out 0, blk_cell BKz3.out 1, blk_cell BKz3.out 2, blk_cell BKz3.out 3, blk_cell BKz0.out 0, blk_cell BKz0.out 1, blk_cell BKz0.out 2, blk_cell BKz0.out 3, hx19042_0, hx19042_1, hx19042_2, hx19042_3, hx19042_4, hx19042_5, hx19042_6, hx19042_7, hx19042_8⟩ (fun hHeld => ?_); refine with_tabW laws_FnRedrawDirty.tab10 laws_FnRedrawDirty.bits10 (fun HT_ HW_ => ?_)
          generalize w87.drew = w88 at HO_4 HOz0 HOz1 HOz2 HOz3 HOz4 BKz0 BKz1 BKz2 BKz3 HB HL19042_3 HR19042_3 hx19042_0 hx19042_1 hx19042_2 hx19042_3 hx19042_4 hx19042_5 hx19042_6 hx19042_7 hx19042_8 hHeld ⊢
          refine pure_ (i := 2) (N := some 74) (v := ?_) (a' := ?_) #[false, false, true, false, false, false, false, false, false, false, false, false, false, false, false, false] rfl rfl (any_of HT_.out (by kernel_rfl)) (fun _ _ _ h => h) (Or.inl ⟨by rfl, ?_⟩) ?_ ?_
          rotate_left
          ·intro w'
           go_simp
           with_reducible rfl
          rotate_left
          ·simp only [Act.put, List.setIfInBounds_toArray, List.set_cons_zero, List.set_cons_succ, i64_w, i32_w]
           rfl
          refine pure_ (i := 4) (N := some 76) (v := ?_) (a' := ?_) #[false, false, true, false, true, false, false, false, false, false, false, false, false, false, false, false] rfl rfl (any_of HT_.out (by kernel_rfl)) (fun _ _ _ h => h) (Or.inl ⟨by rfl, ?_⟩) ?_ ?_
          rotate_left
          ·intro w'
           go_simp
           with_reducible rfl
          rotate_left
          ·simp only [Act.put, List.setIfInBounds_toArray, List.set_cons_zero, List.set_cons_succ, i64_w, i32_w]
           rfl
          refine pure_ (i := 5) (N := some 77) (v := ?_) (a' := ?_) #[false, false, true, false, true, true, false, false, false, false, false, false, false, false, false, false] rfl rfl (any_of HT_.out (by kernel_rfl)) (fun _ _ _ h => h) (Or.inl ⟨by rfl, ?_⟩) ?_ ?_
          rotate_left
          ·intro w'
           go_simp
           with_reducible rfl
          rotate_left
          ·simp only [Act.put, List.setIfInBounds_toArray, List.set_cons_zero, List.set_cons_succ, i64_w, i32_w]
           rfl
          refine pure_ (i := 6) (N := some 78) (v := ?_) (a' := ?_) #[false, false, true, false, true, true, true, false, false, false, false, false, false, false, false, false] rfl rfl (any_of HT_.out (by kernel_rfl)) (fun _ _ _ h => h) (Or.inl ⟨by rfl, ?_⟩) ?_ ?_
          rotate_left
          ·intro w'
           go_simp
           with_reducible rfl
          rotate_left
          ·simp only [Act.put, List.setIfInBounds_toArray, List.set_cons_zero, List.set_cons_succ, i64_w, i32_w]
           rfl
          refine take_ (i := 0) (N := some 72) (v := ?_) (a' := ?_) #[true, false, true, false, true, true, true, false, false, false, false, false, false, false, false, false] rfl rfl (take_ofW HT_.out HW_.out (by kernel_rfl)) (fun _ _ _ h => h) (Or.inl ⟨by rfl, ?_⟩) hHeld ?_ ?_
          rotate_left
          ·rintro w' ⟨s0, s1, s2, s3, s4, s5, s6, s7, s8, s9, s10, s11, s12, s13, s14, s15, s16⟩
           go_simp
           with_reducible rfl
          rotate_left
          ·simp only [Act.put, List.setIfInBounds_toArray, List.set_cons_zero, List.set_cons_succ, i64_w, i32_w]
           rfl
          refine take_ (i := 1) (N := some 73) (v := ?_) (a' := ?_) #[true, true, true, false, true, true, true, false, false, false, false, false, false, false, false, false] rfl rfl (take_ofW HT_.out HW_.out (by kernel_rfl)) (fun _ _ _ h => h) (Or.inl ⟨by rfl, ?_⟩) hHeld ?_ ?_
          rotate_left
          ·rintro w' ⟨s0, s1, s2, s3, s4, s5, s6, s7, s8, s9, s10, s11, s12, s13, s14, s15, s16⟩
           go_simp
           with_reducible rfl
          rotate_left
          ·simp only [Act.put, List.setIfInBounds_toArray, List.set_cons_zero, List.set_cons_succ, i64_w, i32_w]
           rfl
          refine take_ (i := 3) (N := some 75) (v := ?_) (a' := ?_) #[true, true, true, true, true, true, true, false, false, false, false, false, false, false, false, false] rfl rfl (take_ofW HT_.out HW_.out (by kernel_rfl)) (fun _ _ _ h => h) (Or.inl ⟨by rfl, ?_⟩) hHeld ?_ ?_
          rotate_left
          ·rintro w' ⟨s0, s1, s2, s3, s4, s5, s6, s7, s8, s9, s10, s11, s12, s13, s14, s15, s16⟩
           go_simp
           with_reducible rfl
          rotate_left
          ·simp only [Act.put, List.setIfInBounds_toArray, List.set_cons_zero, List.set_cons_succ, i64_w, i32_w]
           rfl
          refine take_ (i := 7) (N := some 79) (v := ?_) (a' := ?_) #[true, true, true, true, true, true, true, true, false, false, false, false, false, false, false, false] rfl rfl (take_ofW HT_.out HW_.out (by kernel_rfl)) (fun _ _ _ h => h) (Or.inl ⟨by rfl, ?_⟩) hHeld ?_ ?_
          rotate_left
          ·rintro w' ⟨s0, s1, s2, s3, s4, s5, s6, s7, s8, s9, s10, s11, s12, s13, s14, s15, s16⟩
           go_simp
           with_reducible rfl
          rotate_left
          ·simp only [Act.put, List.setIfInBounds_toArray, List.set_cons_zero, List.set_cons_succ, i64_w, i32_w]
           rfl
          refine join_ (σ := Value × Value × Nat) 2 #[true, true, true, true, true, true, true, true, true, true, true, true, true, true, false, false] (fun s_ => [(80, s_.1), (81, .tuple #[.agg #[.int .i64 tz22, .int .i64 tz23, .int .i64 tz24, s_.2.1], .bool true]), (12, .pointer (some ⟨s_.2.2, 0, none⟩)), (71, .tuple #[.agg #[.int .i64 tz22, .int .i64 tz23, .int .i64 tz24, s_.2.1], .bool true]), (82, .agg #[.int .i64 tz22, .int .i64 tz23, .int .i64 tz24, s_.2.1]), (83, .bool true)]) (fun s_ w' => (w'.cell? ⟨gbz0, 0, none⟩ = some (.int .i64 tz14) ∧ w'.cell? ⟨gbz0, 1, none⟩ = some (.int .i64 tz15) ∧ w'.cell? ⟨gbz0, 2, none⟩ = some (.int .i64 tz17) ∧ w'.cell? ⟨gbz0, 3, none⟩ = some (.slice Ao85 tz13.length co85) ∧ w'.cell? ⟨gbz4, 0, none⟩ = some (.int .i64 tz4) ∧ w'.cell? ⟨gbz4, 1, none⟩ = some (.int .i64 tz5) ∧ w'.cell? ⟨gbz4, 2, none⟩ = some (.int .i64 tz6) ∧ w'.cell? ⟨gbz4, 3, none⟩ = some (.slice Ao10 tz1.length co10) ∧ w'.cell? (ad19042.add ((ji67).toNat * 9)) = some (.int .i64 ((rd_T55 tz0 ji67).f0.f0)) ∧ w'.cell? ⟨(ad19042.add ((ji67).toNat * 9)).block, (ad19042.add ((ji67).toNat * 9)).off + 1, none⟩ = some (.int .i64 ((rd_T55 tz0 ji67).f0.f1)) ∧ w'.cell? ⟨(ad19042.add ((ji67).toNat * 9)).block, (ad19042.add ((ji67).toNat * 9)).off + 2, none⟩ = some (.int .i64 ((rd_T55 tz0 ji67).f0.f2)) ∧ w'.cell? ⟨(ad19042.add ((ji67).toNat * 9)).block, (ad19042.add ((ji67).toNat * 9)).off + 3, none⟩ = some (.slice Az0 ((rd_T55 tz0 ji67).f0.f3).length cz0) ∧ w'.cell? ⟨(ad19042.add ((ji67).toNat * 9)).block, (ad19042.add ((ji67).toNat * 9)).off + 4, none⟩ = some (.int .i64 ((rd_T55 tz0 ji67).f1)) ∧ w'.cell? ⟨(ad19042.add ((ji67).toNat * 9)).block, (ad19042.add ((ji67).toNat * 9)).off + 5, none⟩ = some (.int .i64 ((rd_T55 tz0 ji67).f2)) ∧ w'.cell? ⟨(ad19042.add ((ji67).toNat * 9)).block, (ad19042.add ((ji67).toNat * 9)).off + 6, none⟩ = some (.int .i64 ((rd_T55 tz0 ji67).f3)) ∧ w'.cell? ⟨(ad19042.add ((ji67).toNat * 9)).block, (ad19042.add ((ji67).toNat * 9)).off + 7, none⟩ = some (.int .i64 ((rd_T55 tz0 ji67).f4)) ∧ w'.cell? ⟨(ad19042.add ((ji67).toNat * 9)).block, (ad19042.add ((ji67).toNat * 9)).off + 8, none⟩ = some (.bool ((rd_T55 tz0 ji67).f5))) ∧ (Kd.V (Kd.int .i64) 3 w' w.heap.size (fun k_ => some k_ ≠ (.slice Ao85 tz13.length co85 : Value).ownBlock ∧ some k_ ≠ (s_.1 : Value).ownBlock ∧ some k_ ≠ (s_.2.1 : Value).ownBlock ∧ some k_ ≠ (.slice Ao10 tz1.length co10 : Value).ownBlock ∧ some k_ ≠ (.slice Ao16 tz2.length co16 : Value).ownBlock ∧ some k_ ≠ (.slice Ao23 tz3.length co23 : Value).ownBlock ∧ some k_ ≠ (.slice (some ad19042) tz0.length co11 : Value).ownBlock ∧ k_ ≠ gbz4 ∧ k_ ≠ gbz3 ∧ k_ ≠ gbz1 ∧ k_ ≠ gbz0 ∧ k_ ≠ s_.2.2) (.slice Az0 ((rd_T55 tz0 ji67).f0.f3).length cz0) ((rd_T55 tz0 ji67).f0.f3)) ∧ (Kd.V k55 55 w' w.heap.size (fun k_ => some k_ ≠ (.slice Ao85 tz13.length co85 : Value).ownBlock ∧ some k_ ≠ (s_.1 : Value).ownBlock ∧ some k_ ≠ (s_.2.1 : Value).ownBlock ∧ some k_ ≠ (.slice Ao10 tz1.length co10 : Value).ownBlock ∧ some k_ ≠ (.slice Ao16 tz2.length co16 : Value).ownBlock ∧ some k_ ≠ (.slice Ao23 tz3.length co23 : Value).ownBlock ∧ k_ ≠ gbz4 ∧ k_ ≠ gbz3 ∧ k_ ≠ gbz1 ∧ k_ ≠ gbz0 ∧ k_ ≠ s_.2.2) (.slice (some ad19042) yz0.length co11) yz0) ∧ (Kd.R (Kd.int .i64) 3 w' w.heap.size (fun k_ => some k_ ≠ (s_.1 : Value).ownBlock ∧ some k_ ≠ (s_.2.1 : Value).ownBlock ∧ some k_ ≠ (.slice Ao10 tz1.length co10 : Value).ownBlock ∧ some k_ ≠ (.slice Ao16 tz2.length co16 : Value).ownBlock ∧ some k_ ≠ (.slice Ao23 tz3.length co23 : Value).ownBlock) (.slice Ao85 tz13.length co85) tz13) ∧ (Kd.R (Kd.int .i64) 3 w' w.heap.size (fun k_ => some k_ ≠ (.slice Ao85 tz13.length co85 : Value).ownBlock ∧ some k_ ≠ (s_.2.1 : Value).ownBlock ∧ some k_ ≠ (.slice Ao10 tz1.length co10 : Value).ownBlock ∧ some k_ ≠ (.slice Ao16 tz2.length co16 : Value).ownBlock ∧ some k_ ≠ (.slice Ao23 tz3.length co23 : Value).ownBlock) s_.1 tz19) ∧ (Kd.R (Kd.int .i64) 3 w' w.heap.size (fun k_ => some k_ ≠ (.slice Ao85 tz13.length co85 : Value).ownBlock ∧ some k_ ≠ (s_.1 : Value).ownBlock ∧ some k_ ≠ (.slice Ao10 tz1.length co10 : Value).ownBlock ∧ some k_ ≠ (.slice Ao16 tz2.length co16 : Value).ownBlock ∧ some k_ ≠ (.slice Ao23 tz3.length co23 : Value).ownBlock) s_.2.1 tz21) ∧ (Kd.Q (Kd.int .i64) 3 w' w.heap.size (fun k_ => some k_ ≠ (.slice Ao85 tz13.length co85 : Value).ownBlock ∧ some k_ ≠ (s_.1 : Value).ownBlock ∧ some k_ ≠ (s_.2.1 : Value).ownBlock ∧ some k_ ≠ (.slice Ao16 tz2.length co16 : Value).ownBlock ∧ some k_ ≠ (.slice Ao23 tz3.length co23 : Value).ownBlock) (.slice Ao10 tz1.length co10) tz1) ∧ (Kd.Q (Kd.int .i64) 3 w' w.heap.size (fun k_ => some k_ ≠ (.slice Ao85 tz13.length co85 : Value).ownBlock ∧ some k_ ≠ (s_.1 : Value).ownBlock ∧ some k_ ≠ (s_.2.1 : Value).ownBlock ∧ some k_ ≠ (.slice Ao10 tz1.length co10 : Value).ownBlock ∧ some k_ ≠ (.slice Ao23 tz3.length co23 : Value).ownBlock) (.slice Ao16 tz2.length co16) tz2) ∧ (Kd.Q (Kd.int .i64) 3 w' w.heap.size (fun k_ => some k_ ≠ (.slice Ao85 tz13.length co85 : Value).ownBlock ∧ some k_ ≠ (s_.1 : Value).ownBlock ∧ some k_ ≠ (s_.2.1 : Value).ownBlock ∧ some k_ ≠ (.slice Ao10 tz1.length co10 : Value).ownBlock ∧ some k_ ≠ (.slice Ao16 tz2.length co16 : Value).ownBlock) (.slice Ao23 tz3.length co23) tz3) ∧ (Kd.N k55 55 w' w.heap.size (fun k_ => some k_ ≠ (.slice Ao85 tz13.length co85 : Value).ownBlock ∧ some k_ ≠ (s_.1 : Value).ownBlock ∧ some k_ ≠ (s_.2.1 : Value).ownBlock ∧ some k_ ≠ (.slice Ao10 tz1.length co10 : Value).ownBlock ∧ some k_ ≠ (.slice Ao16 tz2.length co16 : Value).ownBlock ∧ some k_ ≠ (.slice Ao23 tz3.length co23 : Value).ownBlock ∧ k_ ≠ gbz4 ∧ k_ ≠ gbz3 ∧ k_ ≠ gbz1 ∧ k_ ≠ gbz0 ∧ k_ ≠ s_.2.2) (.slice (some ad19042) tz0.length co11) tz0) ∧ (w'.heap[gbz4]? = some (.cells #[.int .i64 tz4, .int .i64 tz5, .int .i64 tz6, .slice Ao10 tz1.length co10] 27 (0, 0))) ∧ (w'.heap[gbz3]? = some (.cells #[.int .i64 tz9, .int .i64 tz10, .int .i64 tz11, .slice Ao16 tz2.length co16] 27 (0, 0))) ∧ (w'.heap[gbz1]? = some (.cells #[.int .i64 tz7, .int .i64 tz8, .int .i64 tz12, .slice Ao23 tz3.length co23] 27 (0, 0))) ∧ (w'.heap[gbz0]? = some (.cells #[.int .i64 tz14, .int .i64 tz15, .int .i64 tz17, .slice Ao85 tz13.length co85] 27 (0, 0))) ∧ (w'.heap[s_.2.2]? = some (.cells #[.int .i64 0, .int .i64 0, .int .i64 0, .slice none 0 0] 27 (0, 0))) ∧ (w.heap.size ≤ s_.2.2) ∧ (w.heap.size ≤ s_.2.2) ∧ (gbz4 ≠ s_.2.2) ∧ (s_.2.2 ≠ gbz4) ∧ (gbz3 ≠ s_.2.2) ∧ (s_.2.2 ≠ gbz3) ∧ (gbz1 ≠ s_.2.2) ∧ (s_.2.2 ≠ gbz1) ∧ (gbz0 ≠ s_.2.2) ∧ (s_.2.2 ≠ gbz0) ∧ (Below w.heap.size w w')) ?_ ?_
          rotate_left
          ·intro hCont
           refine two_ (i := 8) (j := 13) (Ni := some 80) (Nj := some 12) #[true, true, true, true, true, true, true, true, true, false, false, false, false, false, false, false] #[true, true, true, true, true, true, true, true, false, false, false, false, false, true, false, false] rfl rfl rfl rfl (two_of HT_.out (by kernel_rfl)) (by decide) (by decide) (fun K hK => ?_) (fun K hK => ?_)
           ·skip
            refine goes_ Try.func42 (by kernel_rfl) rfl #[.agg #[.int .i64 tz4, .int .i64 tz5, .int .i64 tz6, .slice Ao10 tz1.length co10], .agg #[.int .i64 ((rd_T55 tz0 ji67).f0.f0), .int .i64 ((rd_T55 tz0 ji67).f0.f1), .int .i64 ((rd_T55 tz0 ji67).f0.f2), .slice Az0 ((rd_T55 tz0 ji67).f0.f3).length cz0, .int .i64 ((rd_T55 tz0 ji67).f1), .int .i64 ((rd_T55 tz0 ji67).f2), .int .i64 ((rd_T55 tz0 ji67).f3), .int .i64 ((rd_T55 tz0 ji67).f4), .bool ((rd_T55 tz0 ji67).f5)]] (by rfl) rfl rfl (by (try simp only [List.map_toArray, List.map_cons, List.map_nil]); rfl) ?_
            with_reducible refine (impl_DirtyTiles.calls kj5 tz4 tz5 tz6 _ _ tz1 ((rd_T55 tz0 ji67).f0.f0) ((rd_T55 tz0 ji67).f0.f1) ((rd_T55 tz0 ji67).f0.f2) _ _ ((rd_T55 tz0 ji67).f0.f3) ((rd_T55 tz0 ji67).f1) ((rd_T55 tz0 ji67).f2) ((rd_T55 tz0 ji67).f3) ((rd_T55 tz0 ji67).f4) ((rd_T55 tz0 ji67).f5) tz19 _ ?side1 ?side2 ?side3 ?side4 A72.out).mono ?_
            (case side1 => repeat (exact (Kd.Q_reads' HOz0.out).2.2))
            (case side2 => exact (Kd.Q_reads' HOz0.out).2.1)
            (case side3 => repeat (exact HR19042_3.out))
            (case side4 => exact HC19042_3.out)
            rintro e w89 ⟨vz1, rfl, ho0, hb⟩
            have HS8_ := (hb.cell (World.block_lt_of_cell? _ _ hHeld.2.2.2.2.2.2.2.2.1)).trans (hHeld.2.2.2.2.2.2.2.2.1)
            have HS9_ := (hb.cell (World.block_lt_of_cell? _ _ hHeld.2.2.2.2.2.2.2.2.2.1)).trans (hHeld.2.2.2.2.2.2.2.2.2.1)
            have HS10_ := (hb.cell (World.block_lt_of_cell? _ _ hHeld.2.2.2.2.2.2.2.2.2.2.1)).trans (hHeld.2.2.2.2.2.2.2.2.2.2.1)
            have HS11_ := (hb.cell (World.block_lt_of_cell? _ _ hHeld.2.2.2.2.2.2.2.2.2.2.2.1)).trans (hHeld.2.2.2.2.2.2.2.2.2.2.2.1)
            have HS12_ := (hb.cell (World.block_lt_of_cell? _ _ hHeld.2.2.2.2.2.2.2.2.2.2.2.2.1)).trans (hHeld.2.2.2.2.2.2.2.2.2.2.2.2.1)
            have HS13_ := (hb.cell (World.block_lt_of_cell? _ _ hHeld.2.2.2.2.2.2.2.2.2.2.2.2.2.1)).trans (hHeld.2.2.2.2.2.2.2.2.2.2.2.2.2.1)
            have HS14_ := (hb.cell (World.block_lt_of_cell? _ _ hHeld.2.2.2.2.2.2.2.2.2.2.2.2.2.2.1)).trans (hHeld.2.2.2.2.2.2.2.2.2.2.2.2.2.2.1)
            have HS15_ := (hb.cell (World.block_lt_of_cell? _ _ hHeld.2.2.2.2.2.2.2.2.2.2.2.2.2.2.2.1)).trans (hHeld.2.2.2.2.2.2.2.2.2.2.2.2.2.2.2.1)
            have HS16_ := (hb.cell (World.block_lt_of_cell? _ _ hHeld.2.2.2.2.2.2.2.2.2.2.2.2.2.2.2.2)).trans (hHeld.2.2.2.2.2.2.2.2.2.2.2.2.2.2.2.2)
            refine ⟨_, rfl, ?_⟩
            replace HO_4 := mk (Kd.N_elder' HO_4.out (Kd.R_base ho0) hb)
            replace HOz3 := mk (Kd.V_elder' HOz3.out (Kd.R_base ho0) hb)
            replace HL19042_3 := mk (Kd.V_elder' HL19042_3.out (Kd.R_base ho0) hb)
            have HOz5 := mk (Kd.R_lower (Kd.R_new' (Kd.R_new' (Kd.R_new' (Kd.R_new' ho0 (Kd.Q_lt HOz0.out)) (Kd.Q_lt HOz1.out)) (Kd.Q_lt HOz2.out)) (Kd.R_lt HOz4.out)) (below_size HB.out))
            replace HOz0 := mk (Kd.Q_elder' HOz0.out (Kd.R_base ho0) hb)
            replace HOz1 := mk (Kd.Q_elder' HOz1.out (Kd.R_base ho0) hb)
            replace HOz2 := mk (Kd.Q_elder' HOz2.out (Kd.R_base ho0) hb)
            replace HOz4 := mk (Kd.R_elder' HOz4.out (Kd.R_base ho0) hb)
            replace BKz0 := mk (blk_below BKz0.out hb)
            replace BKz1 := mk (blk_below BKz1.out hb)
            replace BKz2 := mk (blk_below BKz2.out hb)
            replace BKz3 := mk (blk_below BKz3.out hb)
            replace HR19042_3 := mk (Kd.C_below HR19042_3.out hb)
            replace HB := mk (below_step HB.out hb)
            (try clear hb)
            (try clear ho0)
            obtain ⟨Ao90, co90, eo90⟩ := Kd.R_slice HOz5.out
            (subst eo90)
            refine hK.out _ _ ⟨blk_cell BKz3.out 0, blk_cell BKz3.out 1, blk_cell BKz3.out 2, blk_cell BKz3.out 3, blk_cell BKz0.out 0, blk_cell BKz0.out 1, blk_cell BKz0.out 2, blk_cell BKz0.out 3, HS8_, HS9_, HS10_, HS11_, HS12_, HS13_, HS14_, HS15_, HS16_⟩ (fun hHeld => ?_)
            clear hK K
            refine norm_ (a' := ?_) ?_ ?_
            rotate_left
            ·show Act.put _ (some 80) _ = _
             simp only [Act.put, List.setIfInBounds_toArray, List.set_cons_zero, List.set_cons_succ, i64_w, i32_w]
             rfl
            refine two_ (i := 9) (j := 13) (Ni := some 81) (Nj := some 12) #[true, true, true, true, true, true, true, true, true, true, false, false, false, false, false, false] #[true, true, true, true, true, true, true, true, true, false, false, false, false, true, false, false] rfl rfl rfl rfl (two_of HT_.out (by kernel_rfl)) (by decide) (by decide) (fun K hK => ?_) (fun K hK => ?_)
            ·skip
             refine goes_ Try.func78 (by kernel_rfl) rfl #[.agg #[.int .i64 tz14, .int .i64 tz15, .int .i64 tz17, .slice Ao85 tz13.length co85], .agg #[.int .i64 tz4, .int .i64 tz5, .int .i64 tz6, .slice Ao10 tz1.length co10], .slice (some ad19042) tz0.length co11, .slice Ao90 tz19.length co90] (by rfl) rfl rfl (by (try simp only [List.map_toArray, List.map_cons, List.map_nil]); rfl) ?_
             with_reducible refine (impl_RedrawTiles.calls kj5 tz14 tz15 tz17 _ _ tz13 tz4 tz5 tz6 _ _ tz1 _ _ tz0 _ _ tz19 tz22 tz23 tz24 tz21 true _ ?side1 ?side2 ?side3 ?side4 ?side5 ?side6 ?side7 ?side8 A73.out).mono ?_
             (case side1 => repeat (exact (Kd.R_reads' HOz4.out).2.2))
             (case side2 => exact (Kd.R_reads' HOz4.out).2.1)
             (case side3 => repeat (exact (Kd.Q_reads' HOz0.out).2.2))
             (case side4 => exact (Kd.Q_reads' HOz0.out).2.1)
             (case side5 => repeat (exact (Kd.N_reads' HO_4.out).2.2))
             (case side6 => exact (Kd.N_reads' HO_4.out).2.1)
             (case side7 => repeat (exact (Kd.R_reads' HOz5.out).2.2))
             (case side8 => exact (Kd.R_reads' HOz5.out).2.1)
             rintro e w91 ⟨vz0, rfl, ho0, hb⟩
             have HS8_ := (hb.cell (World.block_lt_of_cell? _ _ hHeld.2.2.2.2.2.2.2.2.1)).trans (hHeld.2.2.2.2.2.2.2.2.1)
             have HS9_ := (hb.cell (World.block_lt_of_cell? _ _ hHeld.2.2.2.2.2.2.2.2.2.1)).trans (hHeld.2.2.2.2.2.2.2.2.2.1)
             have HS10_ := (hb.cell (World.block_lt_of_cell? _ _ hHeld.2.2.2.2.2.2.2.2.2.2.1)).trans (hHeld.2.2.2.2.2.2.2.2.2.2.1)
             have HS11_ := (hb.cell (World.block_lt_of_cell? _ _ hHeld.2.2.2.2.2.2.2.2.2.2.2.1)).trans (hHeld.2.2.2.2.2.2.2.2.2.2.2.1)
             have HS12_ := (hb.cell (World.block_lt_of_cell? _ _ hHeld.2.2.2.2.2.2.2.2.2.2.2.2.1)).trans (hHeld.2.2.2.2.2.2.2.2.2.2.2.2.1)
             have HS13_ := (hb.cell (World.block_lt_of_cell? _ _ hHeld.2.2.2.2.2.2.2.2.2.2.2.2.2.1)).trans (hHeld.2.2.2.2.2.2.2.2.2.2.2.2.2.1)
             have HS14_ := (hb.cell (World.block_lt_of_cell? _ _ hHeld.2.2.2.2.2.2.2.2.2.2.2.2.2.2.1)).trans (hHeld.2.2.2.2.2.2.2.2.2.2.2.2.2.2.1)
             have HS15_ := (hb.cell (World.block_lt_of_cell? _ _ hHeld.2.2.2.2.2.2.2.2.2.2.2.2.2.2.2.1)).trans (hHeld.2.2.2.2.2.2.2.2.2.2.2.2.2.2.2.1)
             have HS16_ := (hb.cell (World.block_lt_of_cell? _ _ hHeld.2.2.2.2.2.2.2.2.2.2.2.2.2.2.2.2)).trans (hHeld.2.2.2.2.2.2.2.2.2.2.2.2.2.2.2.2)
             refine ⟨_, rfl, ?_⟩
             replace HO_4 := mk (Kd.N_elder' HO_4.out (Kd.R_base ho0) hb)
             replace HOz3 := mk (Kd.V_elder' HOz3.out (Kd.R_base ho0) hb)
             replace HL19042_3 := mk (Kd.V_elder' HL19042_3.out (Kd.R_base ho0) hb)
             have HOz10 := mk (Kd.R_lower (Kd.R_new' (Kd.R_new' (Kd.R_new' (Kd.R_new' (Kd.R_new' ho0 (Kd.Q_lt HOz0.out)) (Kd.Q_lt HOz1.out)) (Kd.Q_lt HOz2.out)) (Kd.R_lt HOz4.out)) (Kd.R_lt HOz5.out)) (below_size HB.out))
             replace HOz0 := mk (Kd.Q_elder' HOz0.out (Kd.R_base ho0) hb)
             replace HOz1 := mk (Kd.Q_elder' HOz1.out (Kd.R_base ho0) hb)
             replace HOz2 := mk (Kd.Q_elder' HOz2.out (Kd.R_base ho0) hb)
             replace HOz4 := mk (Kd.R_elder' HOz4.out (Kd.R_base ho0) hb)
             replace HOz5 := mk (Kd.R_elder' HOz5.out (Kd.R_base ho0) hb)
             replace BKz0 := mk (blk_below BKz0.out hb)
             replace BKz1 := mk (blk_below BKz1.out hb)
             replace BKz2 := mk (blk_below BKz2.out hb)
             replace BKz3 := mk (blk_below BKz3.out hb)
             replace HR19042_3 := mk (Kd.C_below HR19042_3.out hb)
             replace HB := mk (below_step HB.out hb)
             (try clear hb)
             (try clear ho0)
             refine hK.out _ _ ⟨blk_cell BKz3.out 0, blk_cell BKz3.out 1, blk_cell BKz3.out 2, blk_cell BKz3.out 3, blk_cell BKz0.out 0, blk_cell BKz0.out 1, blk_cell BKz0.out 2, blk_cell BKz0.out 3, HS8_, HS9_, HS10_, HS11_, HS12_, HS13_, HS14_, HS15_, HS16_⟩ (fun hHeld => ?_)
             clear hK K
             refine norm_ (a' := ?_) ?_ ?_
             rotate_left
             ·show Act.put _ (some 81) _ = _
              simp only [Act.put, List.setIfInBounds_toArray, List.set_cons_zero, List.set_cons_succ, i64_w, i32_w]
              rfl
             refine pure_ (i := 10) (N := some 71) (v := ?_) (a' := ?_) #[true, true, true, true, true, true, true, true, true, true, true, false, false, false, false, false] rfl rfl (any_of HT_.out (by kernel_rfl)) (fun _ _ _ h => h) (Or.inl ⟨by rfl, ?_⟩) ?_ ?_
             rotate_left
             ·intro w'
              go_simp
              with_reducible rfl
             rotate_left
             ·simp only [Act.put, List.setIfInBounds_toArray, List.set_cons_zero, List.set_cons_succ, i64_w, i32_w]
              rfl
             refine pure_ (i := 11) (N := some 82) (v := ?_) (a' := ?_) #[true, true, true, true, true, true, true, true, true, true, true, true, false, false, false, false] rfl rfl (any_of HT_.out (by kernel_rfl)) (fun _ _ _ h => h) (Or.inl ⟨by rfl, ?_⟩) ?_ ?_
             rotate_left
             ·intro w'
              go_simp
              with_reducible rfl
             rotate_left
             ·simp only [Act.put, List.setIfInBounds_toArray, List.set_cons_zero, List.set_cons_succ, i64_w, i32_w]
              rfl
             refine pure_ (i := 12) (N := some 83) (v := ?_) (a' := ?_) #[true, true, true, true, true, true, true, true, true, true, true, true, true, false, false, false] rfl rfl (any_of HT_.out (by kernel_rfl)) (fun _ _ _ h => h) (Or.inl ⟨by rfl, ?_⟩) ?_ ?_
             rotate_left
             ·intro w'
              go_simp
              with_reducible rfl
             rotate_left
             ·simp only [Act.put, List.setIfInBounds_toArray, List.set_cons_zero, List.set_cons_succ, i64_w, i32_w]
              rfl
             refine one_ (i := 13) (N := some 12) #[true, true, true, true, true, true, true, true, true, true, true, true, true, true, false, false] rfl rfl (one_of HT_.out (by kernel_rfl)) (by decide) (fun K hK => ?_)
             refine box_step ?hg (N := 12) ?hd (cs := #[.int .i64 0, .int .i64 0, .int .i64 0, .slice none 0 0]) (t := 27) ?hr ?_; (case hd => rfl); (case hg => rfl); (case hr => (go_simp; done))
             intro gbz2 hg w92 hbox hb
             have HS8_ := (hb.cell (World.block_lt_of_cell? _ _ hHeld.2.2.2.2.2.2.2.2.1)).trans (hHeld.2.2.2.2.2.2.2.2.1)
             have HS9_ := (hb.cell (World.block_lt_of_cell? _ _ hHeld.2.2.2.2.2.2.2.2.2.1)).trans (hHeld.2.2.2.2.2.2.2.2.2.1)
             have HS10_ := (hb.cell (World.block_lt_of_cell? _ _ hHeld.2.2.2.2.2.2.2.2.2.2.1)).trans (hHeld.2.2.2.2.2.2.2.2.2.2.1)
             have HS11_ := (hb.cell (World.block_lt_of_cell? _ _ hHeld.2.2.2.2.2.2.2.2.2.2.2.1)).trans (hHeld.2.2.2.2.2.2.2.2.2.2.2.1)
             have HS12_ := (hb.cell (World.block_lt_of_cell? _ _ hHeld.2.2.2.2.2.2.2.2.2.2.2.2.1)).trans (hHeld.2.2.2.2.2.2.2.2.2.2.2.2.1)
             have HS13_ := (hb.cell (World.block_lt_of_cell? _ _ hHeld.2.2.2.2.2.2.2.2.2.2.2.2.2.1)).trans (hHeld.2.2.2.2.2.2.2.2.2.2.2.2.2.1)
             have HS14_ := (hb.cell (World.block_lt_of_cell? _ _ hHeld.2.2.2.2.2.2.2.2.2.2.2.2.2.2.1)).trans (hHeld.2.2.2.2.2.2.2.2.2.2.2.2.2.2.1)
             have HS15_ := (hb.cell (World.block_lt_of_cell? _ _ hHeld.2.2.2.2.2.2.2.2.2.2.2.2.2.2.2.1)).trans (hHeld.2.2.2.2.2.2.2.2.2.2.2.2.2.2.2.1)
             have HS16_ := (hb.cell (World.block_lt_of_cell? _ _ hHeld.2.2.2.2.2.2.2.2.2.2.2.2.2.2.2.2)).trans (hHeld.2.2.2.2.2.2.2.2.2.2.2.2.2.2.2.2)
             replace HO_4 := mk (Kd.N_below (Kd.N_elderB HO_4.out gbz2 (Nat.le_of_eq hg.symm)) hb)
             replace HOz0 := mk (Kd.Q_below HOz0.out hb)
             replace HOz1 := mk (Kd.Q_below HOz1.out hb)
             replace HOz2 := mk (Kd.Q_below HOz2.out hb)
             replace HOz3 := mk (Kd.V_below (Kd.V_elderB HOz3.out gbz2 (Nat.le_of_eq hg.symm)) hb)
             replace HOz4 := mk (Kd.R_below HOz4.out hb)
             replace HL19042_3 := mk (Kd.V_below (Kd.V_elderB HL19042_3.out gbz2 (Nat.le_of_eq hg.symm)) hb)
             replace HOz5 := mk (Kd.R_below HOz5.out hb)
             replace HOz10 := mk (Kd.R_below HOz10.out hb)
             replace HR19042_3 := mk (Kd.C_below HR19042_3.out hb)
             have BKz4 := mk (hbox)
             have GWz0 := mk ((by rw [hg]; exact (below_size HB.out) : w.heap.size ≤ gbz2))
             have GEz0 := mk ((by rw [hg]; exact (below_size HB.out) : w.heap.size ≤ gbz2))
             replace HB := mk (below_step HB.out hb)
             have NBz2 := mk ((by rw [hg]; exact Nat.ne_of_lt (blk_lt BKz0.out) : gbz4 ≠ gbz2))
             replace BKz0 := mk (blk_below BKz0.out hb)
             have NBz11 := mk NBz2.out.symm
             have NBz7 := mk ((by rw [hg]; exact Nat.ne_of_lt (blk_lt BKz1.out) : gbz3 ≠ gbz2))
             replace BKz1 := mk (blk_below BKz1.out hb)
             have NBz12 := mk NBz7.out.symm
             have NBz8 := mk ((by rw [hg]; exact Nat.ne_of_lt (blk_lt BKz2.out) : gbz1 ≠ gbz2))
             replace BKz2 := mk (blk_below BKz2.out hb)
             have NBz9 := mk NBz8.out.symm
             have NBz1 := mk ((by rw [hg]; exact Nat.ne_of_lt (blk_lt BKz3.out) : gbz0 ≠ gbz2))
             replace BKz3 := mk (blk_below BKz3.out hb)
             have NBz10 := mk NBz1.out.symm
             clear hb hbox hg
             refine hK.out _ _ ⟨blk_cell BKz3.out 0, blk_cell BKz3.out 1, blk_cell BKz3.out 2, blk_cell BKz3.out 3, blk_cell BKz0.out 0, blk_cell BKz0.out 1, blk_cell BKz0.out 2, blk_cell BKz0.out 3, HS8_, HS9_, HS10_, HS11_, HS12_, HS13_, HS14_, HS15_, HS16_⟩ (fun hHeld => ?_)
             clear hK K
             refine norm_ (a' := ?_) ?_ ?_
             rotate_left
             ·show Act.put _ (some 12) _ = _
              simp only [Act.put, List.setIfInBounds_toArray, List.set_cons_zero, List.set_cons_succ, i64_w, i32_w]
              rfl
             exact norm_ (by simp only [putAll, Act.put, List.setIfInBounds_toArray, List.set_cons_zero, List.set_cons_succ]) (hCont (.slice Ao90 tz19.length co90, vz0, gbz2) _ ⟨hHeld, (by exact Kd.V_mono HL19042_3.out (fun _ hk => ⟨hk.1.1.1.1.2.2.2.1, ⟨hk.1.1.2, ⟨hk.1.2, ⟨hk.1.1.1.1.1, ⟨hk.1.1.1.1.2.1, ⟨hk.1.1.1.1.2.2.1, ⟨hk.1.1.1.2, ⟨hk.1.1.1.1.2.2.2.2.1, ⟨hk.1.1.1.1.2.2.2.2.2.1, ⟨hk.1.1.1.1.2.2.2.2.2.2.1, ⟨hk.1.1.1.1.2.2.2.2.2.2.2, hk.2⟩⟩⟩⟩⟩⟩⟩⟩⟩⟩⟩)), (by exact Kd.V_mono HOz3.out (fun _ hk => ⟨hk.1.1.1.2.2.2.1, ⟨hk.1.1.2, ⟨hk.1.2, ⟨hk.1.1.1.1, ⟨hk.1.1.1.2.1, ⟨hk.1.1.1.2.2.1, ⟨hk.1.1.1.2.2.2.2.1, ⟨hk.1.1.1.2.2.2.2.2.1, ⟨hk.1.1.1.2.2.2.2.2.2.1, ⟨hk.1.1.1.2.2.2.2.2.2.2, hk.2⟩⟩⟩⟩⟩⟩⟩⟩⟩⟩)), (by exact Kd.R_mono HOz4.out (fun _ hk => ⟨hk.1.2, ⟨hk.2, ⟨hk.1.1.1, ⟨hk.1.1.2.1, hk.1.1.2.2⟩⟩⟩⟩)), (by exact Kd.R_mono HOz5.out (fun _ hk => ⟨hk.1.2, ⟨hk.2, ⟨hk.1.1.1.1.2, ⟨hk.1.1.1.2, hk.1.1.2⟩⟩⟩⟩)), (by exact Kd.R_mono HOz10.out (fun _ hk => ⟨hk.1.2, ⟨hk.2, ⟨hk.1.1.1.1.2, ⟨hk.1.1.1.2, hk.1.1.2⟩⟩⟩⟩)), (by exact Kd.Q_mono HOz0.out (fun _ hk => ⟨hk.1.1.2.2, ⟨hk.1.2, ⟨hk.2, ⟨hk.1.1.1, hk.1.1.2.1⟩⟩⟩⟩)), (by exact Kd.Q_mono HOz1.out (fun _ hk => ⟨hk.1.1.2.2, ⟨hk.1.2, ⟨hk.2, ⟨hk.1.1.1, hk.1.1.2.1⟩⟩⟩⟩)), (by exact Kd.Q_mono HOz2.out (fun _ hk => ⟨hk.1.1.2.2, ⟨hk.1.2, ⟨hk.2, ⟨hk.1.1.1, hk.1.1.2.1⟩⟩⟩⟩)), (by exact Kd.N_mono HO_4.out (fun _ hk => ⟨hk.1.1.1.2.2.2.1, ⟨hk.1.1.2, ⟨hk.1.2, ⟨hk.1.1.1.1, ⟨hk.1.1.1.2.1, ⟨hk.1.1.1.2.2.1, ⟨hk.1.1.1.2.2.2.2.1, ⟨hk.1.1.1.2.2.2.2.2.1, ⟨hk.1.1.1.2.2.2.2.2.2.1, ⟨hk.1.1.1.2.2.2.2.2.2.2, hk.2⟩⟩⟩⟩⟩⟩⟩⟩⟩⟩)), BKz0.out, BKz1.out, BKz2.out, BKz3.out, BKz4.out, GWz0.out, GEz0.out, NBz2.out, NBz11.out, NBz7.out, NBz12.out, NBz8.out, NBz9.out, NBz1.out, NBz10.out, (HB.out)⟩)
            ·skip
             refine box_step ?hg (N := 12) ?hd (cs := #[.int .i64 0, .int .i64 0, .int .i64 0, .slice none 0 0]) (t := 27) ?hr ?_; (case hd => rfl); (case hg => rfl); (case hr => (go_simp; done))
             intro gbz2 hg w90 hbox hb
             have HS8_ := (hb.cell (World.block_lt_of_cell? _ _ hHeld.2.2.2.2.2.2.2.2.1)).trans (hHeld.2.2.2.2.2.2.2.2.1)
             have HS9_ := (hb.cell (World.block_lt_of_cell? _ _ hHeld.2.2.2.2.2.2.2.2.2.1)).trans (hHeld.2.2.2.2.2.2.2.2.2.1)
             have HS10_ := (hb.cell (World.block_lt_of_cell? _ _ hHeld.2.2.2.2.2.2.2.2.2.2.1)).trans (hHeld.2.2.2.2.2.2.2.2.2.2.1)
             have HS11_ := (hb.cell (World.block_lt_of_cell? _ _ hHeld.2.2.2.2.2.2.2.2.2.2.2.1)).trans (hHeld.2.2.2.2.2.2.2.2.2.2.2.1)
             have HS12_ := (hb.cell (World.block_lt_of_cell? _ _ hHeld.2.2.2.2.2.2.2.2.2.2.2.2.1)).trans (hHeld.2.2.2.2.2.2.2.2.2.2.2.2.1)
             have HS13_ := (hb.cell (World.block_lt_of_cell? _ _ hHeld.2.2.2.2.2.2.2.2.2.2.2.2.2.1)).trans (hHeld.2.2.2.2.2.2.2.2.2.2.2.2.2.1)
             have HS14_ := (hb.cell (World.block_lt_of_cell? _ _ hHeld.2.2.2.2.2.2.2.2.2.2.2.2.2.2.1)).trans (hHeld.2.2.2.2.2.2.2.2.2.2.2.2.2.2.1)
             have HS15_ := (hb.cell (World.block_lt_of_cell? _ _ hHeld.2.2.2.2.2.2.2.2.2.2.2.2.2.2.2.1)).trans (hHeld.2.2.2.2.2.2.2.2.2.2.2.2.2.2.2.1)
             have HS16_ := (hb.cell (World.block_lt_of_cell? _ _ hHeld.2.2.2.2.2.2.2.2.2.2.2.2.2.2.2.2)).trans (hHeld.2.2.2.2.2.2.2.2.2.2.2.2.2.2.2.2)
             replace HO_4 := mk (Kd.N_below (Kd.N_elderB HO_4.out gbz2 (Nat.le_of_eq hg.symm)) hb)
             replace HOz0 := mk (Kd.Q_below HOz0.out hb)
             replace HOz1 := mk (Kd.Q_below HOz1.out hb)
             replace HOz2 := mk (Kd.Q_below HOz2.out hb)
             replace HOz3 := mk (Kd.V_below (Kd.V_elderB HOz3.out gbz2 (Nat.le_of_eq hg.symm)) hb)
             replace HOz4 := mk (Kd.R_below HOz4.out hb)
             replace HL19042_3 := mk (Kd.V_below (Kd.V_elderB HL19042_3.out gbz2 (Nat.le_of_eq hg.symm)) hb)
             replace HOz5 := mk (Kd.R_below HOz5.out hb)
             replace HR19042_3 := mk (Kd.C_below HR19042_3.out hb)
             have BKz4 := mk (hbox)
             have GWz0 := mk ((by rw [hg]; exact (below_size HB.out) : w.heap.size ≤ gbz2))
             have GEz0 := mk ((by rw [hg]; exact (below_size HB.out) : w.heap.size ≤ gbz2))
             replace HB := mk (below_step HB.out hb)
             have NBz2 := mk ((by rw [hg]; exact Nat.ne_of_lt (blk_lt BKz0.out) : gbz4 ≠ gbz2))
             replace BKz0 := mk (blk_below BKz0.out hb)
             have NBz11 := mk NBz2.out.symm
             have NBz7 := mk ((by rw [hg]; exact Nat.ne_of_lt (blk_lt BKz1.out) : gbz3 ≠ gbz2))
             replace BKz1 := mk (blk_below BKz1.out hb)
             have NBz12 := mk NBz7.out.symm
             have NBz8 := mk ((by rw [hg]; exact Nat.ne_of_lt (blk_lt BKz2.out) : gbz1 ≠ gbz2))
             replace BKz2 := mk (blk_below BKz2.out hb)
             have NBz9 := mk NBz8.out.symm
             have NBz1 := mk ((by rw [hg]; exact Nat.ne_of_lt (blk_lt BKz3.out) : gbz0 ≠ gbz2))
             replace BKz3 := mk (blk_below BKz3.out hb)
             have NBz10 := mk NBz1.out.symm
             clear hb hbox hg
             obtain ⟨Ao91, co91, eo91⟩ := Kd.R_slice HOz5.out
             (injection eo91 with f1_ f2_ f3_; have f4_ := f1_.symm; have f5_ := f3_.symm; clear f1_ f2_ f3_; subst f4_; subst f5_)
             refine hK.out _ _ ⟨blk_cell BKz3.out 0, blk_cell BKz3.out 1, blk_cell BKz3.out 2, blk_cell BKz3.out 3, blk_cell BKz0.out 0, blk_cell BKz0.out 1, blk_cell BKz0.out 2, blk_cell BKz0.out 3, HS8_, HS9_, HS10_, HS11_, HS12_, HS13_, HS14_, HS15_, HS16_⟩ (fun hHeld => ?_)
             clear hK K
             refine norm_ (a' := ?_) ?_ ?_
             rotate_left
             ·show Act.put _ (some 12) _ = _
              simp only [Act.put, List.setIfInBounds_toArray, List.set_cons_zero, List.set_cons_succ, i64_w, i32_w]
              rfl
             refine one_ (i := 9) (N := some 81) #[true, true, true, true, true, true, true, true, true, true, false, false, false, true, false, false] rfl rfl (one_of HT_.out (by kernel_rfl)) (by decide) (fun K hK => ?_)
             refine goes_ Try.func78 (by kernel_rfl) rfl #[.agg #[.int .i64 tz14, .int .i64 tz15, .int .i64 tz17, .slice Ao85 tz13.length co85], .agg #[.int .i64 tz4, .int .i64 tz5, .int .i64 tz6, .slice Ao10 tz1.length co10], .slice (some ad19042) tz0.length co11, .slice Ao91 tz19.length co91] (by rfl) rfl rfl (by (try simp only [List.map_toArray, List.map_cons, List.map_nil]); rfl) ?_
             with_reducible refine (impl_RedrawTiles.calls kj5 tz14 tz15 tz17 _ _ tz13 tz4 tz5 tz6 _ _ tz1 _ _ tz0 _ _ tz19 tz22 tz23 tz24 tz21 true _ ?side1 ?side2 ?side3 ?side4 ?side5 ?side6 ?side7 ?side8 A73.out).mono ?_
             (case side1 => repeat (exact (Kd.R_reads' HOz4.out).2.2))
             (case side2 => exact (Kd.R_reads' HOz4.out).2.1)
             (case side3 => repeat (exact (Kd.Q_reads' HOz0.out).2.2))
             (case side4 => exact (Kd.Q_reads' HOz0.out).2.1)
             (case side5 => repeat (exact (Kd.N_reads' HO_4.out).2.2))
             (case side6 => exact (Kd.N_reads' HO_4.out).2.1)
             (case side7 => repeat (exact (Kd.R_reads' HOz5.out).2.2))
             (case side8 => exact (Kd.R_reads' HOz5.out).2.1)
             rintro e w92 ⟨vz0, rfl, ho0, hb⟩
             have HS8_ := (hb.cell (World.block_lt_of_cell? _ _ hHeld.2.2.2.2.2.2.2.2.1)).trans (hHeld.2.2.2.2.2.2.2.2.1)
             have HS9_ := (hb.cell (World.block_lt_of_cell? _ _ hHeld.2.2.2.2.2.2.2.2.2.1)).trans (hHeld.2.2.2.2.2.2.2.2.2.1)
             have HS10_ := (hb.cell (World.block_lt_of_cell? _ _ hHeld.2.2.2.2.2.2.2.2.2.2.1)).trans (hHeld.2.2.2.2.2.2.2.2.2.2.1)
             have HS11_ := (hb.cell (World.block_lt_of_cell? _ _ hHeld.2.2.2.2.2.2.2.2.2.2.2.1)).trans (hHeld.2.2.2.2.2.2.2.2.2.2.2.1)
             have HS12_ := (hb.cell (World.block_lt_of_cell? _ _ hHeld.2.2.2.2.2.2.2.2.2.2.2.2.1)).trans (hHeld.2.2.2.2.2.2.2.2.2.2.2.2.1)
             have HS13_ := (hb.cell (World.block_lt_of_cell? _ _ hHeld.2.2.2.2.2.2.2.2.2.2.2.2.2.1)).trans (hHeld.2.2.2.2.2.2.2.2.2.2.2.2.2.1)
             have HS14_ := (hb.cell (World.block_lt_of_cell? _ _ hHeld.2.2.2.2.2.2.2.2.2.2.2.2.2.2.1)).trans (hHeld.2.2.2.2.2.2.2.2.2.2.2.2.2.2.1)
             have HS15_ := (hb.cell (World.block_lt_of_cell? _ _ hHeld.2.2.2.2.2.2.2.2.2.2.2.2.2.2.2.1)).trans (hHeld.2.2.2.2.2.2.2.2.2.2.2.2.2.2.2.1)
             have HS16_ := (hb.cell (World.block_lt_of_cell? _ _ hHeld.2.2.2.2.2.2.2.2.2.2.2.2.2.2.2.2)).trans (hHeld.2.2.2.2.2.2.2.2.2.2.2.2.2.2.2.2)
             refine ⟨_, rfl, ?_⟩
             replace HO_4 := mk (Kd.N_elder' HO_4.out (Kd.R_base ho0) hb)
             replace HOz3 := mk (Kd.V_elder' HOz3.out (Kd.R_base ho0) hb)
             replace HL19042_3 := mk (Kd.V_elder' HL19042_3.out (Kd.R_base ho0) hb)
             have HOz10 := mk (Kd.R_lower (Kd.R_new' (Kd.R_new' (Kd.R_new' (Kd.R_new' (Kd.R_new' ho0 (Kd.Q_lt HOz0.out)) (Kd.Q_lt HOz1.out)) (Kd.Q_lt HOz2.out)) (Kd.R_lt HOz4.out)) (Kd.R_lt HOz5.out)) (below_size HB.out))
             replace HOz0 := mk (Kd.Q_elder' HOz0.out (Kd.R_base ho0) hb)
             replace HOz1 := mk (Kd.Q_elder' HOz1.out (Kd.R_base ho0) hb)
             replace HOz2 := mk (Kd.Q_elder' HOz2.out (Kd.R_base ho0) hb)
             replace HOz4 := mk (Kd.R_elder' HOz4.out (Kd.R_base ho0) hb)
             replace HOz5 := mk (Kd.R_elder' HOz5.out (Kd.R_base ho0) hb)
             replace BKz0 := mk (blk_below BKz0.out hb)
             replace BKz1 := mk (blk_below BKz1.out hb)
             replace BKz2 := mk (blk_below BKz2.out hb)
             replace BKz3 := mk (blk_below BKz3.out hb)
             replace HR19042_3 := mk (Kd.C_below HR19042_3.out hb)
             replace BKz4 := mk (blk_below BKz4.out hb)
             replace HB := mk (below_step HB.out hb)
             (try clear hb)
             (try clear ho0)
             refine hK.out _ _ ⟨blk_cell BKz3.out 0, blk_cell BKz3.out 1, blk_cell BKz3.out 2, blk_cell BKz3.out 3, blk_cell BKz0.out 0, blk_cell BKz0.out 1, blk_cell BKz0.out 2, blk_cell BKz0.out 3, HS8_, HS9_, HS10_, HS11_, HS12_, HS13_, HS14_, HS15_, HS16_⟩ (fun hHeld => ?_)
             clear hK K
             refine norm_ (a' := ?_) ?_ ?_
             rotate_left
             ·show Act.put _ (some 81) _ = _
              simp only [Act.put, List.setIfInBounds_toArray, List.set_cons_zero, List.set_cons_succ, i64_w, i32_w]
              rfl
             refine pure_ (i := 10) (N := some 71) (v := ?_) (a' := ?_) #[true, true, true, true, true, true, true, true, true, true, true, false, false, true, false, false] rfl rfl (any_of HT_.out (by kernel_rfl)) (fun _ _ _ h => h) (Or.inl ⟨by rfl, ?_⟩) ?_ ?_
             rotate_left
             ·intro w'
              go_simp
              with_reducible rfl
             rotate_left
             ·simp only [Act.put, List.setIfInBounds_toArray, List.set_cons_zero, List.set_cons_succ, i64_w, i32_w]
              rfl
             refine pure_ (i := 11) (N := some 82) (v := ?_) (a' := ?_) #[true, true, true, true, true, true, true, true, true, true, true, true, false, true, false, false] rfl rfl (any_of HT_.out (by kernel_rfl)) (fun _ _ _ h => h) (Or.inl ⟨by rfl, ?_⟩) ?_ ?_
             rotate_left
             ·intro w'
              go_simp
              with_reducible rfl
             rotate_left
             ·simp only [Act.put, List.setIfInBounds_toArray, List.set_cons_zero, List.set_cons_succ, i64_w, i32_w]
              rfl
             refine pure_ (i := 12) (N := some 83) (v := ?_) (a' := ?_) #[true, true, true, true, true, true, true, true, true, true, true, true, true, true, false, false] rfl rfl (any_of HT_.out (by kernel_rfl)) (fun _ _ _ h => h) (Or.inl ⟨by rfl, ?_⟩) ?_ ?_
             rotate_left
             ·intro w'
              go_simp
              with_reducible rfl
             rotate_left
             ·simp only [Act.put, List.setIfInBounds_toArray, List.set_cons_zero, List.set_cons_succ, i64_w, i32_w]
              rfl
             exact norm_ (by simp only [putAll, Act.put, List.setIfInBounds_toArray, List.set_cons_zero, List.set_cons_succ]) (hCont (.slice Ao91 tz19.length co91, vz0, gbz2) _ ⟨hHeld, (by exact Kd.V_mono HL19042_3.out (fun _ hk => ⟨hk.1.1.1.1.2.2.2.1, ⟨hk.1.1.2, ⟨hk.2, ⟨hk.1.1.1.1.1, ⟨hk.1.1.1.1.2.1, ⟨hk.1.1.1.1.2.2.1, ⟨hk.1.1.1.2, ⟨hk.1.1.1.1.2.2.2.2.1, ⟨hk.1.1.1.1.2.2.2.2.2.1, ⟨hk.1.1.1.1.2.2.2.2.2.2.1, ⟨hk.1.1.1.1.2.2.2.2.2.2.2, hk.1.2⟩⟩⟩⟩⟩⟩⟩⟩⟩⟩⟩)), (by exact Kd.V_mono HOz3.out (fun _ hk => ⟨hk.1.1.1.2.2.2.1, ⟨hk.1.1.2, ⟨hk.2, ⟨hk.1.1.1.1, ⟨hk.1.1.1.2.1, ⟨hk.1.1.1.2.2.1, ⟨hk.1.1.1.2.2.2.2.1, ⟨hk.1.1.1.2.2.2.2.2.1, ⟨hk.1.1.1.2.2.2.2.2.2.1, ⟨hk.1.1.1.2.2.2.2.2.2.2, hk.1.2⟩⟩⟩⟩⟩⟩⟩⟩⟩⟩)), (by exact Kd.R_mono HOz4.out (fun _ hk => ⟨hk.1.2, ⟨hk.2, ⟨hk.1.1.1, ⟨hk.1.1.2.1, hk.1.1.2.2⟩⟩⟩⟩)), (by exact Kd.R_mono HOz5.out (fun _ hk => ⟨hk.1.2, ⟨hk.2, ⟨hk.1.1.1.1.2, ⟨hk.1.1.1.2, hk.1.1.2⟩⟩⟩⟩)), (by exact Kd.R_mono HOz10.out (fun _ hk => ⟨hk.1.2, ⟨hk.2, ⟨hk.1.1.1.1.2, ⟨hk.1.1.1.2, hk.1.1.2⟩⟩⟩⟩)), (by exact Kd.Q_mono HOz0.out (fun _ hk => ⟨hk.1.1.2.2, ⟨hk.1.2, ⟨hk.2, ⟨hk.1.1.1, hk.1.1.2.1⟩⟩⟩⟩)), (by exact Kd.Q_mono HOz1.out (fun _ hk => ⟨hk.1.1.2.2, ⟨hk.1.2, ⟨hk.2, ⟨hk.1.1.1, hk.1.1.2.1⟩⟩⟩⟩)), (by exact Kd.Q_mono HOz2.out (fun _ hk => ⟨hk.1.1.2.2, ⟨hk.1.2, ⟨hk.2, ⟨hk.1.1.1, hk.1.1.2.1⟩⟩⟩⟩)), (by exact Kd.N_mono HO_4.out (fun _ hk => ⟨hk.1.1.1.2.2.2.1, ⟨hk.1.1.2, ⟨hk.2, ⟨hk.1.1.1.1, ⟨hk.1.1.1.2.1, ⟨hk.1.1.1.2.2.1, ⟨hk.1.1.1.2.2.2.2.1, ⟨hk.1.1.1.2.2.2.2.2.1, ⟨hk.1.1.1.2.2.2.2.2.2.1, ⟨hk.1.1.1.2.2.2.2.2.2.2, hk.1.2⟩⟩⟩⟩⟩⟩⟩⟩⟩⟩)), BKz0.out, BKz1.out, BKz2.out, BKz3.out, BKz4.out, GWz0.out, GEz0.out, NBz2.out, NBz11.out, NBz7.out, NBz12.out, NBz8.out, NBz9.out, NBz1.out, NBz10.out, (HB.out)⟩)
           ·skip
            refine box_step ?hg (N := 12) ?hd (cs := #[.int .i64 0, .int .i64 0, .int .i64 0, .slice none 0 0]) (t := 27) ?hr ?_; (case hd => rfl); (case hg => rfl); (case hr => (go_simp; done))
            intro gbz2 hg w89 hbox hb
            have HS8_ := (hb.cell (World.block_lt_of_cell? _ _ hHeld.2.2.2.2.2.2.2.2.1)).trans (hHeld.2.2.2.2.2.2.2.2.1)
            have HS9_ := (hb.cell (World.block_lt_of_cell? _ _ hHeld.2.2.2.2.2.2.2.2.2.1)).trans (hHeld.2.2.2.2.2.2.2.2.2.1)
            have HS10_ := (hb.cell (World.block_lt_of_cell? _ _ hHeld.2.2.2.2.2.2.2.2.2.2.1)).trans (hHeld.2.2.2.2.2.2.2.2.2.2.1)
            have HS11_ := (hb.cell (World.block_lt_of_cell? _ _ hHeld.2.2.2.2.2.2.2.2.2.2.2.1)).trans (hHeld.2.2.2.2.2.2.2.2.2.2.2.1)
            have HS12_ := (hb.cell (World.block_lt_of_cell? _ _ hHeld.2.2.2.2.2.2.2.2.2.2.2.2.1)).trans (hHeld.2.2.2.2.2.2.2.2.2.2.2.2.1)
            have HS13_ := (hb.cell (World.block_lt_of_cell? _ _ hHeld.2.2.2.2.2.2.2.2.2.2.2.2.2.1)).trans (hHeld.2.2.2.2.2.2.2.2.2.2.2.2.2.1)
            have HS14_ := (hb.cell (World.block_lt_of_cell? _ _ hHeld.2.2.2.2.2.2.2.2.2.2.2.2.2.2.1)).trans (hHeld.2.2.2.2.2.2.2.2.2.2.2.2.2.2.1)
            have HS15_ := (hb.cell (World.block_lt_of_cell? _ _ hHeld.2.2.2.2.2.2.2.2.2.2.2.2.2.2.2.1)).trans (hHeld.2.2.2.2.2.2.2.2.2.2.2.2.2.2.2.1)
            have HS16_ := (hb.cell (World.block_lt_of_cell? _ _ hHeld.2.2.2.2.2.2.2.2.2.2.2.2.2.2.2.2)).trans (hHeld.2.2.2.2.2.2.2.2.2.2.2.2.2.2.2.2)
            replace HO_4 := mk (Kd.N_below (Kd.N_elderB HO_4.out gbz2 (Nat.le_of_eq hg.symm)) hb)
            replace HOz0 := mk (Kd.Q_below HOz0.out hb)
            replace HOz1 := mk (Kd.Q_below HOz1.out hb)
            replace HOz2 := mk (Kd.Q_below HOz2.out hb)
            replace HOz3 := mk (Kd.V_below (Kd.V_elderB HOz3.out gbz2 (Nat.le_of_eq hg.symm)) hb)
            replace HOz4 := mk (Kd.R_below HOz4.out hb)
            replace HL19042_3 := mk (Kd.V_below (Kd.V_elderB HL19042_3.out gbz2 (Nat.le_of_eq hg.symm)) hb)
            replace HR19042_3 := mk (Kd.C_below HR19042_3.out hb)
            have BKz4 := mk (hbox)
            have GWz0 := mk ((by rw [hg]; exact (below_size HB.out) : w.heap.size ≤ gbz2))
            have GEz0 := mk ((by rw [hg]; exact (below_size HB.out) : w.heap.size ≤ gbz2))
            replace HB := mk (below_step HB.out hb)
            have NBz2 := mk ((by rw [hg]; exact Nat.ne_of_lt (blk_lt BKz0.out) : gbz4 ≠ gbz2))
            replace BKz0 := mk (blk_below BKz0.out hb)
            have NBz11 := mk NBz2.out.symm
            have NBz7 := mk ((by rw [hg]; exact Nat.ne_of_lt (blk_lt BKz1.out) : gbz3 ≠ gbz2))
            replace BKz1 := mk (blk_below BKz1.out hb)
            have NBz12 := mk NBz7.out.symm
            have NBz8 := mk ((by rw [hg]; exact Nat.ne_of_lt (blk_lt BKz2.out) : gbz1 ≠ gbz2))
            replace BKz2 := mk (blk_below BKz2.out hb)
            have NBz9 := mk NBz8.out.symm
            have NBz1 := mk ((by rw [hg]; exact Nat.ne_of_lt (blk_lt BKz3.out) : gbz0 ≠ gbz2))
            replace BKz3 := mk (blk_below BKz3.out hb)
            have NBz10 := mk NBz1.out.symm
            clear hb hbox hg
            refine hK.out _ _ ⟨blk_cell BKz3.out 0, blk_cell BKz3.out 1, blk_cell BKz3.out 2, blk_cell BKz3.out 3, blk_cell BKz0.out 0, blk_cell BKz0.out 1, blk_cell BKz0.out 2, blk_cell BKz0.out 3, HS8_, HS9_, HS10_, HS11_, HS12_, HS13_, HS14_, HS15_, HS16_⟩ (fun hHeld => ?_)
            clear hK K
            refine norm_ (a' := ?_) ?_ ?_
            rotate_left
            ·show Act.put _ (some 12) _ = _
             simp only [Act.put, List.setIfInBounds_toArray, List.set_cons_zero, List.set_cons_succ, i64_w, i32_w]
             rfl
            refine one_ (i := 8) (N := some 80) #[true, true, true, true, true, true, true, true, true, false, false, false, false, true, false, false] rfl rfl (one_of HT_.out (by kernel_rfl)) (by decide) (fun K hK => ?_)
            refine goes_ Try.func42 (by kernel_rfl) rfl #[.agg #[.int .i64 tz4, .int .i64 tz5, .int .i64 tz6, .slice Ao10 tz1.length co10], .agg #[.int .i64 ((rd_T55 tz0 ji67).f0.f0), .int .i64 ((rd_T55 tz0 ji67).f0.f1), .int .i64 ((rd_T55 tz0 ji67).f0.f2), .slice Az0 ((rd_T55 tz0 ji67).f0.f3).length cz0, .int .i64 ((rd_T55 tz0 ji67).f1), .int .i64 ((rd_T55 tz0 ji67).f2), .int .i64 ((rd_T55 tz0 ji67).f3), .int .i64 ((rd_T55 tz0 ji67).f4), .bool ((rd_T55 tz0 ji67).f5)]] (by rfl) rfl rfl (by (try simp only [List.map_toArray, List.map_cons, List.map_nil]); rfl) ?_
            with_reducible refine (impl_DirtyTiles.calls kj5 tz4 tz5 tz6 _ _ tz1 ((rd_T55 tz0 ji67).f0.f0) ((rd_T55 tz0 ji67).f0.f1) ((rd_T55 tz0 ji67).f0.f2) _ _ ((rd_T55 tz0 ji67).f0.f3) ((rd_T55 tz0 ji67).f1) ((rd_T55 tz0 ji67).f2) ((rd_T55 tz0 ji67).f3) ((rd_T55 tz0 ji67).f4) ((rd_T55 tz0 ji67).f5) tz19 _ ?side1 ?side2 ?side3 ?side4 A72.out).mono ?_
            (case side1 => repeat (exact (Kd.Q_reads' HOz0.out).2.2))
            (case side2 => exact (Kd.Q_reads' HOz0.out).2.1)
            (case side3 => repeat (exact HR19042_3.out))
            (case side4 => exact HC19042_3.out)
            rintro e w90 ⟨vz1, rfl, ho0, hb⟩
            have HS8_ := (hb.cell (World.block_lt_of_cell? _ _ hHeld.2.2.2.2.2.2.2.2.1)).trans (hHeld.2.2.2.2.2.2.2.2.1)
            have HS9_ := (hb.cell (World.block_lt_of_cell? _ _ hHeld.2.2.2.2.2.2.2.2.2.1)).trans (hHeld.2.2.2.2.2.2.2.2.2.1)
            have HS10_ := (hb.cell (World.block_lt_of_cell? _ _ hHeld.2.2.2.2.2.2.2.2.2.2.1)).trans (hHeld.2.2.2.2.2.2.2.2.2.2.1)
            have HS11_ := (hb.cell (World.block_lt_of_cell? _ _ hHeld.2.2.2.2.2.2.2.2.2.2.2.1)).trans (hHeld.2.2.2.2.2.2.2.2.2.2.2.1)
            have HS12_ := (hb.cell (World.block_lt_of_cell? _ _ hHeld.2.2.2.2.2.2.2.2.2.2.2.2.1)).trans (hHeld.2.2.2.2.2.2.2.2.2.2.2.2.1)
            have HS13_ := (hb.cell (World.block_lt_of_cell? _ _ hHeld.2.2.2.2.2.2.2.2.2.2.2.2.2.1)).trans (hHeld.2.2.2.2.2.2.2.2.2.2.2.2.2.1)
            have HS14_ := (hb.cell (World.block_lt_of_cell? _ _ hHeld.2.2.2.2.2.2.2.2.2.2.2.2.2.2.1)).trans (hHeld.2.2.2.2.2.2.2.2.2.2.2.2.2.2.1)
            have HS15_ := (hb.cell (World.block_lt_of_cell? _ _ hHeld.2.2.2.2.2.2.2.2.2.2.2.2.2.2.2.1)).trans (hHeld.2.2.2.2.2.2.2.2.2.2.2.2.2.2.2.1)
            have HS16_ := (hb.cell (World.block_lt_of_cell? _ _ hHeld.2.2.2.2.2.2.2.2.2.2.2.2.2.2.2.2)).trans (hHeld.2.2.2.2.2.2.2.2.2.2.2.2.2.2.2.2)
            refine ⟨_, rfl, ?_⟩
            replace HO_4 := mk (Kd.N_elder' HO_4.out (Kd.R_base ho0) hb)
            replace HOz3 := mk (Kd.V_elder' HOz3.out (Kd.R_base ho0) hb)
            replace HL19042_3 := mk (Kd.V_elder' HL19042_3.out (Kd.R_base ho0) hb)
            have HOz5 := mk (Kd.R_lower (Kd.R_new' (Kd.R_new' (Kd.R_new' (Kd.R_new' ho0 (Kd.Q_lt HOz0.out)) (Kd.Q_lt HOz1.out)) (Kd.Q_lt HOz2.out)) (Kd.R_lt HOz4.out)) (below_size HB.out))
            replace HOz0 := mk (Kd.Q_elder' HOz0.out (Kd.R_base ho0) hb)
            replace HOz1 := mk (Kd.Q_elder' HOz1.out (Kd.R_base ho0) hb)
            replace HOz2 := mk (Kd.Q_elder' HOz2.out (Kd.R_base ho0) hb)
            replace HOz4 := mk (Kd.R_elder' HOz4.out (Kd.R_base ho0) hb)
            replace BKz0 := mk (blk_below BKz0.out hb)
            replace BKz1 := mk (blk_below BKz1.out hb)
            replace BKz2 := mk (blk_below BKz2.out hb)
            replace BKz3 := mk (blk_below BKz3.out hb)
            replace HR19042_3 := mk (Kd.C_below HR19042_3.out hb)
            replace BKz4 := mk (blk_below BKz4.out hb)
            replace HB := mk (below_step HB.out hb)
            (try clear hb)
            (try clear ho0)
            obtain ⟨Ao91, co91, eo91⟩ := Kd.R_slice HOz5.out
            (subst eo91)
            refine hK.out _ _ ⟨blk_cell BKz3.out 0, blk_cell BKz3.out 1, blk_cell BKz3.out 2, blk_cell BKz3.out 3, blk_cell BKz0.out 0, blk_cell BKz0.out 1, blk_cell BKz0.out 2, blk_cell BKz0.out 3, HS8_, HS9_, HS10_, HS11_, HS12_, HS13_, HS14_, HS15_, HS16_⟩ (fun hHeld => ?_)
            clear hK K
            refine norm_ (a' := ?_) ?_ ?_
            rotate_left
            ·show Act.put _ (some 80) _ = _
             simp only [Act.put, List.setIfInBounds_toArray, List.set_cons_zero, List.set_cons_succ, i64_w, i32_w]
             rfl
            refine one_ (i := 9) (N := some 81) #[true, true, true, true, true, true, true, true, true, true, false, false, false, true, false, false] rfl rfl (one_of HT_.out (by kernel_rfl)) (by decide) (fun K hK => ?_)
            refine goes_ Try.func78 (by kernel_rfl) rfl #[.agg #[.int .i64 tz14, .int .i64 tz15, .int .i64 tz17, .slice Ao85 tz13.length co85], .agg #[.int .i64 tz4, .int .i64 tz5, .int .i64 tz6, .slice Ao10 tz1.length co10], .slice (some ad19042) tz0.length co11, .slice Ao91 tz19.length co91] (by rfl) rfl rfl (by (try simp only [List.map_toArray, List.map_cons, List.map_nil]); rfl) ?_
            with_reducible refine (impl_RedrawTiles.calls kj5 tz14 tz15 tz17 _ _ tz13 tz4 tz5 tz6 _ _ tz1 _ _ tz0 _ _ tz19 tz22 tz23 tz24 tz21 true _ ?side1 ?side2 ?side3 ?side4 ?side5 ?side6 ?side7 ?side8 A73.out).mono ?_
            (case side1 => repeat (exact (Kd.R_reads' HOz4.out).2.2))
            (case side2 => exact (Kd.R_reads' HOz4.out).2.1)
            (case side3 => repeat (exact (Kd.Q_reads' HOz0.out).2.2))
            (case side4 => exact (Kd.Q_reads' HOz0.out).2.1)
            (case side5 => repeat (exact (Kd.N_reads' HO_4.out).2.2))
            (case side6 => exact (Kd.N_reads' HO_4.out).2.1)
            (case side7 => repeat (exact (Kd.R_reads' HOz5.out).2.2))
            (case side8 => exact (Kd.R_reads' HOz5.out).2.1)
            rintro e w92 ⟨vz0, rfl, ho0, hb⟩
            have HS8_ := (hb.cell (World.block_lt_of_cell? _ _ hHeld.2.2.2.2.2.2.2.2.1)).trans (hHeld.2.2.2.2.2.2.2.2.1)
            have HS9_ := (hb.cell (World.block_lt_of_cell? _ _ hHeld.2.2.2.2.2.2.2.2.2.1)).trans (hHeld.2.2.2.2.2.2.2.2.2.1)
            have HS10_ := (hb.cell (World.block_lt_of_cell? _ _ hHeld.2.2.2.2.2.2.2.2.2.2.1)).trans (hHeld.2.2.2.2.2.2.2.2.2.2.1)
            have HS11_ := (hb.cell (World.block_lt_of_cell? _ _ hHeld.2.2.2.2.2.2.2.2.2.2.2.1)).trans (hHeld.2.2.2.2.2.2.2.2.2.2.2.1)
            have HS12_ := (hb.cell (World.block_lt_of_cell? _ _ hHeld.2.2.2.2.2.2.2.2.2.2.2.2.1)).trans (hHeld.2.2.2.2.2.2.2.2.2.2.2.2.1)
            have HS13_ := (hb.cell (World.block_lt_of_cell? _ _ hHeld.2.2.2.2.2.2.2.2.2.2.2.2.2.1)).trans (hHeld.2.2.2.2.2.2.2.2.2.2.2.2.2.1)
            have HS14_ := (hb.cell (World.block_lt_of_cell? _ _ hHeld.2.2.2.2.2.2.2.2.2.2.2.2.2.2.1)).trans (hHeld.2.2.2.2.2.2.2.2.2.2.2.2.2.2.1)
            have HS15_ := (hb.cell (World.block_lt_of_cell? _ _ hHeld.2.2.2.2.2.2.2.2.2.2.2.2.2.2.2.1)).trans (hHeld.2.2.2.2.2.2.2.2.2.2.2.2.2.2.2.1)
            have HS16_ := (hb.cell (World.block_lt_of_cell? _ _ hHeld.2.2.2.2.2.2.2.2.2.2.2.2.2.2.2.2)).trans (hHeld.2.2.2.2.2.2.2.2.2.2.2.2.2.2.2.2)
            refine ⟨_, rfl, ?_⟩
            replace HO_4 := mk (Kd.N_elder' HO_4.out (Kd.R_base ho0) hb)
            replace HOz3 := mk (Kd.V_elder' HOz3.out (Kd.R_base ho0) hb)
            replace HL19042_3 := mk (Kd.V_elder' HL19042_3.out (Kd.R_base ho0) hb)
            have HOz10 := mk (Kd.R_lower (Kd.R_new' (Kd.R_new' (Kd.R_new' (Kd.R_new' (Kd.R_new' ho0 (Kd.Q_lt HOz0.out)) (Kd.Q_lt HOz1.out)) (Kd.Q_lt HOz2.out)) (Kd.R_lt HOz4.out)) (Kd.R_lt HOz5.out)) (below_size HB.out))
            replace HOz0 := mk (Kd.Q_elder' HOz0.out (Kd.R_base ho0) hb)
            replace HOz1 := mk (Kd.Q_elder' HOz1.out (Kd.R_base ho0) hb)
            replace HOz2 := mk (Kd.Q_elder' HOz2.out (Kd.R_base ho0) hb)
            replace HOz4 := mk (Kd.R_elder' HOz4.out (Kd.R_base ho0) hb)
            replace HOz5 := mk (Kd.R_elder' HOz5.out (Kd.R_base ho0) hb)
            replace BKz0 := mk (blk_below BKz0.out hb)
            replace BKz1 := mk (blk_below BKz1.out hb)
            replace BKz2 := mk (blk_below BKz2.out hb)
            replace BKz3 := mk (blk_below BKz3.out hb)
            replace HR19042_3 := mk (Kd.C_below HR19042_3.out hb)
            replace BKz4 := mk (blk_below BKz4.out hb)
            replace HB := mk (below_step HB.out hb)
            (try clear hb)
            (try clear ho0)
            refine hK.out _ _ ⟨blk_cell BKz3.out 0, blk_cell BKz3.out 1, blk_cell BKz3.out 2, blk_cell BKz3.out 3, blk_cell BKz0.out 0, blk_cell BKz0.out 1, blk_cell BKz0.out 2, blk_cell BKz0.out 3, HS8_, HS9_, HS10_, HS11_, HS12_, HS13_, HS14_, HS15_, HS16_⟩ (fun hHeld => ?_)
            clear hK K
            refine norm_ (a' := ?_) ?_ ?_
            rotate_left
            ·show Act.put _ (some 81) _ = _
             simp only [Act.put, List.setIfInBounds_toArray, List.set_cons_zero, List.set_cons_succ, i64_w, i32_w]
             rfl
            refine pure_ (i := 10) (N := some 71) (v := ?_) (a' := ?_) #[true, true, true, true, true, true, true, true, true, true, true, false, false, true, false, false] rfl rfl (any_of HT_.out (by kernel_rfl)) (fun _ _ _ h => h) (Or.inl ⟨by rfl, ?_⟩) ?_ ?_
            rotate_left
            ·intro w'
             go_simp
             with_reducible rfl
            rotate_left
            ·simp only [Act.put, List.setIfInBounds_toArray, List.set_cons_zero, List.set_cons_succ, i64_w, i32_w]
             rfl
            refine pure_ (i := 11) (N := some 82) (v := ?_) (a' := ?_) #[true, true, true, true, true, true, true, true, true, true, true, true, false, true, false, false] rfl rfl (any_of HT_.out (by kernel_rfl)) (fun _ _ _ h => h) (Or.inl ⟨by rfl, ?_⟩) ?_ ?_
            rotate_left
            ·intro w'
             go_simp
             with_reducible rfl
            rotate_left
            ·simp only [Act.put, List.setIfInBounds_toArray, List.set_cons_zero, List.set_cons_succ, i64_w, i32_w]
             rfl
            refine pure_ (i := 12) (N := some 83) (v := ?_) (a' := ?_) #[true, true, true, true, true, true, true, true, true, true, true, true, true, true, false, false] rfl rfl (any_of HT_.out (by kernel_rfl)) (fun _ _ _ h => h) (Or.inl ⟨by rfl, ?_⟩) ?_ ?_
            rotate_left
            ·intro w'
             go_simp
             with_reducible rfl
            rotate_left
            ·simp only [Act.put, List.setIfInBounds_toArray, List.set_cons_zero, List.set_cons_succ, i64_w, i32_w]
             rfl
            exact norm_ (by simp only [putAll, Act.put, List.setIfInBounds_toArray, List.set_cons_zero, List.set_cons_succ]) (hCont (.slice Ao91 tz19.length co91, vz0, gbz2) _ ⟨hHeld, (by exact Kd.V_mono HL19042_3.out (fun _ hk => ⟨hk.1.1.1.1.2.2.2.1, ⟨hk.1.2, ⟨hk.2, ⟨hk.1.1.1.1.1, ⟨hk.1.1.1.1.2.1, ⟨hk.1.1.1.1.2.2.1, ⟨hk.1.1.1.2, ⟨hk.1.1.1.1.2.2.2.2.1, ⟨hk.1.1.1.1.2.2.2.2.2.1, ⟨hk.1.1.1.1.2.2.2.2.2.2.1, ⟨hk.1.1.1.1.2.2.2.2.2.2.2, hk.1.1.2⟩⟩⟩⟩⟩⟩⟩⟩⟩⟩⟩)), (by exact Kd.V_mono HOz3.out (fun _ hk => ⟨hk.1.1.1.2.2.2.1, ⟨hk.1.2, ⟨hk.2, ⟨hk.1.1.1.1, ⟨hk.1.1.1.2.1, ⟨hk.1.1.1.2.2.1, ⟨hk.1.1.1.2.2.2.2.1, ⟨hk.1.1.1.2.2.2.2.2.1, ⟨hk.1.1.1.2.2.2.2.2.2.1, ⟨hk.1.1.1.2.2.2.2.2.2.2, hk.1.1.2⟩⟩⟩⟩⟩⟩⟩⟩⟩⟩)), (by exact Kd.R_mono HOz4.out (fun _ hk => ⟨hk.1.2, ⟨hk.2, ⟨hk.1.1.1, ⟨hk.1.1.2.1, hk.1.1.2.2⟩⟩⟩⟩)), (by exact Kd.R_mono HOz5.out (fun _ hk => ⟨hk.1.2, ⟨hk.2, ⟨hk.1.1.1.1.2, ⟨hk.1.1.1.2, hk.1.1.2⟩⟩⟩⟩)), (by exact Kd.R_mono HOz10.out (fun _ hk => ⟨hk.1.2, ⟨hk.2, ⟨hk.1.1.1.1.2, ⟨hk.1.1.1.2, hk.1.1.2⟩⟩⟩⟩)), (by exact Kd.Q_mono HOz0.out (fun _ hk => ⟨hk.1.1.2.2, ⟨hk.1.2, ⟨hk.2, ⟨hk.1.1.1, hk.1.1.2.1⟩⟩⟩⟩)), (by exact Kd.Q_mono HOz1.out (fun _ hk => ⟨hk.1.1.2.2, ⟨hk.1.2, ⟨hk.2, ⟨hk.1.1.1, hk.1.1.2.1⟩⟩⟩⟩)), (by exact Kd.Q_mono HOz2.out (fun _ hk => ⟨hk.1.1.2.2, ⟨hk.1.2, ⟨hk.2, ⟨hk.1.1.1, hk.1.1.2.1⟩⟩⟩⟩)), (by exact Kd.N_mono HO_4.out (fun _ hk => ⟨hk.1.1.1.2.2.2.1, ⟨hk.1.2, ⟨hk.2, ⟨hk.1.1.1.1, ⟨hk.1.1.1.2.1, ⟨hk.1.1.1.2.2.1, ⟨hk.1.1.1.2.2.2.2.1, ⟨hk.1.1.1.2.2.2.2.2.1, ⟨hk.1.1.1.2.2.2.2.2.2.1, ⟨hk.1.1.1.2.2.2.2.2.2.2, hk.1.1.2⟩⟩⟩⟩⟩⟩⟩⟩⟩⟩)), BKz0.out, BKz1.out, BKz2.out, BKz3.out, BKz4.out, GWz0.out, GEz0.out, NBz2.out, NBz11.out, NBz7.out, NBz12.out, NBz8.out, NBz9.out, NBz1.out, NBz10.out, (HB.out)⟩)
          rintro ⟨vz1, vz0, gbz2⟩ w93 ⟨hS_, h0_, h1_, h2_, h3_, h4_, h5_, h6_, h7_, h8_, h9_, h10_, h11_, h12_, h13_, h14_, h15_, h16_, h17_, h18_, h19_, h20_, h21_, h22_, h23_, h24_⟩
          have n0_ : Aside0 (Kd.V (Kd.int .i64) 3 w93 w.heap.size (fun k_ => some k_ ≠ (.slice Ao85 tz13.length co85 : Value).ownBlock ∧ some k_ ≠ (vz1 : Value).ownBlock ∧ some k_ ≠ (vz0 : Value).ownBlock ∧ some k_ ≠ (.slice Ao10 tz1.length co10 : Value).ownBlock ∧ some k_ ≠ (.slice Ao16 tz2.length co16 : Value).ownBlock ∧ some k_ ≠ (.slice Ao23 tz3.length co23 : Value).ownBlock ∧ some k_ ≠ (.slice (some ad19042) tz0.length co11 : Value).ownBlock ∧ k_ ≠ gbz4 ∧ k_ ≠ gbz3 ∧ k_ ≠ gbz1 ∧ k_ ≠ gbz0 ∧ k_ ≠ gbz2) (.slice Az0 ((rd_T55 tz0 ji67).f0.f3).length cz0) ((rd_T55 tz0 ji67).f0.f3)) := ⟨h0_⟩
          have n1_ : Aside0 (Kd.V k55 55 w93 w.heap.size (fun k_ => some k_ ≠ (.slice Ao85 tz13.length co85 : Value).ownBlock ∧ some k_ ≠ (vz1 : Value).ownBlock ∧ some k_ ≠ (vz0 : Value).ownBlock ∧ some k_ ≠ (.slice Ao10 tz1.length co10 : Value).ownBlock ∧ some k_ ≠ (.slice Ao16 tz2.length co16 : Value).ownBlock ∧ some k_ ≠ (.slice Ao23 tz3.length co23 : Value).ownBlock ∧ k_ ≠ gbz4 ∧ k_ ≠ gbz3 ∧ k_ ≠ gbz1 ∧ k_ ≠ gbz0 ∧ k_ ≠ gbz2) (.slice (some ad19042) yz0.length co11) yz0) := ⟨h1_⟩
          have n2_ : Aside0 (Kd.R (Kd.int .i64) 3 w93 w.heap.size (fun k_ => some k_ ≠ (vz1 : Value).ownBlock ∧ some k_ ≠ (vz0 : Value).ownBlock ∧ some k_ ≠ (.slice Ao10 tz1.length co10 : Value).ownBlock ∧ some k_ ≠ (.slice Ao16 tz2.length co16 : Value).ownBlock ∧ some k_ ≠ (.slice Ao23 tz3.length co23 : Value).ownBlock) (.slice Ao85 tz13.length co85) tz13) := ⟨h2_⟩
          have n3_ : Aside0 (Kd.R (Kd.int .i64) 3 w93 w.heap.size (fun k_ => some k_ ≠ (.slice Ao85 tz13.length co85 : Value).ownBlock ∧ some k_ ≠ (vz0 : Value).ownBlock ∧ some k_ ≠ (.slice Ao10 tz1.length co10 : Value).ownBlock ∧ some k_ ≠ (.slice Ao16 tz2.length co16 : Value).ownBlock ∧ some k_ ≠ (.slice Ao23 tz3.length co23 : Value).ownBlock) vz1 tz19) := ⟨h3_⟩
          have n4_ : Aside0 (Kd.R (Kd.int .i64) 3 w93 w.heap.size (fun k_ => some k_ ≠ (.slice Ao85 tz13.length co85 : Value).ownBlock ∧ some k_ ≠ (vz1 : Value).ownBlock ∧ some k_ ≠ (.slice Ao10 tz1.length co10 : Value).ownBlock ∧ some k_ ≠ (.slice Ao16 tz2.length co16 : Value).ownBlock ∧ some k_ ≠ (.slice Ao23 tz3.length co23 : Value).ownBlock) vz0 tz21) := ⟨h4_⟩
          have n5_ : Aside0 (Kd.Q (Kd.int .i64) 3 w93 w.heap.size (fun k_ => some k_ ≠ (.slice Ao85 tz13.length co85 : Value).ownBlock ∧ some k_ ≠ (vz1 : Value).ownBlock ∧ some k_ ≠ (vz0 : Value).ownBlock ∧ some k_ ≠ (.slice Ao16 tz2.length co16 : Value).ownBlock ∧ some k_ ≠ (.slice Ao23 tz3.length co23 : Value).ownBlock) (.slice Ao10 tz1.length co10) tz1) := ⟨h5_⟩
          have n6_ : Aside0 (Kd.Q (Kd.int .i64) 3 w93 w.heap.size (fun k_ => some k_ ≠ (.slice Ao85 tz13.length co85 : Value).ownBlock ∧ some k_ ≠ (vz1 : Value).ownBlock ∧ some k_ ≠ (vz0 : Value).ownBlock ∧ some k_ ≠ (.slice Ao10 tz1.length co10 : Value).ownBlock ∧ some k_ ≠ (.slice Ao23 tz3.length co23 : Value).ownBlock) (.slice Ao16 tz2.length co16) tz2) := ⟨h6_⟩
          have n7_ : Aside0 (Kd.Q (Kd.int .i64) 3 w93 w.heap.size (fun k_ => some k_ ≠ (.slice Ao85 tz13.length co85 : Value).ownBlock ∧ some k_ ≠ (vz1 : Value).ownBlock ∧ some k_ ≠ (vz0 : Value).ownBlock ∧ some k_ ≠ (.slice Ao10 tz1.length co10 : Value).ownBlock ∧ some k_ ≠ (.slice Ao16 tz2.length co16 : Value).ownBlock) (.slice Ao23 tz3.length co23) tz3) := ⟨h7_⟩
          have n8_ : Aside0 (Kd.N k55 55 w93 w.heap.size (fun k_ => some k_ ≠ (.slice Ao85 tz13.length co85 : Value).ownBlock ∧ some k_ ≠ (vz1 : Value).ownBlock ∧ some k_ ≠ (vz0 : Value).ownBlock ∧ some k_ ≠ (.slice Ao10 tz1.length co10 : Value).ownBlock ∧ some k_ ≠ (.slice Ao16 tz2.length co16 : Value).ownBlock ∧ some k_ ≠ (.slice Ao23 tz3.length co23 : Value).ownBlock ∧ k_ ≠ gbz4 ∧ k_ ≠ gbz3 ∧ k_ ≠ gbz1 ∧ k_ ≠ gbz0 ∧ k_ ≠ gbz2) (.slice (some ad19042) tz0.length co11) tz0) := ⟨h8_⟩
          have n9_ : Aside0 (w93.heap[gbz4]? = some (.cells #[.int .i64 tz4, .int .i64 tz5, .int .i64 tz6, .slice Ao10 tz1.length co10] 27 (0, 0))) := ⟨h9_⟩
          have n10_ : Aside0 (w93.heap[gbz3]? = some (.cells #[.int .i64 tz9, .int .i64 tz10, .int .i64 tz11, .slice Ao16 tz2.length co16] 27 (0, 0))) := ⟨h10_⟩
          have n11_ : Aside0 (w93.heap[gbz1]? = some (.cells #[.int .i64 tz7, .int .i64 tz8, .int .i64 tz12, .slice Ao23 tz3.length co23] 27 (0, 0))) := ⟨h11_⟩
          have n12_ : Aside0 (w93.heap[gbz0]? = some (.cells #[.int .i64 tz14, .int .i64 tz15, .int .i64 tz17, .slice Ao85 tz13.length co85] 27 (0, 0))) := ⟨h12_⟩
          have n13_ : Aside0 (w93.heap[gbz2]? = some (.cells #[.int .i64 0, .int .i64 0, .int .i64 0, .slice none 0 0] 27 (0, 0))) := ⟨h13_⟩
          have n14_ : Aside0 (w.heap.size ≤ gbz2) := ⟨h14_⟩
          have n15_ : Aside0 (w.heap.size ≤ gbz2) := ⟨h15_⟩
          have n16_ : Aside0 (gbz4 ≠ gbz2) := ⟨h16_⟩
          have n17_ : Aside0 (gbz2 ≠ gbz4) := ⟨h17_⟩
          have n18_ : Aside0 (gbz3 ≠ gbz2) := ⟨h18_⟩
          have n19_ : Aside0 (gbz2 ≠ gbz3) := ⟨h19_⟩
          have n20_ : Aside0 (gbz1 ≠ gbz2) := ⟨h20_⟩
          have n21_ : Aside0 (gbz2 ≠ gbz1) := ⟨h21_⟩
          have n22_ : Aside0 (gbz0 ≠ gbz2) := ⟨h22_⟩
          have n23_ : Aside0 (gbz2 ≠ gbz0) := ⟨h23_⟩
          have n24_ : Aside0 (Below w.heap.size w w93) := ⟨h24_⟩
          clear HO_4 HOz0 HOz1 HOz2 HOz3 HOz4 BKz0 BKz1 BKz2 BKz3 HB h0_ h1_ h2_ h3_ h4_ h5_ h6_ h7_ h8_ h9_ h10_ h11_ h12_ h13_ h14_ h15_ h16_ h17_ h18_ h19_ h20_ h21_ h22_ h23_ h24_
          revert n0_ n1_ n2_ n3_ n4_ n5_ n6_ n7_ n8_ n9_ n10_ n11_ n12_ n13_ n14_ n15_ n16_ n17_ n18_ n19_ n20_ n21_ n22_ n23_ n24_; intro HL19042_3 HOz3 HOz4 HOz5 HOz10 HOz0 HOz1 HOz2 HO_4 BKz0 BKz1 BKz2 BKz3 BKz4 GWz0 GEz0 NBz2 NBz11 NBz7 NBz12 NBz8 NBz9 NBz1 NBz10 HB
          have hHeld : w93.cell? ⟨gbz0, 0, none⟩ = some (.int .i64 tz14) ∧ w93.cell? ⟨gbz0, 1, none⟩ = some (.int .i64 tz15) ∧ w93.cell? ⟨gbz0, 2, none⟩ = some (.int .i64 tz17) ∧ w93.cell? ⟨gbz0, 3, none⟩ = some (.slice Ao85 tz13.length co85) ∧ w93.cell? ⟨gbz4, 0, none⟩ = some (.int .i64 tz4) ∧ w93.cell? ⟨gbz4, 1, none⟩ = some (.int .i64 tz5) ∧ w93.cell? ⟨gbz4, 2, none⟩ = some (.int .i64 tz6) ∧ w93.cell? ⟨gbz4, 3, none⟩ = some (.slice Ao10 tz1.length co10) ∧ w93.cell? (ad19042.add ((ji67).toNat * 9)) = some (.int .i64 ((rd_T55 tz0 ji67).f0.f0)) ∧ w93.cell? ⟨(ad19042.add ((ji67).toNat * 9)).block, (ad19042.add ((ji67).toNat * 9)).off + 1, none⟩ = some (.int .i64 ((rd_T55 tz0 ji67).f0.f1)) ∧ w93.cell? ⟨(ad19042.add ((ji67).toNat * 9)).block, (ad19042.add ((ji67).toNat * 9)).off + 2, none⟩ = some (.int .i64 ((rd_T55 tz0 ji67).f0.f2)) ∧ w93.cell? ⟨(ad19042.add ((ji67).toNat * 9)).block, (ad19042.add ((ji67).toNat * 9)).off + 3, none⟩ = some (.slice Az0 ((rd_T55 tz0 ji67).f0.f3).length cz0) ∧ w93.cell? ⟨(ad19042.add ((ji67).toNat * 9)).block, (ad19042.add ((ji67).toNat * 9)).off + 4, none⟩ = some (.int .i64 ((rd_T55 tz0 ji67).f1)) ∧ w93.cell? ⟨(ad19042.add ((ji67).toNat * 9)).block, (ad19042.add ((ji67).toNat * 9)).off + 5, none⟩ = some (.int .i64 ((rd_T55 tz0 ji67).f2)) ∧ w93.cell? ⟨(ad19042.add ((ji67).toNat * 9)).block, (ad19042.add ((ji67).toNat * 9)).off + 6, none⟩ = some (.int .i64 ((rd_T55 tz0 ji67).f3)) ∧ w93.cell? ⟨(ad19042.add ((ji67).toNat * 9)).block, (ad19042.add ((ji67).toNat * 9)).off + 7, none⟩ = some (.int .i64 ((rd_T55 tz0 ji67).f4)) ∧ w93.cell? ⟨(ad19042.add ((ji67).toNat * 9)).block, (ad19042.add ((ji67).toNat * 9)).off + 8, none⟩ = some (.bool ((rd_T55 tz0 ji67).f5)) := hS_
          obtain ⟨Ao97, co97, eo97⟩ := Kd.R_slice HOz10.out
          (subst eo97)
          refine norm_ (a' := ?_) ?_ ?_
          rotate_left
          ·simp only [putAll, Act.put, List.setIfInBounds_toArray, List.set_cons_zero, List.set_cons_succ]
           rfl
          refine one_ (i := 14) (N := none) #[true, true, true, true, true, true, true, true, true, true, true, true, true, true, true, false] rfl rfl (one_of HT_.out (by kernel_rfl)) (by decide) (fun K hK => ?_)
          obtain ⟨hs94, -, -, -, hfs94, -⟩ := c4 BKz4.out
          have hns94_0 := NBz2.out
          have hns94_1 := NBz7.out
          have hns94_2 := NBz8.out
          have hns94_3 := NBz1.out
          have hms94_0 := NBz11.out
          have hms94_1 := NBz12.out
          have hms94_2 := NBz9.out
          have hms94_3 := NBz10.out
          obtain ⟨-, hs95, -, -, -, hfs95, -⟩ := c4 BKz4.out
          have hns95_0 := NBz2.out
          have hns95_1 := NBz7.out
          have hns95_2 := NBz8.out
          have hns95_3 := NBz1.out
          have hms95_0 := NBz11.out
          have hms95_1 := NBz12.out
          have hms95_2 := NBz9.out
          have hms95_3 := NBz10.out
          obtain ⟨-, -, hs96, -, -, -, hfs96, -⟩ := c4 BKz4.out
          have hns96_0 := NBz2.out
          have hns96_1 := NBz7.out
          have hns96_2 := NBz8.out
          have hns96_3 := NBz1.out
          have hms96_0 := NBz11.out
          have hms96_1 := NBz12.out
          have hms96_2 := NBz9.out
          have hms96_3 := NBz10.out
          obtain ⟨-, -, -, hs98, -, -, -, hfs98⟩ := c4 BKz4.out
          have hns98_0 := NBz2.out
          have hns98_1 := NBz7.out
          have hns98_2 := NBz8.out
          have hns98_3 := NBz1.out
          have hms98_0 := NBz11.out
          have hms98_1 := NBz12.out
          have hms98_2 := NBz9.out
          have hms98_3 := NBz10.out
          refine skip_ (w1 := ?_) (by rfl) rfl ?_ ?_
          rotate_left
          ·go_simp
           rfl
          refine hK.out _ _ ⟨((cell_far (p := ⟨gbz2, _, none⟩) NBz1.out _).trans (((cell_far (p := ⟨gbz2, _, none⟩) NBz1.out _).trans (((cell_far (p := ⟨gbz2, _, none⟩) NBz1.out _).trans (((cell_far (p := ⟨gbz2, _, none⟩) NBz1.out _).trans hHeld.1))))))), ((cell_far (p := ⟨gbz2, _, none⟩) NBz1.out _).trans (((cell_far (p := ⟨gbz2, _, none⟩) NBz1.out _).trans (((cell_far (p := ⟨gbz2, _, none⟩) NBz1.out _).trans (((cell_far (p := ⟨gbz2, _, none⟩) NBz1.out _).trans hHeld.2.1))))))), ((cell_far (p := ⟨gbz2, _, none⟩) NBz1.out _).trans (((cell_far (p := ⟨gbz2, _, none⟩) NBz1.out _).trans (((cell_far (p := ⟨gbz2, _, none⟩) NBz1.out _).trans (((cell_far (p := ⟨gbz2, _, none⟩) NBz1.out _).trans hHeld.2.2.1))))))), ((cell_far (p := ⟨gbz2, _, none⟩) NBz1.out _).trans (((cell_far (p := ⟨gbz2, _, none⟩) NBz1.out _).trans (((cell_far (p := ⟨gbz2, _, none⟩) NBz1.out _).trans (((cell_far (p := ⟨gbz2, _, none⟩) NBz1.out _).trans hHeld.2.2.2.1))))))), ((cell_far (p := ⟨gbz2, _, none⟩) NBz2.out _).trans (((cell_far (p := ⟨gbz2, _, none⟩) NBz2.out _).trans (((cell_far (p := ⟨gbz2, _, none⟩) NBz2.out _).trans (((cell_far (p := ⟨gbz2, _, none⟩) NBz2.out _).trans hHeld.2.2.2.2.1))))))), ((cell_far (p := ⟨gbz2, _, none⟩) NBz2.out _).trans (((cell_far (p := ⟨gbz2, _, none⟩) NBz2.out _).trans (((cell_far (p := ⟨gbz2, _, none⟩) NBz2.out _).trans (((cell_far (p := ⟨gbz2, _, none⟩) NBz2.out _).trans hHeld.2.2.2.2.2.1))))))), ((cell_far (p := ⟨gbz2, _, none⟩) NBz2.out _).trans (((cell_far (p := ⟨gbz2, _, none⟩) NBz2.out _).trans (((cell_far (p := ⟨gbz2, _, none⟩) NBz2.out _).trans (((cell_far (p := ⟨gbz2, _, none⟩) NBz2.out _).trans hHeld.2.2.2.2.2.2.1))))))), ((cell_far (p := ⟨gbz2, _, none⟩) NBz2.out _).trans (((cell_far (p := ⟨gbz2, _, none⟩) NBz2.out _).trans (((cell_far (p := ⟨gbz2, _, none⟩) NBz2.out _).trans (((cell_far (p := ⟨gbz2, _, none⟩) NBz2.out _).trans hHeld.2.2.2.2.2.2.2.1))))))), ((cell_far (p := ⟨gbz2, _, none⟩) (by (rw [add_block]; exact Kd.own_blk (Kd.N_away HO_4.out (fun _ hk => hk.2.2.2.2.2.2.2.2.2.2)))) _).trans (((cell_far (p := ⟨gbz2, _, none⟩) (by (rw [add_block]; exact Kd.own_blk (Kd.N_away HO_4.out (fun _ hk => hk.2.2.2.2.2.2.2.2.2.2)))) _).trans (((cell_far (p := ⟨gbz2, _, none⟩) (by (rw [add_block]; exact Kd.own_blk (Kd.N_away HO_4.out (fun _ hk => hk.2.2.2.2.2.2.2.2.2.2)))) _).trans (((cell_far (p := ⟨gbz2, _, none⟩) (by (rw [add_block]; exact Kd.own_blk (Kd.N_away HO_4.out (fun _ hk => hk.2.2.2.2.2.2.2.2.2.2)))) _).trans hHeld.2.2.2.2.2.2.2.2.1))))))), ((cell_far (p := ⟨gbz2, _, none⟩) (by (rw [add_block]; exact Kd.own_blk (Kd.N_away HO_4.out (fun _ hk => hk.2.2.2.2.2.2.2.2.2.2)))) _).trans (((cell_far (p := ⟨gbz2, _, none⟩) (by (rw [add_block]; exact Kd.own_blk (Kd.N_away HO_4.out (fun _ hk => hk.2.2.2.2.2.2.2.2.2.2)))) _).trans (((cell_far (p := ⟨gbz2, _, none⟩) (by (rw [add_block]; exact Kd.own_blk (Kd.N_away HO_4.out (fun _ hk => hk.2.2.2.2.2.2.2.2.2.2)))) _).trans (((cell_far (p := ⟨gbz2, _, none⟩) (by (rw [add_block]; exact Kd.own_blk (Kd.N_away HO_4.out (fun _ hk => hk.2.2.2.2.2.2.2.2.2.2)))) _).trans hHeld.2.2.2.2.2.2.2.2.2.1))))))), ((cell_far (p := ⟨gbz2, _, none⟩) (by (rw [add_block]; exact Kd.own_blk (Kd.N_away HO_4.out (fun _ hk => hk.2.2.2.2.2.2.2.2.2.2)))) _).trans (((cell_far (p := ⟨gbz2, _, none⟩) (by (rw [add_block]; exact Kd.own_blk (Kd.N_away HO_4.out (fun _ hk => hk.2.2.2.2.2.2.2.2.2.2)))) _).trans (((cell_far (p := ⟨gbz2, _, none⟩) (by (rw [add_block]; exact Kd.own_blk (Kd.N_away HO_4.out (fun _ hk => hk.2.2.2.2.2.2.2.2.2.2)))) _).trans (((cell_far (p := ⟨gbz2, _, none⟩) (by (rw [add_block]; exact Kd.own_blk (Kd.N_away HO_4.out (fun _ hk => hk.2.2.2.2.2.2.2.2.2.2)))) _).trans hHeld.2.2.2.2.2.2.2.2.2.2.1))))))), ((cell_far (p := ⟨gbz2, _, none⟩) (by (rw [add_block]; exact Kd.own_blk (Kd.N_away HO_4.out (fun _ hk => hk.2.2.2.2.2.2.2.2.2.2)))) _).trans (((cell_far (p := ⟨gbz2, _, none⟩) (by (rw [add_block]; exact Kd.own_blk (Kd.N_away HO_4.out (fun _ hk => hk.2.2.2.2.2.2.2.2.2.2)))) _).trans (((cell_far (p := ⟨gbz2, _, none⟩) (by (rw [add_block]; exact Kd.own_blk (Kd.N_away HO_4.out (fun _ hk => hk.2.2.2.2.2.2.2.2.2.2)))) _).trans (((cell_far (p := ⟨gbz2, _, none⟩) (by (rw [add_block]; exact Kd.own_blk (Kd.N_away HO_4.out (fun _ hk => hk.2.2.2.2.2.2.2.2.2.2)))) _).trans hHeld.2.2.2.2.2.2.2.2.2.2.2.1))))))), ((cell_far (p := ⟨gbz2, _, none⟩) (by (rw [add_block]; exact Kd.own_blk (Kd.N_away HO_4.out (fun _ hk => hk.2.2.2.2.2.2.2.2.2.2)))) _).trans (((cell_far (p := ⟨gbz2, _, none⟩) (by (rw [add_block]; exact Kd.own_blk (Kd.N_away HO_4.out (fun _ hk => hk.2.2.2.2.2.2.2.2.2.2)))) _).trans (((cell_far (p := ⟨gbz2, _, none⟩) (by (rw [add_block]; exact Kd.own_blk (Kd.N_away HO_4.out (fun _ hk => hk.2.2.2.2.2.2.2.2.2.2)))) _).trans (((cell_far (p := ⟨gbz2, _, none⟩) (by (rw [add_block]; exact Kd.own_blk (Kd.N_away HO_4.out (fun _ hk => hk.2.2.2.2.2.2.2.2.2.2)))) _).trans hHeld.2.2.2.2.2.2.2.2.2.2.2.2.1))))))), ((cell_far (p := ⟨gbz2, _, none⟩) (by (rw [add_block]; exact Kd.own_blk (Kd.N_away HO_4.out (fun _ hk => hk.2.2.2.2.2.2.2.2.2.2)))) _).trans (((cell_far (p := ⟨gbz2, _, none⟩) (by (rw [add_block]; exact Kd.own_blk (Kd.N_away HO_4.out (fun _ hk => hk.2.2.2.2.2.2.2.2.2.2)))) _).trans (((cell_far (p := ⟨gbz2, _, none⟩) (by (rw [add_block]; exact Kd.own_blk (Kd.N_away HO_4.out (fun _ hk => hk.2.2.2.2.2.2.2.2.2.2)))) _).trans (((cell_far (p := ⟨gbz2, _, none⟩) (by (rw [add_block]; exact Kd.own_blk (Kd.N_away HO_4.out (fun _ hk => hk.2.2.2.2.2.2.2.2.2.2)))) _).trans hHeld.2.2.2.2.2.2.2.2.2.2.2.2.2.1))))))), ((cell_far (p := ⟨gbz2, _, none⟩) (by (rw [add_block]; exact Kd.own_blk (Kd.N_away HO_4.out (fun _ hk => hk.2.2.2.2.2.2.2.2.2.2)))) _).trans (((cell_far (p := ⟨gbz2, _, none⟩) (by (rw [add_block]; exact Kd.own_blk (Kd.N_away HO_4.out (fun _ hk => hk.2.2.2.2.2.2.2.2.2.2)))) _).trans (((cell_far (p := ⟨gbz2, _, none⟩) (by (rw [add_block]; exact Kd.own_blk (Kd.N_away HO_4.out (fun _ hk => hk.2.2.2.2.2.2.2.2.2.2)))) _).trans (((cell_far (p := ⟨gbz2, _, none⟩) (by (rw [add_block]; exact Kd.own_blk (Kd.N_away HO_4.out (fun _ hk => hk.2.2.2.2.2.2.2.2.2.2)))) _).trans hHeld.2.2.2.2.2.2.2.2.2.2.2.2.2.2.1))))))), ((cell_far (p := ⟨gbz2, _, none⟩) (by (rw [add_block]; exact Kd.own_blk (Kd.N_away HO_4.out (fun _ hk => hk.2.2.2.2.2.2.2.2.2.2)))) _).trans (((cell_far (p := ⟨gbz2, _, none⟩) (by (rw [add_block]; exact Kd.own_blk (Kd.N_away HO_4.out (fun _ hk => hk.2.2.2.2.2.2.2.2.2.2)))) _).trans (((cell_far (p := ⟨gbz2, _, none⟩) (by (rw [add_block]; exact Kd.own_blk (Kd.N_away HO_4.out (fun _ hk => hk.2.2.2.2.2.2.2.2.2.2)))) _).trans (((cell_far (p := ⟨gbz2, _, none⟩) (by (rw [add_block]; exact Kd.own_blk (Kd.N_away HO_4.out (fun _ hk => hk.2.2.2.2.2.2.2.2.2.2)))) _).trans hHeld.2.2.2.2.2.2.2.2.2.2.2.2.2.2.2.1))))))), ((cell_far (p := ⟨gbz2, _, none⟩) (by (rw [add_block]; exact Kd.own_blk (Kd.N_away HO_4.out (fun _ hk => hk.2.2.2.2.2.2.2.2.2.2)))) _).trans (((cell_far (p := ⟨gbz2, _, none⟩) (by (rw [add_block]; exact Kd.own_blk (Kd.N_away HO_4.out (fun _ hk => hk.2.2.2.2.2.2.2.2.2.2)))) _).trans (((cell_far (p := ⟨gbz2, _, none⟩) (by (rw [add_block]; exact Kd.own_blk (Kd.N_away HO_4.out (fun _ hk => hk.2.2.2.2.2.2.2.2.2.2)))) _).trans (((cell_far (p := ⟨gbz2, _, none⟩) (by (rw [add_block]; exact Kd.own_blk (Kd.N_away HO_4.out (fun _ hk => hk.2.2.2.2.2.2.2.2.2.2)))) _).trans hHeld.2.2.2.2.2.2.2.2.2.2.2.2.2.2.2.2)))))))⟩ (fun hHeld => ?_)
          clear hK K
          refine pure_ (i := 15) (N := some 13) (v := ?_) (a' := ?_) #[true, true, true, true, true, true, true, true, true, true, true, true, true, true, true, true] rfl rfl (any_of HT_.out (by kernel_rfl)) (fun _ _ _ h => h) (Or.inl ⟨by rfl, ?_⟩) ?_ ?_
          rotate_left
          ·intro w'
           go_simp
           with_reducible rfl
          rotate_left
          ·simp only [Act.put, List.setIfInBounds_toArray, List.set_cons_zero, List.set_cons_succ, i64_w, i32_w]
           rfl
          refine done_ (done_of HT_.out (by kernel_rfl)) ?_
          have hnc100 := NBz7.out
          have hnb101 := NBz9.out
          have hnc101 := NBz8.out
          have hnb102 := NBz10.out
          have hnc102 := NBz1.out
          have hnb104 := NBz19.out
          have hnc104 := NBz16.out
          have hnb105 := NBz4.out
          have hnc105 := NBz17.out
          have hnb106 := NBz5.out
          have hnc106 := NBz13.out
          obtain ⟨hcz107_0, hcz107_1, hcz107_2, hcz107_3, -⟩ := c4 BKz1.out
          try go_wp2_with (first | (go_at_call 26; (with_reducible refine (laws_equalImage.calls kj5 tz22 tz23 tz24 _ _ tz21 tz9 tz10 tz11 _ _ tz2 tz20 _ ?side1 ?side2 ?side3 ?side4 A76.out).mono ?_); (case side1 => refine (Kd.R_reads' (e := 3) (base := w.heap.size) (ok := fun k_ => (some k_ ≠ (.slice Ao85 tz13.length co85 : Value).ownBlock ∧ (some k_ ≠ (vz1 : Value).ownBlock ∧ (some k_ ≠ (.slice Ao10 tz1.length co10 : Value).ownBlock ∧ (some k_ ≠ (.slice Ao16 tz2.length co16 : Value).ownBlock ∧ some k_ ≠ (.slice Ao23 tz3.length co23 : Value).ownBlock))))) (n := tz21.length) (c := co97) ?_).2.2; exact (by exact (Kd.R_mono (Kd.R_far (p := ⟨gbz2, 3, none⟩) (Kd.R_far (p := ⟨gbz2, 2, none⟩) (Kd.R_far (p := ⟨gbz2, 1, none⟩) (Kd.R_far (p := ⟨gbz2, 0, none⟩) (Kd.R_types HOz10.out BKz4.out (by decide)) (fun _ hk => hk.2) (.int .i64 tz22)) (fun _ hk => hk.2) (.int .i64 tz23)) (fun _ hk => hk.2) (.int .i64 tz24)) (fun _ hk => hk.2) (.slice Ao97 tz21.length co97)) (fun _ h_ => h_.1)))); (case side2 => exact (Kd.R_reads' HOz10.out).2.1); (case side3 => refine (Kd.Q_reads' (e := 3) (base := w.heap.size) (ok := fun k_ => (some k_ ≠ (.slice Ao85 tz13.length co85 : Value).ownBlock ∧ (some k_ ≠ (vz1 : Value).ownBlock ∧ (some k_ ≠ (.slice Ao97 tz21.length co97 : Value).ownBlock ∧ (some k_ ≠ (.slice Ao10 tz1.length co10 : Value).ownBlock ∧ some k_ ≠ (.slice Ao23 tz3.length co23 : Value).ownBlock))))) (n := tz2.length) (c := co16) ?_).2.2; exact (by exact (Kd.Q_mono (Kd.Q_far (p := ⟨gbz2, 3, none⟩) (Kd.Q_far (p := ⟨gbz2, 2, none⟩) (Kd.Q_far (p := ⟨gbz2, 1, none⟩) (Kd.Q_far (p := ⟨gbz2, 0, none⟩) (Kd.Q_types HOz1.out BKz4.out (by decide)) (fun _ hk => hk.2) (.int .i64 tz22)) (fun _ hk => hk.2) (.int .i64 tz23)) (fun _ hk => hk.2) (.int .i64 tz24)) (fun _ hk => hk.2) (.slice Ao97 tz21.length co97)) (fun _ h_ => h_.1)))); (case side4 => exact (Kd.Q_reads' HOz1.out).2.1); rintro e w108 ⟨rfl, hb⟩; have n6_ := mk (Kd.V_below (by exact (Kd.V_mono (Kd.V_far (p := ⟨gbz2, 3, none⟩) (Kd.V_far (p := ⟨gbz2, 2, none⟩) (Kd.V_far (p := ⟨gbz2, 1, none⟩) (Kd.V_far (p := ⟨gbz2, 0, none⟩) (Kd.V_mono HL19042_3.out (fun k_ hk => (⟨hk, hk.2.2.2.2.2.2.2.2.2.2.2⟩ : _ ∧ k_ ≠ gbz2))) (fun _ hk => hk.2) (.int .i64 tz22)) (fun _ hk => hk.2) (.int .i64 tz23)) (fun _ hk => hk.2) (.int .i64 tz24)) (fun _ hk => hk.2) (.slice Ao97 tz21.length co97)) (fun _ h_ => h_.1))) hb); have n14_ := mk (below_step (by repeat (with_reducible first | exact HB.out | refine below_set ?_ GEz0.out)) hb); clear HO_4; clear HOz0; clear HOz1; clear HOz2; clear HOz3; clear HOz4; clear HL19042_3; clear HOz5; clear HOz10; clear BKz0; clear BKz1; clear BKz2; clear BKz3; clear BKz4; clear HB; have HL19042_3 := n6_; have HB := n14_; (try clear hb)))
          go_ret
          exact ⟨by rfl, by exact HB.out⟩
         ·replace c75 := Bool.eq_false_iff.mpr c75
          subst c75
          have H1 : (some false) = some r := by rw [if_neg (show ¬ (false = true) by decide)] at H; exact H
          clear H
          have H := H1
          clear H1
          exact absurd ((Option.some.inj H).trans HRT.out) (by decide)
        ·replace c74 := Bool.eq_false_iff.mpr c74
         subst c74
         have H1 : (some false) = some r := by rw [if_neg (show ¬ (false = true) by decide)] at H; exact H
         clear H
         have H := H1
         clear H1
         exact absurd ((Option.some.inj H).trans HRT.out) (by decide)
       ·rw [if_neg c71] at H
        exact absurd H (by simp)
      ·rw [if_neg c69] at H
       exact absurd H (by simp)
     ·rw [if_neg c68] at H
      exact absurd H (by simp)

def laws_FnRedrawDirty.Pure : Prop := ∀ (l0 : List Int), l0.length ≤ maxLen → l0.length * 1 ≤ 140737488351232 → (∀ x ∈ l0, (Lit.int .u8 x).wf = true) → ∃ k, laws_FnRedrawDirty.f k l0 = some true
theorem laws_FnRedrawDirty.walk (P : laws_FnRedrawDirty.Pure) (a0 : Option Addr) (len0 cap0 : Nat) (z0 : List Int) (w : World) (w0 : (a0 = none ∧ len0 = 0 ∧ cap0 = 0 ∧ z0 = []) ∨ ∃ x, a0 = some x ∧ len0 ≤ cap0 ∧ cap0 ≤ maxLen ∧ z0.length = cap0 ∧ (∀ i, i < z0.length → w.cell? (x.add i) = some (.int .u8 (z0.getD i 0))) ∧ ∀ n ∈ z0, (Lit.int .u8 n).wf = true) (y0 : len0 * 1 ≤ 140737488351232) :
  Calls Try.prog 18 #[.slice a0 len0 cap0] w fun e w' => e = .returned (.bool true) ∧ Below w.heap.size w w' := by
 obtain ⟨l0, rfl, hr0, hm0, hw0, hc0⟩ := ReadsInt.ofRowC w0
 obtain ⟨k, h⟩ := P l0 hm0 y0 hw0
 refine (laws_FnRedrawDirty.calls k _ _ l0 true w (Kd.C_of_reads (d := (0 : Int)) (h1 := fun _ => rfl) hr0) hc0 h rfl).mono ?_
 rintro e w' ⟨rfl, hd⟩
 exact ⟨rfl, hd⟩

end Go.Proofs.Ytnofkbbcbpjhfaa.Q

/- Images as pixels: lists of numbers cut into equal parts. -/
namespace Go.Proofs.Ytnofkbbcbpjhfaa.Pure
open Go.RowKit Go.Proofs.Ytnofkbbcbpjhfaa.Q Go.Proofs.YtnofkbbcbpjhfaaW.PrintWords Go.Proofs.YtnofkbbcbpjhfaaW.PrintLast Go.Proofs.YtnofkbbcbpjhfaaW.PrintMore
set_option linter.unusedVariables false
set_option linter.unusedSimpArgs false

def nx (n : Nat) (d : List Int) (i : Nat) : List Int := (d.drop (i * n)).take n
theorem nx_length {n m : Nat} {d : List Int} (hd : d.length = m * n) {i : Nat} (hi : i < m) : (nx n d i).length = n := by
 unfold nx
 have h : (i + 1) * n ≤ m * n := Nat.mul_le_mul_right n hi
 rw [Nat.add_mul, Nat.one_mul] at h
 rw [List.length_take, List.length_drop, hd]
 omega
theorem fm_length (f : Nat → List Int) (n : Nat) : ∀ m, (∀ i, i < m → (f i).length = n) → ((List.range m).flatMap f).length = m * n := by
 intro m
 induction m with
 | zero => intro _; simp
 | succ m ih =>
  intro h
  rw [List.range_succ, List.flatMap_append, List.length_append, ih (fun i hi => h i (by omega))]
  simp [h m (by omega), Nat.add_mul]
theorem fm_get (f : Nat → List Int) (n : Nat) : ∀ m, (∀ i, i < m → (f i).length = n) → ∀ i, i < m → nx n ((List.range m).flatMap f) i = f i := by
 intro m
 induction m with
 | zero => intro _ i hi; omega
 | succ m ih =>
  intro h i hi
  have hl := fm_length f n m (fun i hi => h i (by omega))
  rw [List.range_succ, List.flatMap_append]
  unfold nx
  by_cases c : i < m
  ·have h1 : (i + 1) * n ≤ m * n := Nat.mul_le_mul_right n c
   rw [Nat.add_mul, Nat.one_mul] at h1
   rw [List.drop_append_of_le_length (by omega), List.take_append_of_le_length (by rw [List.length_drop]; omega)]
   exact ih (fun i hi => h i (by omega)) i c
  ·have : i = m := by omega
   subst this
   rw [← hl, List.drop_left]
   simp only [List.flatMap_cons, List.flatMap_nil, List.append_nil]
   exact List.take_of_length_le (by rw [h i (by omega)]; exact Nat.le_refl _)
theorem fm_cut (n : Nat) : ∀ (m : Nat) (d : List Int), d.length = m * n → (List.range m).flatMap (nx n d) = d := by
 intro m
 induction m with
 | zero => intro d hd; simp at hd; simp [hd]
 | succ m ih =>
  intro d hd
  rw [Nat.add_mul, Nat.one_mul] at hd
  have h1 : (List.range m).flatMap (nx n d) = (List.range m).flatMap (nx n (d.take (m * n))) := by
   rw [List.flatMap_def, List.flatMap_def]
   congr 1
   refine List.map_congr_left (fun i hi => ?_)
   have hi' := List.mem_range.1 hi
   have h1 : (i + 1) * n ≤ m * n := Nat.mul_le_mul_right n hi'
   rw [Nat.add_mul, Nat.one_mul] at h1
   unfold nx
   rw [List.drop_take, List.take_take, Nat.min_eq_left (by omega)]
  rw [List.range_succ, List.flatMap_append, h1, ih _ (by rw [List.length_take]; omega)]
  simp only [List.flatMap_cons, List.flatMap_nil, List.append_nil]
  unfold nx
  rw [List.take_of_length_le (l := d.drop (m * n)) (by rw [List.length_drop]; omega), List.take_append_drop]
theorem ext_nx {n m : Nat} {d e : List Int} (hd : d.length = m * n) (he : e.length = m * n) (h : ∀ i, i < m → nx n d i = nx n e i) : d = e := by
 rw [← fm_cut n m d hd, ← fm_cut n m e he, List.flatMap_def, List.flatMap_def]
 congr 1
 exact List.map_congr_left (fun i hi => h i (List.mem_range.1 hi))
theorem imgD_congr {f g : Nat → Nat → List Int} {a b : Nat} (h : ∀ x y, x < a → y < b → f x y = g x y) : imgD f a b = imgD g a b := by
 unfold imgD rowD
 rw [List.flatMap_def, List.flatMap_def]
 congr 1
 refine List.map_congr_left (fun y hy => ?_)
 rw [List.flatMap_def, List.flatMap_def]
 congr 1
 exact List.map_congr_left (fun x hx => h x y (List.mem_range.1 hx) (List.mem_range.1 hy))
theorem rowD_length {px : Nat → Nat → List Int} {a n y : Nat} (h : ∀ x, x < a → (px x y).length = n) : (rowD px a y).length = a * n := fm_length _ n a h
theorem imgD_length {px : Nat → Nat → List Int} {a b n : Nat} (h : ∀ x y, x < a → y < b → (px x y).length = n) : (imgD px a b).length = (b * a) * n := by
 rw [Nat.mul_assoc]
 exact fm_length _ (a * n) b (fun y hy => rowD_length (fun x hx => h x y hx hy))
theorem nx_imgD {px : Nat → Nat → List Int} {a b n : Nat} (h : ∀ x y, x < a → y < b → (px x y).length = n) {x y : Nat} (hx : x < a) (hy : y < b) : nx n (imgD px a b) (y * a + x) = px x y := by
 have h1 := fm_get (rowD px a) (a * n) b (fun y hy => rowD_length (fun x hx => h x y hx hy)) y hy
 have h2 := fm_get (fun x => px x y) n a (fun x hx => h x y hx hy) x hx
 have h3 : (x + 1) * n ≤ a * n := Nat.mul_le_mul_right n hx
 rw [Nat.add_mul, Nat.one_mul] at h3
 show nx n ((List.range b).flatMap (rowD px a)) (y * a + x) = px x y
 rw [← h2]
 show _ = nx n (rowD px a y) x
 rw [← h1]
 unfold nx
 rw [List.drop_take, List.take_take, Nat.min_eq_left (by omega), List.drop_drop, Nat.add_mul, Nat.mul_assoc]
theorem lin_lt {a b x y : Nat} (hx : x < a) (hy : y < b) : y * a + x < b * a := by
 have : (y + 1) * a ≤ b * a := Nat.mul_le_mul_right a hy
 rw [Nat.add_mul, Nat.one_mul] at this
 omega
theorem lin_ne {a x y x' y' : Nat} (hx : x < a) (hx' : x' < a) (h : y * a + x = y' * a + x') : x = x' ∧ y = y' := by
 have ha : 0 < a := by omega
 have e1 := congrArg (· % a) h
 have e2 := congrArg (· / a) h
 simp only [Nat.mul_comm _ a, Nat.mul_add_mod, Nat.mul_add_div ha, Nat.mod_eq_of_lt hx, Nat.mod_eq_of_lt hx', Nat.div_eq_of_lt hx, Nat.div_eq_of_lt hx', Nat.add_zero] at e1 e2
 exact ⟨e1, e2⟩
theorem lin_of {a b i : Nat} (h : i < b * a) : i % a < a ∧ i / a < b ∧ (i / a) * a + i % a = i := by
 have ha : 0 < a := by
  rcases Nat.eq_zero_or_pos a with rfl | h'
  ·simp at h
  ·exact h'
 refine ⟨Nat.mod_lt _ ha, (Nat.div_lt_iff_lt_mul ha).2 h, ?_⟩
 rw [Nat.mul_comm]; exact Nat.div_add_mod i a
theorem ext_img {n a b : Nat} {d e : List Int} (hd : d.length = (b * a) * n) (he : e.length = (b * a) * n) (h : ∀ x y, x < a → y < b → nx n d (y * a + x) = nx n e (y * a + x)) : d = e := by
 refine ext_nx hd he (fun i hi => ?_)
 obtain ⟨h1, h2, h3⟩ := lin_of hi
 rw [← h3]
 exact h _ _ h1 h2
theorem nx_laid {n m : Nat} {d ys : List Int} (hd : d.length = m * n) (hy : ys.length = n) {j : Nat} (hj : j < m) {i : Nat} (hi : i < m) : nx n (laidOver d (j * n) ys) i = if i = j then ys else nx n d i := by
 have hj1 : (j + 1) * n ≤ m * n := Nat.mul_le_mul_right n hj
 have hi1 : (i + 1) * n ≤ m * n := Nat.mul_le_mul_right n hi
 rw [Nat.add_mul, Nat.one_mul] at hj1 hi1
 unfold nx laidOver
 have hlt : (d.take (j * n)).length = j * n := by rw [List.length_take]; omega
 by_cases c : i = j
 ·subst c
  rw [if_pos rfl]
  have e1 : (d.take (i * n) ++ (ys ++ d.drop (i * n + ys.length))).drop (i * n) = ys ++ d.drop (i * n + ys.length) := by
   rw [List.drop_append, List.drop_eq_nil_of_le (by omega), hlt, Nat.sub_self, List.drop_zero, List.nil_append]
  rw [e1, ← hy, List.take_left]
 ·rw [if_neg c]
  by_cases c2 : i < j
  ·have h1 : (i + 1) * n ≤ j * n := Nat.mul_le_mul_right n c2
   rw [Nat.add_mul, Nat.one_mul] at h1
   rw [List.drop_append_of_le_length (by omega), List.take_append_of_le_length (by rw [List.length_drop]; omega), List.drop_take, List.take_take, Nat.min_eq_left (by omega)]
  ·have h1 : (j + 1) * n ≤ i * n := Nat.mul_le_mul_right n (by omega)
   rw [Nat.add_mul, Nat.one_mul] at h1
   rw [← List.append_assoc, List.drop_append, List.drop_eq_nil_of_le (by rw [List.length_append, hlt, hy]; omega), List.nil_append, List.drop_drop, List.length_append, hlt, hy]
   congr 2
   omega
theorem nat_of {a b p : Int} {d : List Int} (hv : validI a b p d = true) : ∃ an bn pn : Nat, a = an ∧ b = bn ∧ p = pn ∧ 1 ≤ an ∧ an ≤ 16 ∧ 1 ≤ bn ∧ bn ≤ 16 ∧ 1 ≤ pn ∧ pn ≤ 4 ∧ d.length = (bn * an) * pn := by
 obtain ⟨hs, hl, _⟩ := (validI_iff a b p d).1 hv
 obtain ⟨an, rfl⟩ := Int.eq_ofNat_of_zero_le (show 0 ≤ a by omega)
 obtain ⟨bn, rfl⟩ := Int.eq_ofNat_of_zero_le (show 0 ≤ b by omega)
 obtain ⟨pn, rfl⟩ := Int.eq_ofNat_of_zero_le (show 0 ≤ p by omega)
 refine ⟨an, bn, pn, rfl, rfl, rfl, by omega, by omega, by omega, by omega, by omega, by omega, ?_⟩
 have : (d.length : Int) = ((an * bn * pn : Nat) : Int) := by rw [hl]; push_cast; rfl
 rw [Nat.mul_comm bn an]
 exact Int.ofNat.inj this
theorem small {an bn pn : Nat} (h1 : an ≤ 16) (h2 : bn ≤ 16) (h3 : pn ≤ 4) : (bn * an) * pn ≤ 1024 := by
 have := Nat.mul_le_mul (Nat.mul_le_mul h2 h1) h3
 omega
theorem pixJ_nat {an bn pn x y : Nat} (h1 : an ≤ 16) (h2 : bn ≤ 16) (h3 : pn ≤ 4) (hx : x < an) (hy : y < bn) : pixJ an pn x y = (((y * an + x) * pn : Nat) : Int) ∧ (y * an + x) * pn + pn ≤ (bn * an) * pn := by
 have hl := lin_lt hx hy
 have hm : (y * an + x + 1) * pn ≤ (bn * an) * pn := Nat.mul_le_mul_right pn hl
 rw [Nat.add_mul, Nat.one_mul] at hm
 have hs := small h1 h2 h3
 have hya : y * an ≤ 16 * 16 := Nat.mul_le_mul (by omega) (by omega)
 refine ⟨?_, hm⟩
 unfold pixJ
 have e1 : ((y : Int) * (an : Int)) = ((y * an : Nat) : Int) := by push_cast; rfl
 rw [e1, w64 (x := ((y * an : Nat) : Int)) (by omega) (by omega)]
 have e2 : ((y * an : Nat) : Int) + (x : Int) = ((y * an + x : Nat) : Int) := by push_cast; rfl
 rw [e2, w64 (x := ((y * an + x : Nat) : Int)) (by omega) (by omega)]
 have e3 : ((y * an + x : Nat) : Int) * (pn : Int) = (((y * an + x) * pn : Nat) : Int) := by push_cast; rfl
 rw [e3, w64 (by omega) (by omega)]
theorem pxAt_nat {an bn pn x y : Nat} (h1 : an ≤ 16) (h2 : bn ≤ 16) (h3 : pn ≤ 4) (hx : x < an) (hy : y < bn) (d : List Int) : pxAt an pn d x y = nx pn d (y * an + x) := by
 obtain ⟨hj, hm⟩ := pixJ_nat h1 h2 h3 hx hy
 have hs := small h1 h2 h3
 unfold pxAt pixT nx
 rw [hj, w64 (by omega) (by omega)]
 have : ((((y * an + x) * pn : Nat) : Int) + (pn : Int)).toNat = (y * an + x) * pn + pn := by omega
 rw [this, Int.toNat_natCast, List.drop_take]
 congr 1
 omega

/- What the reference does with pixels: reads, writes, parts and pastes. -/

theorem ev_run {σ ρ : Type} (n : Nat) (L : Nat → Nat → σ → Option ρ) (E : σ → Nat → Option ρ) (Inv : Nat → σ → Prop)
  (step : ∀ i s, i < n → Inv i s → ∃ s', Inv (i + 1) s' ∧ ∀ r, Ev (fun k => L k (i + 1) s') r → Ev (fun k => L k i s) r)
  (last : ∀ s, Inv n s → ∀ r, Ev (E s) r → Ev (fun k => L k n s) r) :
  ∀ d i s, i + d = n → Inv i s → ∃ s', Inv n s' ∧ ∀ r, Ev (E s') r → Ev (fun k => L k i s) r := by
 intro d
 induction d with
 | zero =>
  intro i s hi hinv
  have : i = n := by omega
  subst this
  exact ⟨s, hinv, last s hinv⟩
 | succ d ih =>
  intro i s hi hinv
  obtain ⟨s1, h1, h2⟩ := step i s (by omega) hinv
  obtain ⟨s2, h3, h4⟩ := ih (i + 1) s1 (by omega) h1
  exact ⟨s2, h3, fun r hr => h2 r (h4 r hr)⟩
theorem copyInts_px (l : List Int) (hl : l.length ≤ 1000000) : spec_copyInts.f l = some l := by
 unfold spec_copyInts.f
 simp only [Option.bind_some]
 rw [if_pos (by simp; omega)]
 simp
theorem laid_set (d ys : List Int) (j i : Nat) (hi : i < ys.length) (hj : j + ys.length ≤ d.length) : (laidOver d j (ys.take i)).set (j + i) ys[i] = laidOver d j (ys.take (i + 1)) := by
 have h1 : (ys.take i).length = i := by rw [List.length_take]; omega
 have h2 : (ys.take (i + 1)).length = i + 1 := by rw [List.length_take]; omega
 have h3 : (d.take j).length = j := by rw [List.length_take]; omega
 unfold laidOver
 rw [h1, h2, List.set_append_right _ _ (by omega), h3, Nat.add_sub_cancel_left, List.set_append_right _ _ (by omega), h1, Nat.sub_self, List.drop_eq_getElem_cons (show j + i < d.length by omega), List.set_cons_zero, List.take_succ_eq_append_getElem hi, List.append_assoc]
 rfl
theorem onImage_eq {an bn : Nat} (h1 : 1 ≤ an ∧ an ≤ 16) (h2 : 1 ≤ bn ∧ bn ≤ 16) (p : Int) (d : List Int) (x y : Int) : spec_onImage.f an bn p d x y = some (decide (0 ≤ x ∧ x < an ∧ 0 ≤ y ∧ y < bn)) := by
 unfold spec_onImage.f
 rw [w64 (x := (an : Int) - 1) (by omega) (by omega), w64 (x := (bn : Int) - 1) (by omega) (by omega), spec_inRangeI_eq, spec_inRangeI_eq]
 simp only [Option.bind_some]
 by_cases c : 0 ≤ x ∧ x ≤ (an : Int) - 1
 ·rw [if_pos (by simpa using c)]; congr 1; rw [Bool.eq_iff_iff]; simp; omega
 ·rw [if_neg (by simpa using c), decide_eq_false (by omega)]

/- Two images of the same shape. -/

def sameV (w h p : Int) (d : List Int) (w' h' p' : Int) (d' : List Int) : Bool := validI w h p d && (validI w' h' p' d' && decide (w = w' ∧ h = h' ∧ p = p'))
theorem sameV_iff (w h p : Int) (d : List Int) (w' h' p' : Int) (d' : List Int) : sameV w h p d w' h' p' d' = true ↔ validI w h p d = true ∧ validI w' h' p' d' = true ∧ w = w' ∧ h = h' ∧ p = p' := by
 simp [sameV]
theorem alikeB (w h p w' h' p' : Int) : (if w = w' then (if h = h' then (some (p == p')) else (some false)) else (some false)) = some (decide (w = w' ∧ h = h' ∧ p = p')) := by
 by_cases c1 : w = w'
 ·rw [if_pos c1]
  by_cases c2 : h = h'
  ·rw [if_pos c2]
   by_cases c3 : p = p'
   ·rw [decide_eq_true (show w = w' ∧ h = h' ∧ p = p' from ⟨c1, c2, c3⟩), beq_iff_eq.2 c3]
   ·rw [decide_eq_false (by simp [c3]), beq_eq_false_iff_ne.2 c3]
  ·rw [if_neg c2, decide_eq_false (by simp [c2])]
 ·rw [if_neg c1, decide_eq_false (by simp [c1])]
theorem impl_alike_eq (w h p : Int) (d : List Int) (w' h' p' : Int) (d' : List Int) : impl_alikeImages.f w h p d w' h' p' d' = some (decide (w = w' ∧ h = h' ∧ p = p')) := by
 unfold impl_alikeImages.f
 exact alikeB w h p w' h' p'

/- PatchImage, as the program and the reference have it. -/

def inBx (r : S47) (x y : Nat) : Bool := decide (r.f0 ≤ (x : Int) ∧ (x : Int) < r.f0 + r.f2 ∧ r.f1 ≤ (y : Int) ∧ (y : Int) < r.f1 + r.f3)
def patchPx (an pn : Nat) (d e : List Int) (l : List S47) (x y : Nat) : List Int := if l.any (fun r => inBx r x y) = true then nx pn e (y * an + x) else nx pn d (y * an + x)
theorem patchPx_len {an bn pn : Nat} {d e : List Int} (hd : d.length = (bn * an) * pn) (he : e.length = (bn * an) * pn) (l : List S47) : ∀ x y, x < an → y < bn → (patchPx an pn d e l x y).length = pn := by
 intro x y hx hy
 unfold patchPx
 split
 ·exact nx_length he (lin_lt hx hy)
 ·exact nx_length hd (lin_lt hx hy)
theorem onB_box {a b : Int} {r : S47} (h : onB a b r = true) : ∃ X Y W H : Nat, r = ⟨X, Y, W, H⟩ ∧ 1 ≤ W ∧ 1 ≤ H ∧ (X : Int) + W ≤ a ∧ (Y : Int) + H ≤ b := by
 have h' := (onB_iff a b r).1 h
 obtain ⟨X, hX⟩ := Int.eq_ofNat_of_zero_le h'.1
 obtain ⟨Y, hY⟩ := Int.eq_ofNat_of_zero_le h'.2.2.1
 obtain ⟨W, hW⟩ := Int.eq_ofNat_of_zero_le (show 0 ≤ r.f2 by omega)
 obtain ⟨H, hH⟩ := Int.eq_ofNat_of_zero_le (show 0 ≤ r.f3 by omega)
 exact ⟨X, Y, W, H, by cases r; simp_all, by omega, by omega, by omega, by omega⟩
theorem put1_is {an bn pn : Nat} (h1 : an ≤ 16) (h2 : bn ≤ 16) (h3 : pn ≤ 4) {e : List Int} {x y : Nat} (hx : x < an) (hy : y < bn) (d : List Int) : put1 an pn e x y d = laidOver d ((y * an + x) * pn) (nx pn e (y * an + x)) := by
 unfold put1
 rw [(pixJ_nat h1 h2 h3 hx hy).1, Int.toNat_natCast, ← (pixJ_nat h1 h2 h3 hx hy).1]
 rw [show pixT e (pixJ an pn x y) pn = pxAt an pn e x y from rfl, pxAt_nat h1 h2 h3 hx hy]
theorem put1_len {an bn pn : Nat} (h1 : an ≤ 16) (h2 : bn ≤ 16) (h3 : pn ≤ 4) {e : List Int} (he : e.length = (bn * an) * pn) {x y : Nat} (hx : x < an) (hy : y < bn) {d : List Int} (hd : d.length = (bn * an) * pn) : (put1 an pn e x y d).length = (bn * an) * pn := by
 have hlin := lin_lt hx hy
 have hm : (y * an + x + 1) * pn ≤ (bn * an) * pn := Nat.mul_le_mul_right pn hlin
 rw [Nat.add_mul, Nat.one_mul] at hm
 rw [put1_is h1 h2 h3 hx hy, laidOver_length _ _ _ (by rw [nx_length he hlin, hd]; exact hm)]
 exact hd
theorem put1_nx {an bn pn : Nat} (h1 : an ≤ 16) (h2 : bn ≤ 16) (h3 : pn ≤ 4) {e : List Int} (he : e.length = (bn * an) * pn) {x y : Nat} (hx : x < an) (hy : y < bn) {d : List Int} (hd : d.length = (bn * an) * pn) {x' y' : Nat} (hx' : x' < an) (hy' : y' < bn) : nx pn (put1 an pn e x y d) (y' * an + x') = if x' = x ∧ y' = y then nx pn e (y' * an + x') else nx pn d (y' * an + x') := by
 rw [put1_is h1 h2 h3 hx hy, nx_laid hd (nx_length he (lin_lt hx hy)) (lin_lt hx hy) (lin_lt hx' hy')]
 by_cases c : x' = x ∧ y' = y
 ·rw [if_pos c, if_pos (by rw [c.1, c.2]), c.1, c.2]
 ·rw [if_neg c, if_neg (fun z => c (lin_ne hx' hx z))]
theorem putX_nx {an bn pn : Nat} (h1 : an ≤ 16) (h2 : bn ≤ 16) (h3 : pn ≤ 4) {e : List Int} (he : e.length = (bn * an) * pn) {X y : Nat} (hy : y < bn) {d : List Int} (hd : d.length = (bn * an) * pn) : ∀ n, X + n ≤ an → (putX an pn e X y n d).length = (bn * an) * pn ∧ ∀ x' y', x' < an → y' < bn → nx pn (putX an pn e X y n d) (y' * an + x') = if y' = y ∧ X ≤ x' ∧ x' < X + n then nx pn e (y' * an + x') else nx pn d (y' * an + x') := by
 intro n
 induction n with
 | zero =>
  intro _
  refine ⟨hd, fun x' y' hx' hy' => ?_⟩
  rw [if_neg (by omega)]
  rfl
 | succ n ih =>
  intro hn
  obtain ⟨i1, i2⟩ := ih (by omega)
  rw [putX_succ]
  refine ⟨put1_len h1 h2 h3 he (by omega) hy i1, fun x' y' hx' hy' => ?_⟩
  rw [put1_nx h1 h2 h3 he (by omega) hy i1 hx' hy', i2 x' y' hx' hy']
  by_cases c : x' = X + n ∧ y' = y
  ·rw [if_pos c, if_pos (by omega)]
  ·rw [if_neg c]
   by_cases c2 : y' = y ∧ X ≤ x' ∧ x' < X + n
   ·rw [if_pos c2, if_pos (by omega)]
   ·rw [if_neg c2, if_neg (by omega)]
theorem putB_nx {an bn pn : Nat} (h1 : an ≤ 16) (h2 : bn ≤ 16) (h3 : pn ≤ 4) {e : List Int} (he : e.length = (bn * an) * pn) {X Y W : Nat} (hW : X + W ≤ an) {d : List Int} (hd : d.length = (bn * an) * pn) : ∀ n, Y + n ≤ bn → (putB an pn e X Y W n d).length = (bn * an) * pn ∧ ∀ x' y', x' < an → y' < bn → nx pn (putB an pn e X Y W n d) (y' * an + x') = if X ≤ x' ∧ x' < X + W ∧ Y ≤ y' ∧ y' < Y + n then nx pn e (y' * an + x') else nx pn d (y' * an + x') := by
 intro n
 induction n with
 | zero =>
  intro _
  refine ⟨hd, fun x' y' hx' hy' => ?_⟩
  rw [if_neg (by omega)]
  rfl
 | succ n ih =>
  intro hn
  obtain ⟨i1, i2⟩ := ih (by omega)
  obtain ⟨i3, i4⟩ := putX_nx h1 h2 h3 he (X := X) (y := Y + n) (by omega) i1 W hW
  rw [putB_succ]
  refine ⟨i3, fun x' y' hx' hy' => ?_⟩
  rw [i4 x' y' hx' hy', i2 x' y' hx' hy']
  by_cases c : y' = Y + n ∧ X ≤ x' ∧ x' < X + W
  ·rw [if_pos c, if_pos (by omega)]
  ·rw [if_neg c]
   by_cases c2 : X ≤ x' ∧ x' < X + W ∧ Y ≤ y' ∧ y' < Y + n
   ·rw [if_pos c2, if_pos (by omega)]
   ·rw [if_neg c2, if_neg (by omega)]
theorem patchD_nx {an bn pn : Nat} (h1 : an ≤ 16) (h2 : bn ≤ 16) (h3 : pn ≤ 4) {e : List Int} (he : e.length = (bn * an) * pn) : ∀ (l : List S47), (∀ r ∈ l, onB an bn r = true) → ∀ d : List Int, d.length = (bn * an) * pn → (patchD an pn e l d).length = (bn * an) * pn ∧ ∀ x' y', x' < an → y' < bn → nx pn (patchD an pn e l d) (y' * an + x') = patchPx an pn d e l x' y' := by
 intro l
 induction l with
 | nil =>
  intro _ d hd
  exact ⟨hd, fun x' y' _ _ => rfl⟩
 | cons r l ih =>
  intro hl d hd
  obtain ⟨X, Y, W, H, rfl, hW, hH, hXW, hYH⟩ := onB_box (hl r (by simp))
  obtain ⟨i1, i2⟩ := putB_nx h1 h2 h3 he (X := X) (Y := Y) (W := W) (by omega) hd H (by omega)
  obtain ⟨i3, i4⟩ := ih (fun q hq => hl q (by simp [hq])) _ i1
  have e0 : patchD an pn e ((⟨X, Y, W, H⟩ : S47) :: l) d = patchD an pn e l (putB an pn e X Y W H d) := rfl
  rw [e0]
  refine ⟨i3, fun x' y' hx' hy' => ?_⟩
  rw [i4 x' y' hx' hy']
  unfold patchPx
  rw [List.any_cons, i2 x' y' hx' hy']
  by_cases c : l.any (fun r => inBx r x' y') = true
  ·rw [if_pos c, if_pos (by rw [c]; simp)]
  ·rw [if_neg c]
   have cf : l.any (fun r => inBx r x' y') = false := Bool.eq_false_iff.2 c
   rw [cf, Bool.or_false]
   by_cases c2 : X ≤ x' ∧ x' < X + W ∧ Y ≤ y' ∧ y' < Y + H
   ·rw [if_pos c2, if_pos (by unfold inBx; exact decide_eq_true (by show (X : Int) ≤ x' ∧ (x' : Int) < (X : Int) + (W : Int) ∧ (Y : Int) ≤ y' ∧ (y' : Int) < (Y : Int) + (H : Int); omega))]
   ·rw [if_neg c2, if_neg (by unfold inBx; rw [decide_eq_false (by show ¬ ((X : Int) ≤ x' ∧ (x' : Int) < (X : Int) + (W : Int) ∧ (Y : Int) ≤ y' ∧ (y' : Int) < (Y : Int) + (H : Int)); omega)]; simp)]

/- What the program's and the reference's BlendNumber come to, over whole numbers alone. -/

def P255 (n : Int) : Int := (2 * n + 255) / 510
theorem part255_eq (n : Int) (h0 : 0 ≤ n) (h1 : n ≤ 10000000) : impl_part255.f n = some (P255 n) := by
 unfold impl_part255.f P255
 rw [w64 (x := 2 * n) (by omega) (by omega), w64 (x := 2 * n + 255) (by omega) (by omega), tdiv_nn _ _ (by omega), w64 (by omega) (by omega)]
theorem P255_range (n : Int) (h0 : 0 ≤ n) (h1 : n ≤ 65025) : 0 ≤ P255 n ∧ P255 n ≤ 255 := by unfold P255; omega
theorem prod_range (a b : Int) (ha : 0 ≤ a) (ha' : a ≤ 255) (hb : 0 ≤ b) (hb' : b ≤ 255) : 0 ≤ a * b ∧ a * b ≤ 65025 := by
 refine ⟨Int.mul_nonneg ha hb, ?_⟩
 have := Int.mul_le_mul ha' hb' hb (by omega : (0 : Int) ≤ 255)
 omega
def mixN (mode a b : Int) : Int :=
 if mode = 1 then P255 (a * b) else if mode = 2 then 255 - P255 ((255 - a) * (255 - b)) else if mode = 3 then min a b else if mode = 4 then max a b else b
theorem mixN_range (mode a b : Int) (ha : 0 ≤ a) (ha' : a ≤ 255) (hb : 0 ≤ b) (hb' : b ≤ 255) : 0 ≤ mixN mode a b ∧ mixN mode a b ≤ 255 := by
 have h1 := prod_range a b ha ha' hb hb'
 have h2 := prod_range (255 - a) (255 - b) (by omega) (by omega) (by omega) (by omega)
 have h3 := P255_range _ h1.1 h1.2
 have h4 := P255_range _ h2.1 h2.2
 unfold mixN
 split
 ·exact h3
 split
 ·omega
 split
 ·omega
 split
 ·omega
 ·omega
def coverN (mode a b alpha : Int) : Int := P255 (alpha * mixN mode a b + (255 - alpha) * a)
theorem cover_sum (m a alpha : Int) (ha : 0 ≤ a) (ha' : a ≤ 255) (hm : 0 ≤ m) (hm' : m ≤ 255) (h : 0 ≤ alpha) (h' : alpha ≤ 255) :
  255 * min a m ≤ alpha * m + (255 - alpha) * a ∧ alpha * m + (255 - alpha) * a ≤ 255 * max a m := by
 have e : (255 - alpha) * a = 255 * a - alpha * a := by rw [Int.sub_mul]
 rw [e]
 have k1 : alpha * m - alpha * a = alpha * (m - a) := by rw [Int.mul_sub]
 by_cases c : a ≤ m
 ·have i1 : 0 ≤ alpha * (m - a) := Int.mul_nonneg h (by omega)
  have i2 : alpha * (m - a) ≤ 255 * (m - a) := Int.mul_le_mul_of_nonneg_right h' (by omega)
  omega
 ·have i1 : 0 ≤ alpha * (a - m) := Int.mul_nonneg h (by omega)
  have i2 : alpha * (a - m) ≤ 255 * (a - m) := Int.mul_le_mul_of_nonneg_right h' (by omega)
  have k2 : alpha * m - alpha * a = -(alpha * (a - m)) := by rw [Int.mul_sub]; omega
  omega
theorem cover_between (mode a b alpha : Int) (ha : 0 ≤ a) (ha' : a ≤ 255) (hb : 0 ≤ b) (hb' : b ≤ 255) (h : 0 ≤ alpha) (h' : alpha ≤ 255) :
  min a (mixN mode a b) ≤ coverN mode a b alpha ∧ coverN mode a b alpha ≤ max a (mixN mode a b) := by
 have hm := mixN_range mode a b ha ha' hb hb'
 have hs := cover_sum (mixN mode a b) a alpha ha ha' hm.1 hm.2 h h'
 unfold coverN
 generalize mixN mode a b = m at *
 generalize alpha * m + (255 - alpha) * a = s at *
 unfold P255
 omega
theorem impl_sum (m a alpha : Int) (ha : 0 ≤ a) (ha' : a ≤ 255) (hm : 0 ≤ m) (hm' : m ≤ 255) (h : 0 ≤ alpha) (h' : alpha ≤ 255) :
  wrap64 (wrap64 (alpha * m) + wrap64 (wrap64 (255 - alpha) * a)) = alpha * m + (255 - alpha) * a ∧ 0 ≤ alpha * m + (255 - alpha) * a ∧ alpha * m + (255 - alpha) * a ≤ 65025 := by
 have h1 := prod_range alpha m h h' hm hm'
 have h2 := prod_range (255 - alpha) a (by omega) (by omega) ha ha'
 have h3 := cover_sum m a alpha ha ha' hm hm' h h'
 rw [w64 (x := 255 - alpha) (by omega) (by omega), w64 (x := alpha * m) (by omega) (by omega), w64 (x := (255 - alpha) * a) (by omega) (by omega), w64 (by omega) (by omega)]
 exact ⟨rfl, by omega, by omega⟩
theorem blended_eq (mode a b alpha : Int) (ha : 0 ≤ a) (ha' : a ≤ 255) (hb : 0 ≤ b) (hb' : b ≤ 255) (h : 0 ≤ alpha) (h' : alpha ≤ 255) :
  impl_blended.f mode a b alpha = some (coverN mode a b alpha) := by
 have p1 := prod_range a b ha ha' hb hb'
 have p2 := prod_range (255 - a) (255 - b) (by omega) (by omega) (by omega) (by omega)
 have hm := mixN_range mode a b ha ha' hb hb'
 have q1 := P255_range _ p1.1 p1.2
 have q2 := P255_range _ p2.1 p2.2
 unfold impl_blended.f coverN
 by_cases c1 : mode = 1
 ·rw [if_pos c1, w64 (by omega) (by omega), part255_eq _ p1.1 (by omega)]
  simp only [Option.bind_some]
  have e : mixN mode a b = P255 (a * b) := by simp [mixN, c1]
  rw [e]
  obtain ⟨s1, s2, s3⟩ := impl_sum (P255 (a * b)) a alpha ha ha' q1.1 q1.2 h h'
  rw [s1, part255_eq _ s2 (by omega)]; rfl
 rw [if_neg c1]
 by_cases c2 : mode = 2
 ·rw [if_pos c2, w64 (x := 255 - a) (by omega) (by omega), w64 (x := 255 - b) (by omega) (by omega), w64 (by omega) (by omega), part255_eq _ p2.1 (by omega)]
  simp only [Option.bind_some]
  have e : mixN mode a b = 255 - P255 ((255 - a) * (255 - b)) := by simp [mixN, c2]
  rw [e, w64 (x := 255 - P255 ((255 - a) * (255 - b))) (by omega) (by omega)]
  obtain ⟨s1, s2, s3⟩ := impl_sum (255 - P255 ((255 - a) * (255 - b))) a alpha ha ha' (by omega) (by omega) h h'
  rw [s1, part255_eq _ s2 (by omega)]; rfl
 rw [if_neg c2]
 by_cases c3 : mode = 3
 ·rw [if_pos c3]
  have e : mixN mode a b = mn a b := by simp [mixN, c3, mn_def]
  rw [e] at hm ⊢
  obtain ⟨s1, s2, s3⟩ := impl_sum (mn a b) a alpha ha ha' hm.1 hm.2 h h'
  rw [s1, part255_eq _ s2 (by omega)]; rfl
 rw [if_neg c3]
 by_cases c4 : mode = 4
 ·rw [if_pos c4]
  have e : mixN mode a b = mx a b := by simp [mixN, c4, mx_def]
  rw [e] at hm ⊢
  obtain ⟨s1, s2, s3⟩ := impl_sum (mx a b) a alpha ha ha' hm.1 hm.2 h h'
  rw [s1, part255_eq _ s2 (by omega)]; rfl
 rw [if_neg c4]
 have e : mixN mode a b = b := by simp [mixN, c1, c2, c3, c4]
 rw [e] at hm ⊢
 obtain ⟨s1, s2, s3⟩ := impl_sum b a alpha ha ha' hm.1 hm.2 h h'
 rw [s1, part255_eq _ s2 (by omega)]; rfl
theorem mix_eq (mode a b : Int) (ha : 0 ≤ a) (ha' : a ≤ 255) (hb : 0 ≤ b) (hb' : b ≤ 255) : spec_mix.f mode a b = some (mixN mode a b) := by
 have p1 := prod_range a b ha ha' hb hb'
 have p2 := prod_range (255 - a) (255 - b) (by omega) (by omega) (by omega) (by omega)
 have e1 : 2 * a * b = 2 * (a * b) := Int.mul_assoc ..
 have e2 : 2 * (255 - a) * (255 - b) = 2 * ((255 - a) * (255 - b)) := Int.mul_assoc ..
 unfold spec_mix.f mixN P255
 rw [mn_def, mx_def]
 repeat (split; · first
  | rfl
  | (rw [w64 (x := 2 * a) (by omega) (by omega), e1, w64 (x := 2 * (a * b)) (by omega) (by omega), w64 (x := 2 * (a * b) + 255) (by omega) (by omega), tdiv_nn _ _ (by omega), w64 (by omega) (by omega)])
  | (rw [w64 (x := 255 - a) (by omega) (by omega), w64 (x := 255 - b) (by omega) (by omega), w64 (x := 2 * (255 - a)) (by omega) (by omega), e2, w64 (x := 2 * ((255 - a) * (255 - b))) (by omega) (by omega), w64 (x := 2 * ((255 - a) * (255 - b)) + 255) (by omega) (by omega), tdiv_nn _ _ (by omega), w64 (x := (2 * ((255 - a) * (255 - b)) + 255) / 510) (by omega) (by omega), w64 (by omega) (by omega)]))
 rfl
theorem blend_eq (mode a b alpha : Int) (ha : 0 ≤ a) (ha' : a ≤ 255) (hb : 0 ≤ b) (hb' : b ≤ 255) (h : 0 ≤ alpha) (h' : alpha ≤ 255) :
  spec_blend.f mode a b alpha = some (coverN mode a b alpha) := by
 have hm := mixN_range mode a b ha ha' hb hb'
 unfold spec_blend.f coverN
 rw [mix_eq mode a b ha ha' hb hb']
 simp only [Option.bind_some]
 obtain ⟨s1, s2, s3⟩ := impl_sum (mixN mode a b) a alpha ha ha' hm.1 hm.2 h h'
 rw [s1]
 generalize alpha * mixN mode a b + (255 - alpha) * a = s at *
 unfold P255
 rw [w64 (x := 2 * s) (by omega) (by omega), w64 (x := 2 * s + 255) (by omega) (by omega), tdiv_nn _ _ (by omega), w64 (by omega) (by omega)]

/- Layers: valid ones, as the program and the reference have it; copies of a layer. -/

def layerV (w h p : Int) (d : List Int) (x y m a : Int) (pl : Int) : Bool := validI w h p d && decide (p = pl ∧ -16 ≤ x ∧ x ≤ 16 ∧ -16 ≤ y ∧ y ≤ 16 ∧ 0 ≤ m ∧ m ≤ 4 ∧ 0 ≤ a ∧ a ≤ 255)
theorem layerV_iff (w h p : Int) (d : List Int) (x y m a : Int) (pl : Int) : layerV w h p d x y m a pl = true ↔ validI w h p d = true ∧ p = pl ∧ -16 ≤ x ∧ x ≤ 16 ∧ -16 ≤ y ∧ y ≤ 16 ∧ 0 ≤ m ∧ m ≤ 4 ∧ 0 ≤ a ∧ a ≤ 255 := by simp [layerV]
theorem impl_isModeI_eq (m : Int) : impl_isMode.f m = some (decide (0 ≤ m ∧ m ≤ 4)) := by
 unfold impl_isMode.f
 by_cases c : m ≥ 0
 ·rw [if_pos c]; congr 1; rw [decide_eq_decide]; omega
 ·rw [if_neg c, decide_eq_false (by omega)]
theorem impl_isLayer_eq (w h p : Int) (d : List Int) (x y m a : Int) (b : Bool) (pl : Int) : impl_isLayer.f w h p d x y m a b pl = some (layerV w h p d x y m a pl) := by
 unfold impl_isLayer.f layerV
 rw [impl_isImage_eq, impl_isModeI_eq]
 simp only [Option.bind_some]
 by_cases c : validI w h p d = true
 ·rw [if_pos c, c, Bool.true_and]
  by_cases c1 : p = pl
  ·rw [if_pos c1]
   by_cases c2 : x ≥ -16
   ·rw [if_pos c2]
    by_cases c3 : x ≤ 16
    ·rw [if_pos c3]
     by_cases c4 : y ≥ -16
     ·rw [if_pos c4]
      by_cases c5 : y ≤ 16
      ·rw [if_pos c5]
       by_cases c6 : 0 ≤ m ∧ m ≤ 4
       ·rw [if_pos (by simpa using c6)]
        by_cases c7 : a ≥ 0
        ·rw [if_pos c7]; congr 1; rw [decide_eq_decide]; omega
        ·rw [if_neg c7, decide_eq_false (by omega)]
       ·rw [if_neg (by simpa using c6), decide_eq_false (by omega)]
      ·rw [if_neg c5, decide_eq_false (by omega)]
     ·rw [if_neg c4, decide_eq_false (by omega)]
    ·rw [if_neg c3, decide_eq_false (by omega)]
   ·rw [if_neg c2, decide_eq_false (by omega)]
  ·rw [if_neg c1, decide_eq_false (by omega)]
 ·rw [if_neg c, Bool.eq_false_iff.2 c, Bool.false_and]
theorem spec_validLayer_ev (w h p : Int) (d : List Int) (x y m a : Int) (b : Bool) (pl : Int) (hl : d.length ≤ 1000000000000) : Ev (fun k => spec_validLayer.f k w h p d x y m a b pl) (layerV w h p d x y m a pl) := by
 unfold spec_validLayer.f layerV
 refine ev_bind (spec_validImage_ev w h p d hl) ?_
 by_cases c : validI w h p d = true
 ·refine ev_pos c ?_
  rw [c, Bool.true_and]
  refine ev_const ?_
  rw [spec_inRangeI_eq, spec_inRangeI_eq, spec_inRangeI_eq, spec_inRangeI_eq]
  simp only [Option.bind_some]
  by_cases c1 : p = pl
  ·rw [if_pos c1]
   by_cases c2 : -16 ≤ x ∧ x ≤ 16
   ·rw [if_pos (by simpa using c2)]
    by_cases c3 : -16 ≤ y ∧ y ≤ 16
    ·rw [if_pos (by simpa using c3)]
     by_cases c4 : 0 ≤ m ∧ m ≤ 4
     ·rw [if_pos (by simpa using c4)]; congr 1; rw [Bool.eq_iff_iff]; simp; omega
     ·rw [if_neg (by simpa using c4), decide_eq_false (by omega)]
    ·rw [if_neg (by simpa using c3), decide_eq_false (by omega)]
   ·rw [if_neg (by simpa using c2), decide_eq_false (by omega)]
  ·rw [if_neg c1, decide_eq_false (by omega)]
 ·refine ev_neg c ?_
  rw [Bool.eq_false_iff.2 c, Bool.false_and]
  exact Ev.now _

/- CoverImage, as the program and the reference have it. -/

theorem cover_byte (mode a b alpha : Int) (ha : 0 ≤ a) (ha' : a ≤ 255) (hb : 0 ≤ b) (hb' : b ≤ 255) (h : 0 ≤ alpha) (h' : alpha ≤ 255) : 0 ≤ coverN mode a b alpha ∧ coverN mode a b alpha ≤ 255 := by
 have h1 := cover_between mode a b alpha ha ha' hb hb' h h'
 have h2 := mixN_range mode a b ha ha' hb hb'
 omega
def AllB (d : List Int) : Prop := ∀ n ∈ d, 0 ≤ n ∧ n ≤ 255
theorem allB_at {d : List Int} (h : AllB d) (i : Nat) (hi : i < d.length) : 0 ≤ d[i] ∧ d[i] ≤ 255 := h _ (List.getElem_mem hi)
theorem allB_nx {d : List Int} (h : AllB d) (n i : Nat) : AllB (nx n d i) := fun x hx => h x (List.mem_of_mem_drop (List.mem_of_mem_take hx))
theorem blV_cover {mode alpha n u : Int} (h1 : 0 ≤ alpha ∧ alpha ≤ 255) (h2 : 0 ≤ n ∧ n ≤ 255) (h3 : 0 ≤ u ∧ u ≤ 255) : blV mode alpha n u = coverN mode n u alpha := by
 unfold blV
 rw [blended_eq mode n u alpha h2.1 h2.2 h3.1 h3.2 h1.1 h1.2]
 rfl
def covL (mode alpha : Int) (l u : List Int) : List Int := List.zipWith (fun n m => coverN mode n m alpha) l u
theorem zip_cover {mode alpha : Int} (h1 : 0 ≤ alpha ∧ alpha ≤ 255) : ∀ {l u : List Int}, AllB l → AllB u → List.zipWith (blV mode alpha) l u = covL mode alpha l u := by
 intro l
 induction l with
 | nil => intro u _ _; rfl
 | cons x l ih =>
  intro u hl hu
  cases u with
  | nil => rfl
  | cons y u =>
   unfold covL at ih ⊢
   rw [List.zipWith_cons_cons, List.zipWith_cons_cons, blV_cover h1 (hl x (by simp)) (hu y (by simp)), ih (fun z hz => hl z (by simp [hz])) (fun z hz => hu z (by simp [hz]))]
theorem covL_len {mode alpha : Int} {l u : List Int} {n : Nat} (h1 : l.length = n) (h2 : u.length = n) : (covL mode alpha l u).length = n := by unfold covL; rw [List.length_zipWith]; omega
theorem covL_bytes {mode alpha : Int} (h1 : 0 ≤ alpha ∧ alpha ≤ 255) {l u : List Int} (hl : AllB l) (hu : AllB u) : AllB (covL mode alpha l u) := by
 intro z hz
 unfold covL at hz
 obtain ⟨i, hi, rfl⟩ := List.getElem_of_mem hz
 rw [List.length_zipWith] at hi
 rw [List.getElem_zipWith]
 have a := allB_at hl i (by omega)
 have b := allB_at hu i (by omega)
 exact cover_byte _ _ _ _ a.1 a.2 b.1 b.2 h1.1 h1.2
def covPx (an pn : Nat) (d : List Int) (X Y : Int) (wn hn : Nat) (e : List Int) (mode alpha : Int) (x y : Nat) : List Int :=
 if X ≤ (x : Int) ∧ (x : Int) < X + wn ∧ Y ≤ (y : Int) ∧ (y : Int) < Y + hn then covL mode alpha (nx pn d (y * an + x)) (nx pn e (((y : Int) - Y).toNat * wn + ((x : Int) - X).toNat)) else nx pn d (y * an + x)
theorem covPx_len {an bn pn wn hn : Nat} {d e : List Int} {X Y : Int} (mode alpha : Int) (hd : d.length = (bn * an) * pn) (he : e.length = (hn * wn) * pn) : ∀ x y, x < an → y < bn → (covPx an pn d X Y wn hn e mode alpha x y).length = pn := by
 intro x y hx hy
 unfold covPx
 split
 ·exact covL_len (nx_length hd (lin_lt hx hy)) (nx_length he (lin_lt (by omega) (by omega)))
 ·exact nx_length hd (lin_lt hx hy)
theorem coverPx_cov {an bn pn wn hn : Nat} (h1 : an ≤ 16) (h2 : bn ≤ 16) (h3 : pn ≤ 4) (h4 : wn ≤ 16) (h5 : hn ≤ 16) {d e : List Int} {X Y mode alpha : Int} (ha : 0 ≤ alpha ∧ alpha ≤ 255) (hd : AllB d) (he : AllB e) {x y : Nat} (hx : x < an) (hy : y < bn) :
  coverPx an pn d wn hn e X Y mode alpha x y = covPx an pn d X Y wn hn e mode alpha x y := by
 unfold coverPx covPx inBoxZ
 by_cases c : X ≤ (x : Int) ∧ (x : Int) < X + wn ∧ Y ≤ (y : Int) ∧ (y : Int) < Y + hn
 ·rw [if_pos c, if_pos (decide_eq_true c), pxAt_nat h1 h2 h3 hx hy, pxAt_nat h4 h5 h3 (by omega) (by omega)]
  exact zip_cover ha (allB_nx hd _ _) (allB_nx he _ _)
 ·rw [if_neg c, if_neg (by simpa using c), pxAt_nat h1 h2 h3 hx hy]
theorem laid_get (s zs : List Int) (j q : Nat) (hq : q < zs.length) (hj : j + zs.length ≤ s.length) : (laidOver s j (zs.take q)).getD (j + q) 0 = s.getD (j + q) 0 := by
 have h1 : (zs.take q).length = q := by rw [List.length_take]; omega
 have h2 : (s.take j).length = j := by rw [List.length_take]; omega
 unfold laidOver
 rw [List.getD_eq_getElem?_getD, List.getElem?_append_right (by omega), h2, Nat.add_sub_cancel_left, List.getElem?_append_right (by omega), h1, Nat.sub_self, List.getElem?_drop, Nat.add_zero, List.getD_eq_getElem?_getD]
theorem nx_getD (s : List Int) (n i q : Nat) (hq : q < n) : (nx n s i).getD q 0 = s.getD (i * n + q) 0 := by
 unfold nx
 rw [List.getD_eq_getElem?_getD, List.getElem?_take, if_pos hq, List.getElem?_drop, List.getD_eq_getElem?_getD]
theorem rd_getD (l : List Int) (i : Nat) : rd l (i : Int) = l.getD i 0 := by simp [rd]
theorem blendPx_ev {an bn pn wn hn : Nat} {X Y mode alpha : Int} (hid : Bool) (hal : 0 ≤ alpha ∧ alpha ≤ 255) (r c : Nat) (hr : r ≤ 16) (hc : c ≤ 16) (s e : List Int) (jd je : Nat) (hs1 : s.length ≤ 1024) (he1 : e.length ≤ 1024) (hm : jd * pn + pn ≤ s.length) (hme : je * pn + pn ≤ e.length) (hp : pn ≤ 4) (hdb : AllB (nx pn s jd)) (heb : AllB (nx pn e je))
  (hJ : wrap64 ((wrap64 ((wrap64 ((wrap64 ((wrap64 (Y + (r : Int))) * (an : Int))) + X)) + (c : Int))) * (pn : Int)) = ((jd * pn : Nat) : Int)) (hJe : wrap64 ((wrap64 ((wrap64 ((r : Int) * (wn : Int))) + (c : Int))) * (pn : Int)) = ((je * pn : Nat) : Int)) (res : List Int)
  (hres : Ev (fun k => spec_blendPaste.l1 k (r : Int) ((c + 1 : Nat) : Int) an bn pn (laidOver s (jd * pn) (covL mode alpha (nx pn s jd) (nx pn e je))) wn hn pn e X Y mode alpha hid) res) :
  Ev (fun k => spec_blendPaste.l2 k (r : Int) (c : Int) 0 an bn pn s wn hn pn e X Y mode alpha hid) res := by
 have HJ := Aside0.mk hJ
 have HJe := Aside0.mk hJe
 clear hJ hJe
 have hl1 : (nx pn s jd).length = pn := by unfold nx; rw [List.length_take, List.length_drop]; omega
 have hl2 : (nx pn e je).length = pn := by unfold nx; rw [List.length_take, List.length_drop]; omega
 obtain ⟨zs, hzs⟩ : ∃ zs, zs = covL mode alpha (nx pn s jd) (nx pn e je) := ⟨_, rfl⟩
 have hyl : zs.length = pn := by rw [hzs]; exact covL_len hl1 hl2
 rw [← hzs] at hres
 have hz : ∀ q (hq : q < pn), zs[q]'(by rw [hyl]; exact hq) = coverN mode ((nx pn s jd).getD q 0) ((nx pn e je).getD q 0) alpha := by
  intro q hq
  have hzq : zs[q]? = some (coverN mode ((nx pn s jd).getD q 0) ((nx pn e je).getD q 0) alpha) := by
   rw [hzs]
   unfold covL
   rw [List.getElem?_zipWith, List.getElem?_eq_getElem (show q < (nx pn s jd).length by omega), List.getElem?_eq_getElem (show q < (nx pn e je).length by omega), List.getD_eq_getElem?_getD, List.getElem?_eq_getElem (show q < (nx pn s jd).length by omega), List.getD_eq_getElem?_getD, List.getElem?_eq_getElem (show q < (nx pn e je).length by omega)]
   rfl
  rw [List.getElem?_eq_getElem (show q < zs.length by omega)] at hzq
  exact Option.some.inj hzq
 have hb : ∀ q, q < pn → (0 ≤ (nx pn s jd).getD q 0 ∧ (nx pn s jd).getD q 0 ≤ 255) ∧ (0 ≤ (nx pn e je).getD q 0 ∧ (nx pn e je).getD q 0 ≤ 255) := by
  intro q hq
  refine ⟨?_, ?_⟩
  ·rw [List.getD_eq_getElem?_getD, List.getElem?_eq_getElem (show q < (nx pn s jd).length by omega)]; exact allB_at hdb q (by omega)
  ·rw [List.getD_eq_getElem?_getD, List.getElem?_eq_getElem (show q < (nx pn e je).length by omega)]; exact allB_at heb q (by omega)
 have hg : ∀ q, q < pn → rd (laidOver s (jd * pn) (zs.take q)) ((jd * pn + q : Nat) : Int) = (nx pn s jd).getD q 0 := fun q hq => by rw [rd_getD, laid_get s zs _ q (by omega) (by omega), ← nx_getD s pn jd q hq]
 have hg2 : ∀ q, q < pn → rd e ((je * pn + q : Nat) : Int) = (nx pn e je).getD q 0 := fun q hq => by rw [rd_getD, ← nx_getD e pn je q hq]
 have hls : ∀ q, q < pn → (laidOver s (jd * pn) (zs.take q)).length = s.length := fun q hq => laidOver_length s _ _ (by rw [List.length_take]; omega)
 have hset : ∀ q (hq : q < pn), (laidOver s (jd * pn) (zs.take q)).set (jd * pn + q) (zs[q]'(by rw [hyl]; exact hq)) = laidOver s (jd * pn) (zs.take (q + 1)) := fun q hq => laid_set s zs (jd * pn) q (by omega) (by omega)
 clear hzs hdb heb
 generalize nx pn s jd = S at *
 generalize nx pn e je = E at *
 generalize hjp : jd * pn = j at *
 generalize hjq : je * pn = i at *
 clear hjp hjq
 obtain ⟨s2, hs2, hk⟩ := ev_run pn (fun k q s' => spec_blendPaste.l2 k (r : Int) (c : Int) (q : Int) an bn pn s' wn hn pn e X Y mode alpha hid) (fun s' k => spec_blendPaste.l1 k (r : Int) ((c + 1 : Nat) : Int) an bn pn s' wn hn pn e X Y mode alpha hid) (fun q s' => s' = laidOver s j (zs.take q))
  (by
   intro q s' hq hs'
   subst hs'
   refine ⟨_, hset q hq, fun res hres => Ev.step (fun k => ?_) hres⟩
   have b := hb q hq
   have hh := hls q hq
   have a1 := Aside0.mk (show wrap64 ((j : Int) + (q : Int)) = ((j + q : Nat) : Int) from by rw [w64 (by omega) (by omega)]; push_cast; rfl)
   have a2 := Aside0.mk (show wrap64 ((i : Int) + (q : Int)) = ((i + q : Nat) : Int) from by rw [w64 (by omega) (by omega)]; push_cast; rfl)
   have hp1 : (q : Int) < (pn : Int) := by omega
   have hp2 : (0 : Int) ≤ ((j + q : Nat) : Int) := by omega
   have hp3 : ((j + q : Nat) : Int) < ((laidOver s j (zs.take q)).length : Int) := by rw [hh]; omega
   have hp4 : (0 : Int) ≤ ((i + q : Nat) : Int) := by omega
   have hp5 : ((i + q : Nat) : Int) < (e.length : Int) := by omega
   simp only [spec_blendPaste.l2]
   rw [HJ.out, HJe.out, a1.out, a2.out, hg q hq, hg2 q hq, if_pos hp1, if_pos hp2, if_pos hp3, if_pos hp4, if_pos hp5, blend_eq mode _ _ alpha b.1.1 b.1.2 b.2.1 b.2.2 hal.1 hal.2]
   simp only [Option.bind_some]
   rw [← hz q hq, w64n q (by omega), Int.toNat_natCast])
  (by
   intro s' _ res hres
   refine Ev.step (fun k => ?_) hres
   simp only [spec_blendPaste.l2]
   rw [if_neg (by omega), w64n c (by omega)])
  pn 0 s (by omega) (by unfold laidOver; simp)
 rw [List.take_of_length_le (by omega)] at hs2
 subst hs2
 exact hk _ hres
theorem at_px2 {an pn x0 y0 r c : Nat} {X Y : Int} (h1 : an ≤ 16) (hy : y0 ≤ 16) (hx0 : X + (c : Int) = (x0 : Int)) (hy0 : Y + (r : Int) = (y0 : Int)) (hX : -16 ≤ X ∧ X ≤ 16) (hY : -16 ≤ Y ∧ Y ≤ 16) (hr : r ≤ 16) (hc : c ≤ 16) (hJ : pixJ an pn x0 y0 = (((y0 * an + x0) * pn : Nat) : Int)) :
  wrap64 ((wrap64 ((wrap64 ((wrap64 ((wrap64 (Y + (r : Int))) * (an : Int))) + X)) + (c : Int))) * (pn : Int)) = (((y0 * an + x0) * pn : Nat) : Int) := by
 rw [← hJ]
 unfold pixJ
 clear hJ
 have hya : y0 * an ≤ 16 * 16 := Nat.mul_le_mul hy h1
 rw [hy0, w64 (x := (y0 : Int)) (by omega) (by omega)]
 have e1 : ((y0 : Int) * (an : Int)) = ((y0 * an : Nat) : Int) := by push_cast; rfl
 rw [e1]
 clear e1
 generalize y0 * an = t at *
 rw [w64 (x := (t : Int)) (by omega) (by omega), w64 (x := (t : Int) + X) (by omega) (by omega), show (t : Int) + X + (c : Int) = (t : Int) + (x0 : Int) by omega]
theorem blendPaste_ev {an bn pn wn hn : Nat} {X Y mode alpha : Int} (hid : Bool) (h1 : 1 ≤ an ∧ an ≤ 16) (h2 : 1 ≤ bn ∧ bn ≤ 16) (h3 : pn ≤ 4) (h4 : wn ≤ 16) (h5 : hn ≤ 16) (hX : -16 ≤ X ∧ X ≤ 16) (hY : -16 ≤ Y ∧ Y ≤ 16) (hal : 0 ≤ alpha ∧ alpha ≤ 255) (d e : List Int) (hd : d.length = (bn * an) * pn) (he : e.length = (hn * wn) * pn) (hdb : AllB d) (heb : AllB e) :
  Ev (fun k => spec_blendPaste.f k an bn pn d wn hn pn e X Y mode alpha hid) (imgD (covPx an pn d X Y wn hn e mode alpha) an bn) := by
 unfold spec_blendPaste.f
 have hlen := covPx_len (X := X) (Y := Y) mode alpha hd he
 let I : Nat → Nat → List Int → Prop := fun r c s => s.length = (bn * an) * pn ∧ ∀ x y : Nat, x < an → y < bn → nx pn s (y * an + x) = if X ≤ (x : Int) ∧ (x : Int) < X + wn ∧ Y ≤ (y : Int) ∧ (y : Int) < Y + hn ∧ ((y : Int) < Y + r ∨ ((y : Int) = Y + r ∧ (x : Int) < X + c)) then covL mode alpha (nx pn d (y * an + x)) (nx pn e (((y : Int) - Y).toNat * wn + ((x : Int) - X).toNat)) else nx pn d (y * an + x)
 have inner : ∀ (r : Nat), r < hn → ∀ s : List Int, I r 0 s → ∃ s' : List Int, I (r + 1) 0 s' ∧
    ∀ res, Ev (fun k => spec_blendPaste.l0 k ((r + 1 : Nat) : Int) an bn pn s' wn hn pn e X Y mode alpha hid) res → Ev (fun k => spec_blendPaste.l1 k (r : Int) 0 an bn pn s wn hn pn e X Y mode alpha hid) res := by
  intro r hr s hs
  obtain ⟨s', i4, i5⟩ := ev_run wn (fun k c s => spec_blendPaste.l1 k (r : Int) (c : Int) an bn pn s wn hn pn e X Y mode alpha hid) (fun s k => spec_blendPaste.l0 k ((r + 1 : Nat) : Int) an bn pn s wn hn pn e X Y mode alpha hid) (fun c s => I r c s)
   (by
    intro c s hc ⟨hsl, i1⟩
    have w1 := w64 (x := X + (c : Int)) (by omega) (by omega)
    have w2 := w64 (x := Y + (r : Int)) (by omega) (by omega)
    by_cases on : 0 ≤ X + (c : Int) ∧ X + (c : Int) < an ∧ 0 ≤ Y + (r : Int) ∧ Y + (r : Int) < bn
    ·obtain ⟨x0, hx0⟩ := Int.eq_ofNat_of_zero_le on.1
     obtain ⟨y0, hy0⟩ := Int.eq_ofNat_of_zero_le on.2.2.1
     have hx0a : x0 < an := by omega
     have hy0b : y0 < bn := by omega
     have hel : (nx pn e (r * wn + c)).length = pn := nx_length he (lin_lt hc hr)
     have hdl : (nx pn d (y0 * an + x0)).length = pn := nx_length hd (lin_lt hx0a hy0b)
     have hlin := lin_lt hx0a hy0b
     obtain ⟨zs, hzs⟩ : ∃ zs, zs = covL mode alpha (nx pn d (y0 * an + x0)) (nx pn e (r * wn + c)) := ⟨_, rfl⟩
     have hyl : zs.length = pn := by rw [hzs]; exact covL_len hdl hel
     have hm : (y0 * an + x0 + 1) * pn ≤ (bn * an) * pn := Nat.mul_le_mul_right pn hlin
     rw [Nat.add_mul, Nat.one_mul] at hm
     have hme : (r * wn + c + 1) * pn ≤ (hn * wn) * pn := Nat.mul_le_mul_right pn (lin_lt hc hr)
     rw [Nat.add_mul, Nat.one_mul] at hme
     have sm := small h1.2 h2.2 h3
     have sme := small h4 h5 h3
     have hsd : nx pn s (y0 * an + x0) = nx pn d (y0 * an + x0) := by rw [i1 x0 y0 hx0a hy0b, if_neg (by omega)]
     refine ⟨laidOver s ((y0 * an + x0) * pn) zs, ⟨by rw [laidOver_length _ _ _ (by rw [hyl, hsl]; exact hm)]; exact hsl, ?_⟩, ?_⟩
     ·intro x y hx hy
      rw [nx_laid hsl hyl hlin (lin_lt hx hy)]
      by_cases q : x = x0 ∧ y = y0
      ·obtain ⟨rfl, rfl⟩ := q
       rw [if_pos rfl, if_pos (by omega), show ((y : Int) - Y).toNat = r by omega, show ((x : Int) - X).toNat = c by omega]
       exact hzs
      ·rw [if_neg (fun z => q (lin_ne hx hx0a z)), i1 x y hx hy]
       by_cases z : X ≤ (x : Int) ∧ (x : Int) < X + wn ∧ Y ≤ (y : Int) ∧ (y : Int) < Y + hn ∧ ((y : Int) < Y + r ∨ ((y : Int) = Y + r ∧ (x : Int) < X + c))
       ·rw [if_pos z, if_pos (by omega)]
       ·rw [if_neg z, if_neg (by omega)]
     ·intro res hres
      have HJ2 := Aside0.mk (at_px2 (X := X) (Y := Y) (x0 := x0) (y0 := y0) (r := r) (c := c) h1.2 (by omega) hx0 hy0 hX hY (by omega) (by omega) (pixJ_nat h1.2 h2.2 h3 hx0a hy0b).1)
      have HJe := Aside0.mk (pixJ_nat h4 h5 h3 hc hr).1
      have HB1 := Aside0.mk (show AllB (nx pn s (y0 * an + x0)) from by rw [hsd]; exact allB_nx hdb _ _)
      have q1 : s.length ≤ 1024 := by omega
      have q2 : e.length ≤ 1024 := by omega
      have q3 : (y0 * an + x0) * pn + pn ≤ s.length := by omega
      have q4 : (r * wn + c) * pn + pn ≤ e.length := by omega
      have HX1 := Aside0.mk (show zs = covL mode alpha (nx pn s (y0 * an + x0)) (nx pn e (r * wn + c)) from by rw [hzs, hsd])
      clear hzs hsd i1
      rw [HX1.out] at hres
      refine Ev.step (f := fun k => (spec_onImage.f an bn pn s (X + (c : Int)) (Y + (r : Int))).bind fun u => if u = true then spec_blendPaste.l2 k (r : Int) (c : Int) 0 an bn pn s wn hn pn e X Y mode alpha hid else spec_blendPaste.l1 k (r : Int) ((c + 1 : Nat) : Int) an bn pn s wn hn pn e X Y mode alpha hid) (fun k => ?_) (ev_now (onImage_eq h1 h2 _ _ _ _) (ev_pos (decide_eq_true on) (blendPx_ev hid hal r c (by omega) (by omega) s e (y0 * an + x0) (r * wn + c) q1 q2 q3 q4 h3 HB1.out (allB_nx heb _ _) HJ2.out HJe.out res hres)))
      simp only [spec_blendPaste.l1]
      rw [if_pos (by omega), w1, w2, w64n c (by omega)]
    ·refine ⟨s, ⟨hsl, fun x y hx hy => ?_⟩, ?_⟩
     ·rw [i1 x y hx hy]
      by_cases z : X ≤ (x : Int) ∧ (x : Int) < X + wn ∧ Y ≤ (y : Int) ∧ (y : Int) < Y + hn ∧ ((y : Int) < Y + r ∨ ((y : Int) = Y + r ∧ (x : Int) < X + c))
      ·rw [if_pos z, if_pos (by omega)]
      ·rw [if_neg z, if_neg (by omega)]
     ·intro res hres
      refine Ev.step (f := fun k => (spec_onImage.f an bn pn s (X + (c : Int)) (Y + (r : Int))).bind fun u => if u = true then spec_blendPaste.l2 k (r : Int) (c : Int) 0 an bn pn s wn hn pn e X Y mode alpha hid else spec_blendPaste.l1 k (r : Int) ((c + 1 : Nat) : Int) an bn pn s wn hn pn e X Y mode alpha hid) (fun k => ?_) (ev_now (onImage_eq h1 h2 _ _ _ _) (ev_neg (by simpa using on) hres))
      simp only [spec_blendPaste.l1]
      rw [if_pos (by omega), w1, w2, w64n c (by omega)])
   (by
    intro s _ res hres
    refine Ev.step (fun k => ?_) hres
    simp only [spec_blendPaste.l1]
    rw [if_neg (by omega), w64n r (by omega)])
   wn 0 s (by omega) hs
  refine ⟨s', ⟨i4.1, fun x y hx hy => ?_⟩, i5⟩
  rw [i4.2 x y hx hy]
  by_cases z : X ≤ (x : Int) ∧ (x : Int) < X + wn ∧ Y ≤ (y : Int) ∧ (y : Int) < Y + hn ∧ ((y : Int) < Y + r ∨ ((y : Int) = Y + r ∧ (x : Int) < X + wn))
  ·rw [if_pos z, if_pos (by omega)]
  ·rw [if_neg z, if_neg (by omega)]
 obtain ⟨s', i4, i5⟩ := ev_run hn (fun k r s => spec_blendPaste.l0 k (r : Int) an bn pn s wn hn pn e X Y mode alpha hid) (fun s _ => some s) (fun r s => I r 0 s)
  (by
   intro r s hr hs
   obtain ⟨s', i1, i2⟩ := inner r hr s hs
   refine ⟨s', i1, fun res hres => Ev.step (fun k => ?_) (i2 res hres)⟩
   simp only [spec_blendPaste.l0]
   rw [if_pos (by omega)])
  (by
   intro s _ res hres
   refine Ev.step (fun k => ?_) hres
   simp only [spec_blendPaste.l0]
   rw [if_neg (by omega)])
  hn 0 d (by omega) ⟨hd, fun x y hx hy => by rw [if_neg (by omega)]⟩
 have q : s' = imgD (covPx an pn d X Y wn hn e mode alpha) an bn := ext_img i4.1 (imgD_length hlen) (fun x y hx hy => by
  rw [i4.2 x y hx hy, nx_imgD hlen hx hy]
  unfold covPx
  by_cases z : X ≤ (x : Int) ∧ (x : Int) < X + wn ∧ Y ≤ (y : Int) ∧ (y : Int) < Y + hn
  ·rw [if_pos z, if_pos (by omega)]
  ·rw [if_neg z, if_neg (by omega)])
 subst q
 exact i5 _ (Ev.now _)

/- Layers that cover an image, one after the other, as the program and the reference have it. -/

abbrev Lay := S55
theorem valid_imgC {an bn pn : Nat} {px : Nat → Nat → List Int} (h1 : 1 ≤ an ∧ an ≤ 16) (h2 : 1 ≤ bn ∧ bn ≤ 16) (h3 : 1 ≤ pn ∧ pn ≤ 4) (hl : ∀ x y, x < an → y < bn → (px x y).length = pn) (hb : ∀ x y, x < an → y < bn → AllB (px x y)) : validI an bn pn (imgD px an bn) = true := by
 refine (validI_iff _ _ _ _).2 ⟨by omega, by rw [imgD_length hl, Nat.mul_comm bn an]; push_cast; rfl, fun n hn => ?_⟩
 unfold imgD rowD at hn
 obtain ⟨y, hy, hn⟩ := List.mem_flatMap.1 hn
 obtain ⟨x, hx, hn⟩ := List.mem_flatMap.1 hn
 exact hb x y (List.mem_range.1 hx) (List.mem_range.1 hy) n hn
theorem valid_le {a b p : Int} {d : List Int} (hv : validI a b p d = true) : d.length ≤ 1024 := by
 obtain ⟨an, bn, pn, _, _, _, q1, q2, q3, q4, q5, q6, q7⟩ := nat_of hv
 rw [q7]
 exact Nat.mul_le_mul (Nat.mul_le_mul q4 q2) q6
def okL (p : Int) (l : Lay) : Bool := layerV l.f0.f0 l.f0.f1 l.f0.f2 l.f0.f3 l.f1 l.f2 l.f3 l.f4 p
def covD (a b p : Int) (d : List Int) (l : Lay) : List Int := imgD (covPx a.toNat p.toNat d l.f1 l.f2 l.f0.f0.toNat l.f0.f1.toNat l.f0.f3 l.f3 l.f4) a.toNat b.toNat
def onD (a b p : Int) (d : List Int) (l : Lay) : List Int := if l.f5 = true then d else covD a b p d l
def flatD (a b p : Int) : List Int → List Lay → List Int
 | d, [] => d
 | d, l :: ls => flatD a b p (onD a b p d l) ls
def flatV (a b p : Int) (d : List Int) (ls : List Lay) : Int × Int × Int × List Int × Bool := if validI a b p d = true ∧ ls.length ≤ 6 ∧ ls.all (okL p) = true then (a, b, p, flatD a b p d ls, true) else (0, 0, 0, [], false)
theorem covD_valid {a b p : Int} {d : List Int} {l : Lay} (hv : validI a b p d = true) (ho : okL p l = true) : validI a b p (covD a b p d l) = true := by
 obtain ⟨hvl, e, hx1, hx2, hy1, hy2, _, _, ha1, ha2⟩ := (layerV_iff _ _ _ _ _ _ _ _ _).1 ho
 have hb1 := ((validI_iff _ _ _ _).1 hv).2.2
 have hb2 := ((validI_iff _ _ _ _).1 hvl).2.2
 obtain ⟨an, bn, pn, rfl, rfl, rfl, q1, q2, q3, q4, q5, q6, q7⟩ := nat_of hv
 obtain ⟨wn, hn, pm, e1, e2, hpm, q11, q12, q13, q14, _, _, q17⟩ := nat_of hvl
 obtain rfl : pn = pm := Int.ofNat.inj (e.symm.trans hpm)
 unfold covD
 rw [e1, e2]
 simp only [Int.toNat_natCast]
 refine valid_imgC ⟨q1, q2⟩ ⟨q3, q4⟩ ⟨q5, q6⟩ (covPx_len _ _ q7 q17) (fun x y hx hy => ?_)
 unfold covPx
 split
 ·exact covL_bytes ⟨ha1, ha2⟩ (allB_nx hb1 _ _) (allB_nx hb2 _ _)
 ·exact allB_nx hb1 _ _
theorem onD_valid {a b p : Int} {d : List Int} {l : Lay} (hv : validI a b p d = true) (ho : okL p l = true) : validI a b p (onD a b p d l) = true := by
 unfold onD
 split
 ·exact hv
 ·exact covD_valid hv ho
theorem flatD_valid {a b p : Int} : ∀ (ls : List Lay) {d : List Int}, validI a b p d = true → ls.all (okL p) = true → validI a b p (flatD a b p d ls) = true
 | [], d, hv, _ => hv
 | l :: ls, d, hv, ho => by
  rw [List.all_cons, Bool.and_eq_true] at ho
  exact flatD_valid ls (onD_valid hv ho.1) ho.2
theorem impl_cover {a b p : Int} {d : List Int} {l : Lay} (hid : Bool) (hv : validI a b p d = true) (ho : okL p l = true) : impl_coverImage.f a b p d l.f0.f0 l.f0.f1 l.f0.f2 l.f0.f3 l.f1 l.f2 l.f3 l.f4 hid = some (a, b, p, covD a b p d l) := by
 obtain ⟨hvl, e, hx1, hx2, hy1, hy2, _, _, ha1, ha2⟩ := (layerV_iff _ _ _ _ _ _ _ _ _).1 ho
 have hb1 := ((validI_iff _ _ _ _).1 hv).2.2
 have hb2 := ((validI_iff _ _ _ _).1 hvl).2.2
 unfold impl_coverImage.f covD
 rw [if_pos ⟨hv, hvl, e, ⟨hx1, hx2⟩, hy1, hy2⟩]
 obtain ⟨an, bn, pn, rfl, rfl, rfl, q1, q2, q3, q4, q5, q6, q7⟩ := nat_of hv
 obtain ⟨wn, hn, pm, e1, e2, _, q11, q12, q13, q14, _, _, _⟩ := nat_of hvl
 rw [e1, e2]
 simp only [Int.toNat_natCast]
 rw [imgD_congr (fun x y hx hy => coverPx_cov q2 q4 q6 q12 q14 ⟨ha1, ha2⟩ hb1 hb2 hx hy)]
theorem spec_cover {a b p : Int} {d : List Int} {l : Lay} (hid : Bool) (hv : validI a b p d = true) (ho : okL p l = true) : Ev (fun k => spec_blendPaste.f k a b p d l.f0.f0 l.f0.f1 l.f0.f2 l.f0.f3 l.f1 l.f2 l.f3 l.f4 hid) (covD a b p d l) := by
 obtain ⟨hvl, e, hx1, hx2, hy1, hy2, _, _, ha1, ha2⟩ := (layerV_iff _ _ _ _ _ _ _ _ _).1 ho
 have hb1 := ((validI_iff _ _ _ _).1 hv).2.2
 have hb2 := ((validI_iff _ _ _ _).1 hvl).2.2
 unfold covD
 obtain ⟨an, bn, pn, rfl, rfl, rfl, q1, q2, q3, q4, q5, q6, q7⟩ := nat_of hv
 obtain ⟨wn, hn, pm, e1, e2, hpm, q11, q12, q13, q14, _, _, q17⟩ := nat_of hvl
 obtain rfl : pn = pm := Int.ofNat.inj (e.symm.trans hpm)
 rw [e1, e2, hpm]
 simp only [Int.toNat_natCast]
 exact blendPaste_ev hid ⟨q1, q2⟩ ⟨q3, q4⟩ q6 q12 q14 ⟨hx1, hx2⟩ ⟨hy1, hy2⟩ ⟨ha1, ha2⟩ d l.f0.f3 q7 q17 hb1 hb2
theorem rdL_nat (l : List Lay) (i : Nat) (h : i < l.length) : rd_T55 l (i : Int) = l[i] := by simp [rd_T55, h]
theorem dropL (l : List Lay) (i : Nat) (h : i < l.length) : l.drop i = l[i] :: l.drop (i + 1) := List.drop_eq_getElem_cons h
theorem copyC_px (a b p : Int) (d : List Int) (hl : d.length ≤ 1000000) : spec_copyImage.f a b p d = some (a, b, p, d) := by
 unfold spec_copyImage.f
 rw [copyInts_px d hl]
 rfl
theorem impl_copyC_px (a b p : Int) (d : List Int) (hl : d.length ≤ 1000000) : impl_copyImage.f a b p d = some (a, b, p, d) := by
 unfold impl_copyImage.f
 simp only [Option.bind_some]
 rw [if_pos (by simp; omega)]
 simp
theorem specFlat_loop (ls : List Lay) (hl : ls.length ≤ 1000000000) (a b p : Int) : ∀ (n i : Nat) (d : List Int), i + n = ls.length → validI a b p d = true → ls.all (okL p) = true →
  Ev (fun k => spec_flatten.l0 k ls (i : Int) a b p d) (a, b, p, flatD a b p d (ls.drop i))
 | 0, i, d, hi, hv, ho => by
  rw [List.drop_of_length_le (by omega)]
  exact Ev.step (f := fun _ => some (a, b, p, d)) (fun k => by simp only [spec_flatten.l0]; rw [if_neg (by omega)]) (Ev.now _)
 | n + 1, i, d, hi, hv, ho => by
  have hlt : i < ls.length := by omega
  have hok : okL p ls[i] = true := List.all_eq_true.1 ho _ (List.getElem_mem hlt)
  rw [dropL ls i hlt, flatD]
  have ih := specFlat_loop ls hl a b p n (i + 1) (onD a b p d ls[i]) (by omega) (onD_valid hv hok) ho
  unfold onD at ih ⊢
  by_cases c : ls[i].f5 = true
  ·rw [if_pos c] at ih ⊢
   refine Ev.step (fun k => ?_) ih
   simp only [spec_flatten.l0]
   rw [if_pos (by omega), if_pos (by omega), rdL_nat ls i hlt, if_pos c, w64n i (by omega)]
  ·rw [if_neg c] at ih ⊢
   refine Ev.step (f := fun k => (spec_blendPaste.f k a b p d ls[i].f0.f0 ls[i].f0.f1 ls[i].f0.f2 ls[i].f0.f3 ls[i].f1 ls[i].f2 ls[i].f3 ls[i].f4 ls[i].f5).bind fun t => spec_flatten.l0 k ls ((i + 1 : Nat) : Int) a b p t) (fun k => ?_) (ev_bind (spec_cover _ hv hok) ih)
   simp only [spec_flatten.l0]
   rw [if_pos (by omega), if_pos (by omega), rdL_nat ls i hlt, if_neg c, w64n i (by omega)]
theorem validLayers_ev (ls : List Lay) (hl : ls.length ≤ 1000000000) (hd : ∀ l ∈ ls, l.f0.f3.length ≤ 1000000) (p : Int) : ∀ (n i : Nat), i + n = ls.length →
  Ev (fun k => spec_validLayers.l0 k ls p (i : Int)) ((ls.drop i).all (okL p) && decide (ls.length ≤ 6))
 | 0, i, hi => by
  rw [List.drop_of_length_le (by omega)]
  refine ev_val (Ev.step (f := fun _ => some (decide ((ls.length : Int) ≤ 6))) (fun k => by simp only [spec_validLayers.l0]; rw [if_neg (by omega)]) (Ev.now _)) ?_
  rw [List.all_nil, Bool.true_and]
  exact decide_eq_decide.2 (by omega)
 | n + 1, i, hi => by
  have hlt : i < ls.length := by omega
  have hS := spec_validLayer_ev ls[i].f0.f0 ls[i].f0.f1 ls[i].f0.f2 ls[i].f0.f3 ls[i].f1 ls[i].f2 ls[i].f3 ls[i].f4 ls[i].f5 p (by have := hd _ (List.getElem_mem hlt); omega)
  have ih := validLayers_ev ls hl hd p n (i + 1) (by omega)
  rw [dropL ls i hlt, List.all_cons]
  refine Ev.step (f := fun k => (spec_validLayer.f k ls[i].f0.f0 ls[i].f0.f1 ls[i].f0.f2 ls[i].f0.f3 ls[i].f1 ls[i].f2 ls[i].f3 ls[i].f4 ls[i].f5 p).bind fun t => if t = true then spec_validLayers.l0 k ls p ((i + 1 : Nat) : Int) else some false) (fun k => ?_) (ev_bind hS ?_)
  ·simp only [spec_validLayers.l0]
   rw [if_pos (by omega), if_pos (by omega), rdL_nat ls i hlt, w64n i (by omega)]
  ·show Ev (fun k => if okL p ls[i] = true then spec_validLayers.l0 k ls p ((i + 1 : Nat) : Int) else some false) _
   by_cases c : okL p ls[i] = true
   ·rw [c, Bool.true_and]
    exact ev_pos rfl ih
   ·rw [Bool.eq_false_iff.2 c]
    exact ev_neg (by simp) (Ev.now _)
theorem spec_FlattenLayers_ev (a b p : Int) (d : List Int) (ls : List Lay) (h0 : d.length ≤ 2000000) (hl : ls.length ≤ 1000000000) (hd : ∀ l ∈ ls, l.f0.f3.length ≤ 1000000) : Ev (fun k => spec_FlattenLayers.f k a b p d ls) (flatV a b p d ls) := by
 unfold spec_FlattenLayers.f flatV spec_validLayers.f spec_flatten.f
 refine ev_bind (spec_validImage_ev a b p d (by omega)) ?_
 by_cases c : validI a b p d = true
 ·refine ev_pos c (ev_bind (validLayers_ev ls hl hd p ls.length 0 (by omega)) ?_)
  rw [List.drop_zero]
  by_cases c2 : ls.length ≤ 6 ∧ ls.all (okL p) = true
  ·rw [if_pos ⟨c, c2⟩, c2.2, decide_eq_true c2.1]
   have h := specFlat_loop ls hl a b p ls.length 0 d (by omega) c c2.2
   rw [List.drop_zero] at h
   exact ev_pos rfl (ev_bind (ev_now (copyC_px a b p d (by have := valid_le c; omega)) h) (Ev.now _))
  ·rw [if_neg (fun h => c2 h.2)]
   refine ev_neg ?_ (Ev.now _)
   rw [Bool.and_eq_true, decide_eq_true_iff]
   exact fun h => c2 ⟨h.2, h.1⟩
 ·rw [if_neg (fun h => c h.1)]
  exact ev_neg c (Ev.now _)
theorem implFlat_loop (ls : List Lay) (hl : ls.length ≤ 1000000000) (a b p : Int) (d0 : List Int) : ∀ (n i : Nat) (d : List Int), i + n = ls.length → validI a b p d = true →
  Ev (fun k => impl_flatten.l0 k ls (ls.length : Int) (i : Int) a b p d0 a b p d) (if (ls.drop i).all (okL p) = true then (a, b, p, flatD a b p d (ls.drop i), true) else (0, 0, 0, [], false))
 | 0, i, d, hi, hv => by
  rw [List.drop_of_length_le (by omega)]
  exact Ev.step (f := fun _ => some (a, b, p, d, true)) (fun k => by simp only [impl_flatten.l0]; rw [if_neg (by omega)]) (Ev.now _)
 | n + 1, i, d, hi, hv => by
  have hlt : i < ls.length := by omega
  have hL := impl_isLayer_eq ls[i].f0.f0 ls[i].f0.f1 ls[i].f0.f2 ls[i].f0.f3 ls[i].f1 ls[i].f2 ls[i].f3 ls[i].f4 ls[i].f5 p
  rw [dropL ls i hlt, List.all_cons, flatD]
  refine Ev.step (f := fun k => (impl_isLayer.f ls[i].f0.f0 ls[i].f0.f1 ls[i].f0.f2 ls[i].f0.f3 ls[i].f1 ls[i].f2 ls[i].f3 ls[i].f4 ls[i].f5 p).bind fun t => if t = true then (if ls[i].f5 = true then impl_flatten.l0 k ls (ls.length : Int) ((i + 1 : Nat) : Int) a b p d0 a b p d else (impl_coverImage.f a b p d ls[i].f0.f0 ls[i].f0.f1 ls[i].f0.f2 ls[i].f0.f3 ls[i].f1 ls[i].f2 ls[i].f3 ls[i].f4 ls[i].f5).bind fun u => impl_flatten.l0 k ls (ls.length : Int) ((i + 1 : Nat) : Int) a b p d0 u.1 u.2.1 u.2.2.1 u.2.2.2) else some (0, 0, 0, [], false)) (fun k => ?_) (ev_now hL ?_)
  ·simp only [impl_flatten.l0]
   rw [if_pos (by omega), if_pos (by omega), if_pos (by omega), rdL_nat ls i hlt, w64n i (by omega)]
  ·show Ev (fun k => if okL p ls[i] = true then (if ls[i].f5 = true then impl_flatten.l0 k ls (ls.length : Int) ((i + 1 : Nat) : Int) a b p d0 a b p d else (impl_coverImage.f a b p d ls[i].f0.f0 ls[i].f0.f1 ls[i].f0.f2 ls[i].f0.f3 ls[i].f1 ls[i].f2 ls[i].f3 ls[i].f4 ls[i].f5).bind fun u => impl_flatten.l0 k ls (ls.length : Int) ((i + 1 : Nat) : Int) a b p d0 u.1 u.2.1 u.2.2.1 u.2.2.2) else some (0, 0, 0, [], false)) _
   by_cases hok : okL p ls[i] = true
   ·rw [hok, Bool.true_and]
    refine ev_pos rfl ?_
    have ih := implFlat_loop ls hl a b p d0 n (i + 1) (onD a b p d ls[i]) (by omega) (onD_valid hv hok)
    unfold onD at ih ⊢
    by_cases c : ls[i].f5 = true
    ·rw [if_pos c] at ih ⊢
     exact ev_pos c ih
    ·rw [if_neg c] at ih ⊢
     exact ev_neg c (ev_now (impl_cover _ hv hok) ih)
   ·rw [Bool.eq_false_iff.2 hok]
    exact ev_neg (by simp) (Ev.now _)
theorem impl_flatten_ev (a b p : Int) (d : List Int) (ls : List Lay) : Ev (fun k => impl_flatten.f k a b p d ls) (flatV a b p d ls) := by
 unfold impl_flatten.f flatV
 refine ev_now (impl_isImage_eq a b p d) ?_
 by_cases c : validI a b p d = true
 ·refine ev_pos c ?_
  by_cases c2 : ls.length ≤ 6
  ·have h := implFlat_loop ls (by omega) a b p d ls.length 0 d (by omega) c
   rw [List.drop_zero] at h
   refine Ev.step (f := fun k => (impl_copyImage.f a b p d).bind fun t => impl_flatten.l0 k ls (ls.length : Int) 0 a b p d t.1 t.2.1 t.2.2.1 t.2.2.2) (fun k => ?_) (ev_now (impl_copyC_px a b p d (by have := valid_le c; omega)) (ev_val h ?_))
   ·simp only [impl_flatten.j0]
    rw [if_neg (by simp; omega)]
   ·by_cases c3 : ls.all (okL p) = true
    ·rw [if_pos c3, if_pos ⟨c, c2, c3⟩]
    ·rw [if_neg c3, if_neg (fun h => c3 h.2.2)]
  ·rw [if_neg (fun h => c2 h.2.1)]
   refine Ev.step (f := fun _ => some (0, 0, 0, [], false)) (fun k => ?_) (Ev.now _)
   simp only [impl_flatten.j0]
   rw [if_pos (by simp; omega)]
 ·rw [if_neg (fun h => c h.1)]
  refine ev_neg c (Ev.step (f := fun _ => some (0, 0, 0, [], false)) (fun k => ?_) (Ev.now _))
  simp only [impl_flatten.j0]
  rw [if_pos trivial]
theorem impl_FlattenLayers_ev (a b p : Int) (d : List Int) (ls : List Lay) : Ev (fun k => impl_FlattenLayers.f k a b p d ls) (flatV a b p d ls) := by
 unfold impl_FlattenLayers.f
 exact ev_bind (impl_flatten_ev a b p d ls) (Ev.now _)
theorem flatV_len (a b p : Int) (d : List Int) (ls : List Lay) : (flatV a b p d ls).2.2.2.1.length ≤ 1024 := by
 unfold flatV
 split
 ·rename_i h
  exact valid_le (flatD_valid ls h.1 h.2.2)
 ·simp

/- Copies of a list of Box: they are the list. -/

abbrev Box := S47
theorem rdBox (l : List Box) (i : Nat) (h : i < l.length) : rd_T47 l (i : Int) = l[i] := by simp [rd_T47, h]

/- The boxes of an image's tiles, as the program and the reference have them. -/

def colsOf (w : Nat) : Nat := (w + 3) / 4
def tileN (w h : Nat) (t : Nat) : Box := ⟨((t % colsOf w * 4 : Nat) : Int), ((t / colsOf w * 4 : Nat) : Int), mn 4 ((w : Int) - ((t % colsOf w * 4 : Nat) : Int)), mn 4 ((h : Int) - ((t / colsOf w * 4 : Nat) : Int))⟩
def tilesN (w h : Nat) (n : Nat) : List Box := (List.range n).map (tileN w h)
def tilesV (w h : Nat) : List Box := tilesN w h (colsOf w * colsOf h)
theorem tilesN_length (w h n : Nat) : (tilesN w h n).length = n := by simp [tilesN]
theorem tilesN_succ (w h n : Nat) : tilesN w h (n + 1) = tilesN w h n ++ [tileN w h n] := by simp [tilesN, List.range_succ]
theorem cols_bounds (w : Nat) (h1 : 1 ≤ w) (h2 : w ≤ 16) : 1 ≤ colsOf w ∧ colsOf w ≤ 4 := by unfold colsOf; omega
theorem tiles_count (w h : Nat) (h1 : 1 ≤ w) (h2 : w ≤ 16) (h3 : 1 ≤ h) (h4 : h ≤ 16) : 1 ≤ colsOf w * colsOf h ∧ colsOf w * colsOf h ≤ 16 := by
 have a := cols_bounds w h1 h2
 have b := cols_bounds h h3 h4
 have := Nat.mul_le_mul a.2 b.2
 have := Nat.mul_le_mul a.1 b.1
 omega
theorem tileN_at (w h r c : Nat) (hc : c < colsOf w) : tileN w h (r * colsOf w + c) = ⟨((c * 4 : Nat) : Int), ((r * 4 : Nat) : Int), mn 4 ((w : Int) - ((c * 4 : Nat) : Int)), mn 4 ((h : Int) - ((r * 4 : Nat) : Int))⟩ := by
 have e1 : (r * colsOf w + c) % colsOf w = c := by rw [Nat.mul_comm, Nat.mul_add_mod, Nat.mod_eq_of_lt hc]
 have e2 : (r * colsOf w + c) / colsOf w = r := by rw [Nat.mul_comm, Nat.mul_add_div (by omega), Nat.div_eq_of_lt hc, Nat.add_zero]
 unfold tileN
 rw [e1, e2]
theorem impl_tileBoxes_ev (w h : Nat) (p : Int) (d : List Int) (h1 : 1 ≤ w) (h2 : w ≤ 16) (h3 : 1 ≤ h) (h4 : h ≤ 16) : Ev (fun k => impl_tileBoxes.f k w h p d) (tilesV w h) := by
 have hc := cols_bounds w h1 h2
 have hr := cols_bounds h h3 h4
 have key := ev_up2 (colsOf h) (fun k r (s : List Box) => impl_tileBoxes.l0 k s ((r * 4 : Nat) : Int) w h p d) (fun r s => s = tilesN w h (r * colsOf w)) (fun _ _ => tilesV w h)
  (by
   intro r s hrr hs
   right
   refine ⟨tilesN w h ((r + 1) * colsOf w), fun R hR => ?_, rfl, rfl⟩
   have inner := ev_up2 (colsOf w) (fun k c (s : List Box) => impl_tileBoxes.l1 k s ((r * 4 : Nat) : Int) ((c * 4 : Nat) : Int) w h p d) (fun c s => s = tilesN w h (r * colsOf w + c)) (fun _ _ => R)
    (by
     intro c s hcc hs
     right
     refine ⟨tilesN w h (r * colsOf w + (c + 1)), fun R' hR' => ?_, rfl, rfl⟩
     refine Ev.step (fun k => ?_) hR'
     have hlen : s.length = r * colsOf w + c := by rw [hs, tilesN_length]
     have hm : r * colsOf w ≤ 4 * 4 := Nat.mul_le_mul (by omega) hc.2
     have hcw : c * 4 < w := by unfold colsOf at hcc; omega
     have hrh : r * 4 < h := by unfold colsOf at hrr; omega
     simp only [impl_tileBoxes.l1]
     rw [if_pos (by omega), if_pos (by omega), w64 (x := ((c * 4 : Nat) : Int) + 4) (by omega) (by omega), w64 (x := (w : Int) - ((c * 4 : Nat) : Int)) (by omega) (by omega), w64 (x := (h : Int) - ((r * 4 : Nat) : Int)) (by omega) (by omega), ← Nat.add_assoc, tilesN_succ, tileN_at w h r c hcc, ← hs, show ((c * 4 : Nat) : Int) + 4 = (((c + 1) * 4 : Nat) : Int) by omega])
    (by
     intro s hs
     refine Ev.step (fun k => ?_) (show Ev (fun k => impl_tileBoxes.l0 k s (((r + 1) * 4 : Nat) : Int) w h p d) R from by rw [hs, ← Nat.succ_mul]; exact hR)
     have hcw : ¬ colsOf w * 4 < w := by unfold colsOf; omega
     simp only [impl_tileBoxes.l1]
     rw [if_neg (by omega), w64 (x := ((r * 4 : Nat) : Int) + 4) (by omega) (by omega), show ((r * 4 : Nat) : Int) + 4 = (((r + 1) * 4 : Nat) : Int) by omega])
    (colsOf w) 0 s (by omega) (by rw [hs, Nat.add_zero])
   have inner' : Ev (fun k => impl_tileBoxes.l1 k s ((r * 4 : Nat) : Int) 0 w h p d) R := inner
   refine Ev.step (fun k => ?_) inner'
   have hrh : r * 4 < h := by unfold colsOf at hrr; omega
   simp only [impl_tileBoxes.l0]
   rw [if_pos (by omega)])
  (by
   intro s hs
   refine Ev.step (f := fun _ => some s) (fun k => ?_) (ev_const ?_)
   ·have hrh : ¬ colsOf h * 4 < h := by unfold colsOf; omega
    simp only [impl_tileBoxes.l0]
    rw [if_neg (by omega)]
   ·rw [hs, Nat.mul_comm]; rfl)
  (colsOf h) 0 [] (by omega) (by simp [tilesN])
 unfold impl_tileBoxes.f
 simpa using key

/- DirtyTiles, as the program and the reference have it. -/

def touchB (w h x y : Int) (b : Box) : Bool := decide (x < wrap64 (b.f0 + b.f2)) && (decide (b.f0 < wrap64 (x + w)) && (decide (y < wrap64 (b.f1 + b.f3)) && decide (b.f1 < wrap64 (y + h))))
def dirtyN (W H : Nat) (w h x y : Int) (n : Nat) : List Int := ((List.range n).filter fun t => touchB w h x y (tileN W H t)).map fun (t : Nat) => (t : Int)
theorem dirtyN_len (W H : Nat) (w h x y : Int) (n : Nat) : (dirtyN W H w h x y n).length ≤ n := by
 unfold dirtyN
 rw [List.length_map]
 have := List.length_filter_le (fun t => touchB w h x y (tileN W H t)) (List.range n)
 simpa using this
theorem dirtyN_succ (W H : Nat) (w h x y : Int) (n : Nat) : dirtyN W H w h x y (n + 1) = if touchB w h x y (tileN W H n) = true then dirtyN W H w h x y n ++ [(n : Int)] else dirtyN W H w h x y n := by
 unfold dirtyN
 rw [List.range_succ, List.filter_append, List.map_append]
 by_cases c : touchB w h x y (tileN W H n) = true
 ·rw [if_pos c]; simp [c]
 ·rw [if_neg c]; simp [c]
def dirtyV (w h p : Int) (d : List Int) (lw lh lp : Int) (ld : List Int) (x y m a : Int) : List Int :=
 if validI w h p d = true ∧ layerV lw lh lp ld x y m a p = true then dirtyN w.toNat h.toNat lw lh x y (colsOf w.toNat * colsOf h.toNat) else []
theorem impl_DirtyTiles_ev (w h p : Int) (d : List Int) (lw lh lp : Int) (ld : List Int) (x y m a : Int) (b : Bool) :
  Ev (fun k => impl_DirtyTiles.f k w h p d lw lh lp ld x y m a b) (dirtyV w h p d lw lh lp ld x y m a) := by
 have hn : Ev (fun k => impl_DirtyTiles.j0 k true w h p d lw lh lp ld x y m a b) [] := by
  refine Ev.step (f := fun _ => some []) (fun k => ?_) (Ev.now _)
  simp only [impl_DirtyTiles.j0]
  rw [if_pos trivial]
 unfold impl_DirtyTiles.f dirtyV
 refine ev_now (impl_isImage_eq w h p d) ?_
 by_cases c : validI w h p d = true
 ·refine ev_pos c (ev_now (impl_isLayer_eq lw lh lp ld x y m a b p) ?_)
  by_cases c' : layerV lw lh lp ld x y m a p = true
  ·rw [if_pos ⟨c, c'⟩, c']
   have hv := (validI_iff w h p d).1 c
   obtain ⟨W, rfl⟩ := Int.eq_ofNat_of_zero_le (show 0 ≤ w by omega)
   obtain ⟨H, rfl⟩ := Int.eq_ofNat_of_zero_le (show 0 ≤ h by omega)
   have h1 : 1 ≤ W := by omega
   have h2 : W ≤ 16 := by omega
   have h3 : 1 ≤ H := by omega
   have h4 : H ≤ 16 := by omega
   have hn := tiles_count W H h1 h2 h3 h4
   have hT : (tilesV W H).length = colsOf W * colsOf H := tilesN_length W H _
   have hget : ∀ t, t < colsOf W * colsOf H → rd_T47 (tilesV W H) (t : Int) = tileN W H t := by
    intro t ht
    rw [rdBox (tilesV W H) t (by omega)]
    simp [tilesV, tilesN]
   have key := ev_up2 (colsOf W * colsOf H) (fun k t (s : List Int) => impl_DirtyTiles.l0 k s (tilesV W H) ((tilesV W H).length : Int) (t : Int) x y lw lh) (fun t s => s = dirtyN W H lw lh x y t) (fun _ _ => dirtyN W H lw lh x y (colsOf W * colsOf H))
    (by
     intro t s ht hs
     right
     refine ⟨dirtyN W H lw lh x y (t + 1), fun r hr => ?_, rfl, rfl⟩
     have hlen : s.length ≤ t := by rw [hs]; exact dirtyN_len W H lw lh x y t
     rw [dirtyN_succ, ← hs] at hr
     have hj : ∀ c : Bool, c = touchB lw lh x y (tileN W H t) → Ev (fun k => impl_DirtyTiles.j2 k s (t : Int) (tilesV W H) ((tilesV W H).length : Int) (t : Int) c x y lw lh) r := by
      intro c hc
      rw [← hc] at hr
      refine Ev.step (fun k => ?_) hr
      simp only [impl_DirtyTiles.j2]
      rw [w64n t (by omega)]
      cases c with
      | true => rw [if_pos rfl, if_pos rfl, if_pos (by omega)]
      | false => rw [if_neg (by simp), if_neg (by simp)]
     by_cases c1 : x < wrap64 ((tileN W H t).f0 + (tileN W H t).f2)
     ·by_cases c2 : (tileN W H t).f0 < wrap64 (x + lw)
      ·by_cases c3 : y < wrap64 ((tileN W H t).f1 + (tileN W H t).f3)
       ·refine Ev.step (fun k => ?_) (hj (decide ((tileN W H t).f1 < wrap64 (y + lh))) (by unfold touchB; rw [decide_eq_true c1, decide_eq_true c2, decide_eq_true c3]; rfl))
        simp only [impl_DirtyTiles.l0]
        rw [if_pos (by omega), if_pos (by omega), if_pos (by omega), hget t ht, if_pos c1, if_pos c2, if_pos c3]
       ·refine Ev.step (fun k => ?_) (hj false (by unfold touchB; rw [decide_eq_false c3, Bool.false_and, Bool.and_false, Bool.and_false]))
        simp only [impl_DirtyTiles.l0]
        rw [if_pos (by omega), if_pos (by omega), if_pos (by omega), hget t ht, if_pos c1, if_pos c2, if_neg c3]
      ·refine Ev.step (fun k => ?_) (hj false (by unfold touchB; rw [decide_eq_false c2, Bool.false_and, Bool.and_false]))
       simp only [impl_DirtyTiles.l0]
       rw [if_pos (by omega), if_pos (by omega), if_pos (by omega), hget t ht, if_pos c1, if_neg c2]
     ·refine Ev.step (fun k => ?_) (hj false (by unfold touchB; rw [decide_eq_false c1, Bool.false_and]))
      simp only [impl_DirtyTiles.l0]
      rw [if_pos (by omega), if_pos (by omega), if_pos (by omega), hget t ht, if_neg c1])
    (by
     intro s hs
     refine Ev.step (f := fun _ => some s) (fun k => ?_) (ev_const (by rw [hs]))
     simp only [impl_DirtyTiles.l0]
     rw [if_neg (by omega)])
    (colsOf W * colsOf H) 0 [] (by omega) (by simp [dirtyN])
   refine Ev.step (f := fun k => (impl_Layer_box.f lw lh lp ld x y m a b).bind fun bt => (impl_tileBoxes.f k W H p d).bind fun t => impl_DirtyTiles.l0 k [] t (t.length : Int) 0 bt.1 bt.2.1 bt.2.2.1 bt.2.2.2) (fun k => ?_) ?_
   ·simp only [impl_DirtyTiles.j0]
    rw [if_neg (by simp)]
   ·exact ev_now (a := (x, y, lw, lh)) rfl (ev_bind (impl_tileBoxes_ev W H p d h1 h2 h3 h4) key)
  ·rw [if_neg (fun e => c' e.2), Bool.eq_false_iff.2 c']
   exact hn
 ·rw [if_neg (fun e => c e.1)]
  exact ev_neg c hn

/- A tile that a layer does not touch is the same in the covered image. -/

theorem cov_clean {an pn wn hn x0 y0 w0 h0 : Nat} {d e : List Int} {x y m a : Int} (hb : x0 ≤ 16 ∧ w0 ≤ 16 ∧ y0 ≤ 16 ∧ h0 ≤ 16 ∧ wn ≤ 16 ∧ hn ≤ 16) (hx : -16 ≤ x ∧ x ≤ 16) (hy : -16 ≤ y ∧ y ≤ 16) (ht : touchB wn hn x y ⟨(x0 : Int), (y0 : Int), (w0 : Int), (h0 : Int)⟩ = false) {i j : Nat} (hi : i < w0) (hj : j < h0) :
  covPx an pn d x y wn hn e m a (x0 + i) (y0 + j) = nx pn d ((y0 + j) * an + (x0 + i)) := by
 unfold covPx
 rw [if_neg]
 intro z
 unfold touchB at ht
 rw [w64 (x := (x0 : Int) + (w0 : Int)) (by omega) (by omega), w64 (x := x + (wn : Int)) (by omega) (by omega), w64 (x := (y0 : Int) + (h0 : Int)) (by omega) (by omega), w64 (x := y + (hn : Int)) (by omega) (by omega)] at ht
 rw [decide_eq_true (show x < (x0 : Int) + (w0 : Int) by omega), decide_eq_true (show (x0 : Int) < x + (wn : Int) by omega), decide_eq_true (show y < (y0 : Int) + (h0 : Int) by omega), decide_eq_true (show (y0 : Int) < y + (hn : Int) by omega)] at ht
 cases ht
theorem tile_box {an bn t : Nat} (h1 : 1 ≤ an ∧ an ≤ 16) (h2 : 1 ≤ bn ∧ bn ≤ 16) (ht : t < colsOf an * colsOf bn) : ∃ x0 y0 w0 h0 : Nat, tileN an bn t = ⟨(x0 : Int), (y0 : Int), (w0 : Int), (h0 : Int)⟩ ∧ 1 ≤ w0 ∧ 1 ≤ h0 ∧ x0 + w0 ≤ an ∧ y0 + h0 ≤ bn := by
 have hc := cols_bounds an h1.1 h1.2
 have hr := cols_bounds bn h2.1 h2.2
 have hx : t % colsOf an < colsOf an := Nat.mod_lt _ (by omega)
 have hy : t / colsOf an < colsOf bn := (Nat.div_lt_iff_lt_mul (by omega)).2 (by rw [Nat.mul_comm]; exact ht)
 refine ⟨t % colsOf an * 4, t / colsOf an * 4, (mn 4 ((an : Int) - ((t % colsOf an * 4 : Nat) : Int))).toNat, (mn 4 ((bn : Int) - ((t / colsOf an * 4 : Nat) : Int))).toNat, ?_⟩
 generalize hq' : t % colsOf an = q at *
 generalize ht' : t / colsOf an = r at *
 have hq4 : q * 4 < an := by unfold colsOf at hx; omega
 have hr4 : r * 4 < bn := by unfold colsOf at hy; omega
 have m1 : 1 ≤ mn 4 ((an : Int) - ((q * 4 : Nat) : Int)) ∧ mn 4 ((an : Int) - ((q * 4 : Nat) : Int)) ≤ (an : Int) - ((q * 4 : Nat) : Int) := by unfold mn; split <;> omega
 have m2 : 1 ≤ mn 4 ((bn : Int) - ((r * 4 : Nat) : Int)) ∧ mn 4 ((bn : Int) - ((r * 4 : Nat) : Int)) ≤ (bn : Int) - ((r * 4 : Nat) : Int) := by unfold mn; split <;> omega
 refine ⟨?_, by omega, by omega, by omega, by omega⟩
 rw [Int.toNat_of_nonneg (by omega), Int.toNat_of_nonneg (by omega)]
 unfold tileN
 rw [hq', ht']

/- RedrawTiles, as the program and the reference have it. -/

abbrev Bxx := S47
def rdN (ts : List Int) (i : Nat) : Int := ts.getD i 0
theorem rd_rdN (ts : List Int) (i : Nat) : rd ts (i : Int) = rdN ts i := by simp [rd, rdN]
def okAt (n : Nat) (ts : List Int) (i : Nat) : Bool := decide (0 ≤ rdN ts i ∧ rdN ts i < (n : Int) ∧ (0 < i → rdN ts (i - 1) < rdN ts i))
def okTs (n : Nat) (ts : List Int) : Bool := (List.range ts.length).all (okAt n ts)
theorem okTs_iff (n : Nat) (ts : List Int) : okTs n ts = true ↔ ∀ i, i < ts.length → okAt n ts i = true := by simp [okTs, List.all_eq_true]
theorem okAt_iff (n : Nat) (ts : List Int) (i : Nat) : okAt n ts i = true ↔ 0 ≤ rdN ts i ∧ rdN ts i < (n : Int) ∧ (0 < i → rdN ts (i - 1) < rdN ts i) := by unfold okAt; exact decide_eq_true_iff
def boxT (an bn : Nat) (t : Int) : Bxx := tileN an bn t.toNat
def boxesT (an bn : Nat) (ts : List Int) : List Bxx := ts.map (boxT an bn)
theorem rdN_get (ts : List Int) (i : Nat) (h : i < ts.length) : rdN ts i = ts[i] := by simp [rdN, h]
theorem boxT_on {an bn : Nat} (h1 : 1 ≤ an ∧ an ≤ 16) (h2 : 1 ≤ bn ∧ bn ≤ 16) {t : Int} (h0 : 0 ≤ t) (ht : t < (colsOf an * colsOf bn : Nat)) : onB an bn (boxT an bn t) = true := by
 obtain ⟨x0, y0, w0, h0', e, q1, q2, q3, q4⟩ := tile_box h1 h2 (t := t.toNat) (by omega)
 unfold boxT
 rw [e, onB_iff]
 refine ⟨?_, ?_, ?_, ?_, ?_, ?_, ?_, ?_⟩
 ·show (0 : Int) ≤ (x0 : Int); omega
 ·show (x0 : Int) < (an : Int); omega
 ·show (0 : Int) ≤ (y0 : Int); omega
 ·show (y0 : Int) < (bn : Int); omega
 ·show (1 : Int) ≤ (w0 : Int); omega
 ·show (w0 : Int) ≤ (an : Int) - (x0 : Int); omega
 ·show (1 : Int) ≤ (h0' : Int); omega
 ·show (h0' : Int) ≤ (bn : Int) - (y0 : Int); omega
theorem boxesT_on {an bn : Nat} (h1 : 1 ≤ an ∧ an ≤ 16) (h2 : 1 ≤ bn ∧ bn ≤ 16) {ts : List Int} (h : okTs (colsOf an * colsOf bn) ts = true) : (boxesT an bn ts).all (onB an bn) = true := by
 refine List.all_eq_true.2 fun r hr => ?_
 obtain ⟨t, ht, rfl⟩ := List.mem_map.1 hr
 obtain ⟨i, hi, rfl⟩ := List.mem_iff_getElem.1 ht
 obtain ⟨g1, g2, _⟩ := (okAt_iff _ _ _).1 ((okTs_iff _ _).1 h i hi)
 rw [rdN_get ts i hi] at g1 g2
 exact boxT_on h1 h2 g1 g2
theorem patched_is {a b p : Int} {d e : List Int} {l : List Bxx} (c1 : validI a b p d = true) (c2 : validI a b p e = true) (hall : l.all (onB a b) = true) : impl_patched.f a b p d a b p e l = some (a, b, p, imgD (patchPx a.toNat p.toNat d e l) a.toNat b.toNat) := by
 unfold impl_patched.f
 rw [if_pos ⟨c1, c2, rfl, rfl, rfl, hall⟩]
 obtain ⟨an, bn, pn, rfl, rfl, rfl, q1, q2, q3, q4, q5, q6, q7⟩ := nat_of c1
 obtain ⟨_, _, _, f1, f2, f3, _, _, _, _, _, _, q8⟩ := nat_of c2
 have f1 := Int.ofNat.inj f1
 have f2 := Int.ofNat.inj f2
 have f3 := Int.ofNat.inj f3
 subst f1 f2 f3
 obtain ⟨i1, i2⟩ := patchD_nx q2 q4 q6 q8 l (List.all_eq_true.1 hall) d q7
 simp only [Int.toNat_natCast]
 have hlen := patchPx_len q7 q8 l
 rw [ext_img i1 (imgD_length hlen) (fun x y hx hy => by rw [i2 x y hx hy, nx_imgD hlen hx hy])]
def redrawV (a b p : Int) (d : List Int) (a' b' p' : Int) (e : List Int) (ls : List Lay) (ts : List Int) : Int × Int × Int × List Int × Bool :=
 if sameV a b p d a' b' p' e = true ∧ (ls.length ≤ 6 ∧ ls.all (okL p') = true) ∧ okTs (colsOf a.toNat * colsOf b.toNat) ts = true then (a, b, p, imgD (patchPx a.toNat p.toNat d (flatD a b p e ls) (boxesT a.toNat b.toNat ts)) a.toNat b.toNat, true) else (0, 0, 0, [], false)
theorem tilesV_get (an bn t : Nat) (ht : t < colsOf an * colsOf bn) : rd_T47 (tilesV an bn) (t : Int) = tileN an bn t := by
 have hl : t < (tilesV an bn).length := by unfold tilesV; rw [tilesN_length]; exact ht
 simp [rd_T47, tilesV, tilesN]
 rw [List.getElem?_range ht]
 rfl
theorem impl_RedrawTiles_ev (a b p : Int) (d : List Int) (a' b' p' : Int) (e : List Int) (ls : List Lay) (ts : List Int) (htl : ts.length ≤ 1000000) :
  Ev (fun k => impl_RedrawTiles.f k a b p d a' b' p' e ls ts) (redrawV a b p d a' b' p' e ls ts) := by
 unfold impl_RedrawTiles.f
 have stop : ∀ (q : Bool), ¬ (sameV a b p d a' b' p' e = true ∧ (ls.length ≤ 6 ∧ ls.all (okL p') = true) ∧ okTs (colsOf a.toNat * colsOf b.toNat) ts = true) → q = true → Ev (fun k => impl_RedrawTiles.j0 k ls ts q a b p d a' b' p' e) (redrawV a b p d a' b' p' e ls ts) := by
  intro q hn hq
  subst hq
  unfold redrawV
  rw [if_neg hn]
  refine Ev.step (f := fun _ => some (0, 0, 0, [], false)) (fun k => ?_) (Ev.now _)
  simp only [impl_RedrawTiles.j0]
  rw [if_pos trivial]
 refine ev_now (impl_isImage_eq a b p d) ?_
 by_cases c1 : validI a b p d = true
 ·refine ev_pos c1 (ev_now (impl_isImage_eq a' b' p' e) ?_)
  by_cases c2 : validI a' b' p' e = true
  ·refine ev_pos c2 (ev_now (impl_alike_eq a b p d a' b' p' e) ?_)
   by_cases c3 : a = a' ∧ b = b' ∧ p = p'
   ·have hsame : sameV a b p d a' b' p' e = true := (sameV_iff _ _ _ _ _ _ _ _).2 ⟨c1, c2, c3.1, c3.2.1, c3.2.2⟩
    rw [decide_eq_true c3]
    obtain ⟨rfl, rfl, rfl⟩ := c3
    have hF := impl_flatten_ev a b p e ls
    have hV : ls.length ≤ 6 ∧ ls.all (okL p) = true → okTs (colsOf a.toNat * colsOf b.toNat) ts = true → (a, b, p, imgD (patchPx a.toNat p.toNat d (flatD a b p e ls) (boxesT a.toNat b.toNat ts)) a.toNat b.toNat, true) = redrawV a b p d a b p e ls ts := by
     intro h1 h2
     unfold redrawV
     rw [if_pos ⟨hsame, h1, h2⟩]
    have hV0 : ¬ ((ls.length ≤ 6 ∧ ls.all (okL p) = true) ∧ okTs (colsOf a.toNat * colsOf b.toNat) ts = true) → ((0, 0, 0, [], false) : Int × Int × Int × List Int × Bool) = redrawV a b p d a b p e ls ts := by
     intro h
     unfold redrawV
     rw [if_neg (fun g => h g.2)]
    have hpatch : ls.length ≤ 6 ∧ ls.all (okL p) = true → okTs (colsOf a.toNat * colsOf b.toNat) ts = true → impl_patched.f a b p d a b p (flatD a b p e ls) (boxesT a.toNat b.toNat ts) = some (a, b, p, imgD (patchPx a.toNat p.toNat d (flatD a b p e ls) (boxesT a.toNat b.toNat ts)) a.toNat b.toNat) := by
     intro h1 h2
     refine patched_is c1 (flatD_valid ls c2 h1.2) ?_
     obtain ⟨an, bn, pn, rfl, rfl, rfl, q1, q2, q3, q4, q5, q6, q7⟩ := nat_of c1
     exact boxesT_on ⟨q1, q2⟩ ⟨q3, q4⟩ h2
    generalize redrawV a b p d a b p e ls ts = V at hV hV0
    have hfl : Ev (fun k => impl_flatten.f k a b p e ls) (if ls.length ≤ 6 ∧ ls.all (okL p) = true then (a, b, p, flatD a b p e ls, true) else (0, 0, 0, [], false)) := by
     refine ev_val hF ?_
     unfold flatV
     by_cases h : ls.length ≤ 6 ∧ ls.all (okL p) = true
     ·rw [if_pos ⟨c2, h⟩, if_pos h]
     ·rw [if_neg (fun g => h g.2), if_neg h]
    generalize flatD a b p e ls = D at hV hpatch hfl
    have htb : Ev (fun k => impl_tileBoxes.f k a b p e) (tilesV a.toNat b.toNat) := by
     obtain ⟨an, bn, pn, rfl, rfl, rfl, q1, q2, q3, q4, q5, q6, q7⟩ := nat_of c1
     exact impl_tileBoxes_ev an bn pn e q1 q2 q3 q4
    have hlen : (tilesV a.toNat b.toNat).length = colsOf a.toNat * colsOf b.toNat := tilesN_length _ _ _
    have hcount : colsOf a.toNat * colsOf b.toNat ≤ 16 := by
     obtain ⟨an, bn, pn, rfl, rfl, rfl, q1, q2, q3, q4, q5, q6, q7⟩ := nat_of c1
     exact (tiles_count an bn q1 q2 q3 q4).2
    have hget : ∀ t : Nat, t < colsOf a.toNat * colsOf b.toNat → rd_T47 (tilesV a.toNat b.toNat) (t : Int) = tileN a.toNat b.toNat t := fun t ht => tilesV_get _ _ t ht
    generalize hTB : tilesV a.toNat b.toNat = TB at htb hlen hget
    generalize hN : colsOf a.toNat * colsOf b.toNat = N at hV hV0 hpatch hlen hcount hget
    refine Ev.step (f := fun k => (impl_tileBoxes.f k a b p e).bind fun t => impl_RedrawTiles.l0 k ls ts t ts (ts.length : Int) 0 a b p d a b p e) (fun k => ?_) (ev_bind htb ?_)
    ·simp only [impl_RedrawTiles.j0]
     rw [if_neg (by simp)]
    ·refine ev_up2 ts.length (fun k i (_ : Unit) => impl_RedrawTiles.l0 k ls ts TB ts (ts.length : Int) (i : Int) a b p d a b p e) (fun i _ => ∀ q, q < i → okAt N ts q = true) (fun _ _ => V) ?_ ?_ ts.length 0 () (by omega) (fun q hq => by omega)
     ·intro i _ hi hinv
      have hrd : rd ts (i : Int) = rdN ts i := rd_rdN ts i
      cases hb : okAt N ts i with
      | false =>
       left
       have hnot : ¬ okTs N ts = true := fun h => by
        have := (okTs_iff _ _).1 h i hi
        rw [hb] at this; cases this
       rw [← hV0 (fun h => hnot h.2)]
       have hn := fun h => Bool.eq_false_iff.1 hb ((okAt_iff N ts i).2 h)
       refine Ev.step (f := fun _ => some (0, 0, 0, [], false)) (fun k => ?_) (Ev.now _)
       simp only [impl_RedrawTiles.l0]
       rw [if_pos (by omega), if_pos (by omega), if_pos (by omega), hrd]
       by_cases n1 : rdN ts i < 0
       ·rw [if_pos n1]
       ·rw [if_neg n1]
        by_cases n2 : rdN ts i ≥ (TB.length : Int)
        ·rw [if_pos n2]
        ·rw [if_neg n2]
         by_cases ci : 0 < i
         ·rw [if_pos (by omega), w64 (x := (i : Int) - 1) (by omega) (by omega), if_pos (by omega), if_pos (by omega), show (i : Int) - 1 = ((i - 1 : Nat) : Int) by omega, rd_rdN, if_pos]
          by_cases cl : rdN ts (i - 1) ≥ rdN ts i
          ·exact cl
          ·exact absurd ⟨by omega, by omega, fun _ => by omega⟩ hn
         ·exact absurd ⟨by omega, by omega, fun h => absurd h ci⟩ hn
      | true =>
       right
       obtain ⟨g1, g2, g3⟩ := (okAt_iff N ts i).1 hb
       refine ⟨(), fun res hres => Ev.step (fun k => ?_) hres, fun q hq => ?_, rfl⟩
       ·simp only [impl_RedrawTiles.l0]
        rw [if_pos (by omega), if_pos (by omega), if_pos (by omega), hrd, if_neg (by omega), if_neg (by omega), w64n i (by omega)]
        by_cases ci : 0 < i
        ·rw [if_pos (by omega), w64 (x := (i : Int) - 1) (by omega) (by omega), if_pos (by omega), if_pos (by omega), show (i : Int) - 1 = ((i - 1 : Nat) : Int) by omega, rd_rdN, if_neg (by have := g3 ci; omega)]
        ·rw [if_neg (by omega)]
       ·by_cases cq : q = i
        ·rw [cq]; exact hb
        ·exact hinv q (by omega)
     ·intro _ hinv
      have ho : okTs N ts = true := (okTs_iff _ _).2 hinv
      by_cases h : ls.length ≤ 6 ∧ ls.all (okL p) = true
      ·rw [if_pos h] at hfl
       rw [← hV h ho]
       have key := ev_up2 ts.length (fun k i (_ : Unit) => impl_RedrawTiles.l1 k TB (boxesT a.toNat b.toNat (ts.take i)) ts (ts.length : Int) (i : Int) a b p d a b p D) (fun _ _ => True) (fun _ _ => (a, b, p, imgD (patchPx a.toNat p.toNat d D (boxesT a.toNat b.toNat ts)) a.toNat b.toNat, true))
        (by
         intro i _ hi _
         right
         obtain ⟨g1, g2, _⟩ := (okAt_iff N ts i).1 (hinv i hi)
         obtain ⟨t, ht⟩ := Int.eq_ofNat_of_zero_le g1
         refine ⟨(), fun res hres => Ev.step (fun k => ?_) hres, trivial, rfl⟩
         have hbt : boxesT a.toNat b.toNat (ts.take (i + 1)) = boxesT a.toNat b.toNat (ts.take i) ++ [tileN a.toNat b.toNat t] := by
          unfold boxesT
          rw [List.take_succ_eq_append_getElem hi, List.map_append, List.map_cons, List.map_nil]
          congr 2
          unfold boxT
          rw [← rdN_get ts i hi, ht, Int.toNat_natCast]
         have hbl : (boxesT a.toNat b.toNat (ts.take i)).length ≤ 1000000 := by unfold boxesT; rw [List.length_map, List.length_take]; omega
         rw [hbt]
         simp only [impl_RedrawTiles.l1]
         rw [if_pos (by omega), if_pos (by omega), if_pos (by omega), rd_rdN ts i, ht, if_pos (by omega), if_pos (by omega), if_pos (by omega), hget t (by omega), w64n i (by omega)])
        (by
         intro _ _
         rw [List.take_length]
         refine Ev.step (f := fun _ => (impl_patched.f a b p d a b p D (boxesT a.toNat b.toNat ts)).bind fun t => some (t.1, t.2.1, t.2.2.1, t.2.2.2, true)) (fun k => ?_) (ev_now (hpatch h ho) (Ev.now _))
         simp only [impl_RedrawTiles.l1]
         rw [if_neg (by omega)])
        ts.length 0 () (by omega) trivial
       refine Ev.step (f := fun k => (impl_flatten.f k a b p e ls).bind fun t => if t.2.2.2.2 = true then impl_RedrawTiles.l1 k TB [] ts (ts.length : Int) 0 a b p d t.1 t.2.1 t.2.2.1 t.2.2.2.1 else some (0, 0, 0, [], false)) (fun k => ?_) (ev_bind hfl (ev_pos rfl key))
       simp only [impl_RedrawTiles.l0]
       rw [if_neg (by omega)]
      ·rw [if_neg h] at hfl
       rw [← hV0 (fun g => h g.1)]
       refine Ev.step (f := fun k => (impl_flatten.f k a b p e ls).bind fun t => if t.2.2.2.2 = true then impl_RedrawTiles.l1 k TB [] ts (ts.length : Int) 0 a b p d t.1 t.2.1 t.2.2.1 t.2.2.2.1 else some (0, 0, 0, [], false)) (fun k => ?_) (ev_bind hfl (ev_neg (by simp) (Ev.now _)))
       simp only [impl_RedrawTiles.l0]
       rw [if_neg (by omega)]
   ·rw [decide_eq_false c3]
    exact stop _ (fun h => c3 (by have := (sameV_iff _ _ _ _ _ _ _ _).1 h.1; exact this.2.2)) rfl
  ·exact ev_neg c2 (stop _ (fun h => c2 ((sameV_iff _ _ _ _ _ _ _ _).1 h.1).2.1) rfl)
 ·exact ev_neg c1 (stop _ (fun h => c1 ((sameV_iff _ _ _ _ _ _ _ _).1 h.1).1) rfl)
end Go.Proofs.Ytnofkbbcbpjhfaa.Pure
