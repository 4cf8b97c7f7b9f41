/- A part of the proof that the statement FnPatchImageTwiceSaid holds, under no condition of its own: A patch laid twice: the law FnPatchImageTwice over lists of numbers alone. -/
import Derived.Test.YtnofkbbcbpjhfaaCFnPatchImageTwice1
import Derived.Deep.WholeRow
import Derived.Deep.RegionWith
import Derived.OrdersHeld
import Derived.Deep.RegionHeld
import Derived.RegionTactic
namespace Go.Proofs.Ytnofkbbcbpjhfaa.Q
open Go.RowKit Go.Proofs.YtnofkbbcbpjhfaaW.PrintWords Go.Proofs.YtnofkbbcbpjhfaaW.PrintLast Go.Proofs.YtnofkbbcbpjhfaaW.PrintMore
attribute [local go_sem] max2_int min2_int max_two min_two max_three min_three max_four min_four
set_option linter.unusedVariables false
set_option linter.unusedSimpArgs false
open Go.Proofs.YtnofkbbcbpjhfaaW.PrintWords.Aside0 (mk)
set_option maxHeartbeats 12000000
set_option maxRecDepth 100000
mutual
def spec_PatchImage.j0 : Nat → List S47 → Bool → Int → Int → Int → List Int → Int → Int → Int → List Int → Option (Int × Int × Int × List Int × Bool)
 | 0, _, _, _, _, _, _, _, _, _, _ => none
 | k + 1, x2, x18, xz4, xz5, xz6, xz7, xz8, xz9, xz10, xz11 => if x18 = true then (some (0, 0, 0, ([] : List Int), false)) else ((spec_copyImage.f xz4 xz5 xz6 xz7).bind fun btz1 => (spec_PatchImage.l0 k x2 0 xz4 xz5 xz6 xz7 xz8 xz9 xz10 xz11 btz1.1 btz1.2.1 btz1.2.2.1 btz1.2.2.2))
def spec_PatchImage.l0 : Nat → List S47 → Int → Int → Int → Int → List Int → Int → Int → Int → List Int → Int → Int → Int → List Int → Option (Int × Int × Int × List Int × Bool)
 | 0, _, _, _, _, _, _, _, _, _, _, _, _, _, _ => none
 | k + 1, x2, x9, xz4, xz5, xz6, xz7, xz8, xz9, xz10, xz11, xz12, xz13, xz14, xz15 => if x9 < (x2.length : Int) then (if 0 ≤ x9 then ((spec_validBox.f xz4 xz5 xz6 xz7 ((rd_T47 x2 x9).f0) ((rd_T47 x2 x9).f1) ((rd_T47 x2 x9).f2) ((rd_T47 x2 x9).f3)).bind fun tz6 => (if tz6 = true then ((spec_crop.f k xz8 xz9 xz10 xz11 ((rd_T47 x2 x9).f0) ((rd_T47 x2 x9).f1) ((rd_T47 x2 x9).f2) ((rd_T47 x2 x9).f3)).bind fun btz0 => ((spec_paste.f k xz12 xz13 xz14 xz15 ((rd_T47 x2 x9).f0) ((rd_T47 x2 x9).f1) btz0.1 btz0.2.1 btz0.2.2.1 btz0.2.2.2).bind fun tz3 => (spec_PatchImage.l0 k x2 (wrap64 (x9 + 1)) xz4 xz5 xz6 xz7 xz8 xz9 xz10 xz11 xz12 xz13 xz14 tz3))) else (some (0, 0, 0, ([] : List Int), false)))) else none) else (some (xz12, xz13, xz14, xz15, true))
end
def spec_PatchImage.f (k : Nat) (a0_0 : Int) (a0_1 : Int) (a0_2 : Int) (l0_3 : List Int) (a1_0 : Int) (a1_1 : Int) (a1_2 : Int) (l1_3 : List Int) (l2 : List S47) : Option (Int × Int × Int × List Int × Bool) := (spec_sameShape.f k a0_0 a0_1 a0_2 l0_3 a1_0 a1_1 a1_2 l1_3).bind fun tz4 => (if tz4 = true then (spec_PatchImage.j0 k l2 (decide ((l2.length : Int) > 128)) a0_0 a0_1 a0_2 l0_3 a1_0 a1_1 a1_2 l1_3) else (spec_PatchImage.j0 k l2 true a0_0 a0_1 a0_2 l0_3 a1_0 a1_1 a1_2 l1_3))
def spec_PatchImage.T9 : Bool × List (List Nat × List Nat) := (true, [([], []), ([], []), ([], []), ([1, 2], [1, 2]), ([3], [3]), ([4], [4]), ([], []), ([], []), ([6, 7], [6, 7]), ([8], [8]), ([9], [9]), ([], []), ([], []), ([], []), ([12, 13], [12, 13]), ([14], [14]), ([15], [15]), ([], []), ([], []), ([17, 18], [17, 18]), ([19], [19]), ([20], [20]), ([], []), ([], []), ([22, 23], [22, 23]), ([24], [24]), ([25], [25]), ([], []), ([], []), ([27, 28], [27, 28]), ([29], [29]), ([30], [30]), ([11, 16, 21, 26, 31], [11, 16, 21, 26, 31]), ([0, 5, 10, 32, 32], [0, 5, 10, 32])])
def spec_PatchImage.B9 : List Nat := [0, 0, 0, 6, 14, 30, 0, 0, 192, 448, 960, 0, 0, 0, 12288, 28672, 61440, 0, 0, 393216, 917504, 1966080, 0, 0, 12582912, 29360128, 62914560, 0, 0, 402653184, 939524096, 2013265920, 4294965248, 8589934591]
theorem spec_PatchImage.tab9 : rtab .any (opsOf Try.f72 9) = spec_PatchImage.T9 := by kernel_rfl
theorem spec_PatchImage.bits9 : waitsOk spec_PatchImage.T9.2 spec_PatchImage.B9 = true := by kernel_rfl
theorem spec_PatchImage.calls (k : Nat) (a0_0 : Int) (a0_1 : Int) (a0_2 : Int) (A0_3 : Option Addr) (c0_3 : Nat) (l0_3 : List Int) (a1_0 : Int) (a1_1 : Int) (a1_2 : Int) (A1_3 : Option Addr) (c1_3 : Nat) (l1_3 : List Int) (A2 : Option Addr) (c2 : Nat) (l2 : List S47) (r1 : Int) (r2 : Int) (r3 : Int) (r4 : List Int) (r5 : Bool) (w : World) (hr0_3 : Kd.C (Kd.int .i64) w A0_3 l0_3.length l0_3) (hc0_3 : l0_3.length ≤ c0_3) (hr1_3 : Kd.C (Kd.int .i64) w A1_3 l1_3.length l1_3) (hc1_3 : l1_3.length ≤ c1_3) (hr2 : Kd.C k47 w A2 l2.length l2) (hc2 : l2.length ≤ c2) (h : spec_PatchImage.f k a0_0 a0_1 a0_2 l0_3 a1_0 a1_1 a1_2 l1_3 l2 = some (r1, r2, r3, r4, r5)) :
  Calls Try.prog 72 #[.agg #[.int .i64 a0_0, .int .i64 a0_1, .int .i64 a0_2, .slice A0_3 l0_3.length c0_3], .agg #[.int .i64 a1_0, .int .i64 a1_1, .int .i64 a1_2, .slice A1_3 l1_3.length c1_3], .slice A2 l2.length c2] w fun e w' => ∃ v3_ : Value, e = .returned (.tuple #[.agg #[.int .i64 r1, .int .i64 r2, .int .i64 r3, v3_], .bool r5]) ∧ Kd.R (Kd.int .i64) 3 w' w.heap.size (fun _ => True) v3_ r4 ∧ Below w.heap.size w w' := by
 have hu27 := Try.underlying27
 have hu47 := Try.underlying47
 have HR0_3 := mk hr0_3
 have HC0_3 := mk hc0_3
 clear hr0_3 hc0_3
 have HR1_3 := mk hr1_3
 have HC1_3 := mk hc1_3
 clear hr1_3 hc1_3
 have HR2 := mk hr2
 have HC2 := mk hc2
 clear hr2 hc2
 have HB := mk (Below.refl w.heap.size w)
 have H : ((spec_sameShape.f k a0_0 a0_1 a0_2 l0_3 a1_0 a1_1 a1_2 l1_3).bind fun tz4 => (if tz4 = true then (spec_PatchImage.j0 k l2 (decide ((l2.length : Int) > 128)) a0_0 a0_1 a0_2 l0_3 a1_0 a1_1 a1_2 l1_3) else (spec_PatchImage.j0 k l2 true a0_0 a0_1 a0_2 l0_3 a1_0 a1_1 a1_2 l1_3))) = some (r1, r2, r3, r4, r5) := h
 clear h
 have HC4 := mk H
 clear H
 go_enter Try.func72, Try.ntmps72
 go_upto_region 1 with (first | ((with_reducible refine gate_dst (N := 3) rfl ?_); (try (refine gate_guard (by rfl) ?_; dsimp only)); refine box_event (by rfl) (N := 3) (by rfl) (cs := #[.int .i64 a0_0, .int .i64 a0_1, .int .i64 a0_2, .slice A0_3 l0_3.length c0_3]) (t := 27) (by go_simp; done) ?_; intro gbz0 hg w5 hbox hb; replace HB := mk (below_step HB.out hb); have BKz0 := mk (hbox); clear hb hbox hg) | ((with_reducible refine gate_dst (N := 4) rfl ?_); (try (refine gate_guard (by rfl) ?_; dsimp only)); refine box_event (by rfl) (N := 4) (by rfl) (cs := #[.int .i64 a1_0, .int .i64 a1_1, .int .i64 a1_2, .slice A1_3 l1_3.length c1_3]) (t := 27) (by go_simp; done) ?_; intro gbz3 hg w6 hbox hb; replace BKz0 := mk (blk_below BKz0.out hb); replace HB := mk (below_step HB.out hb); have BKz2 := mk (hbox); clear hb hbox hg) | ((with_reducible refine gate_dst (N := 6) rfl ?_); (try (refine gate_guard (by rfl) ?_; dsimp only)); refine box_event (by rfl) (N := 6) (by rfl) (cs := #[.int .i64 0, .int .i64 0, .int .i64 0, .slice none 0 0]) (t := 27) (by go_simp; done) ?_; intro gbz1 hg w7 hbox hb; replace BKz0 := mk (blk_below BKz0.out hb); replace BKz2 := mk (blk_below BKz2.out hb); have BKz1 := mk (hbox); have GEz0 := mk ((by rw [hg]; exact (below_size HB.out) : w.heap.size ≤ gbz1)); replace HB := mk (below_step HB.out hb); clear hb hbox hg))
 go_cut [18] (fun v18 wc => ∃ (kq : Nat) (x18_3 : Bool), v18 = .bool x18_3 ∧ Aside0 (spec_PatchImage.j0 kq l2 x18_3 a0_0 a0_1 a0_2 l0_3 a1_0 a1_1 a1_2 l1_3 = some (r1, r2, r3, r4, r5)) ∧ Aside0 (kq ≤ k) ∧ Aside0 (wc.heap[gbz0]? = some (.cells #[.int .i64 a0_0, .int .i64 a0_1, .int .i64 a0_2, (.slice A0_3 l0_3.length c0_3)] 27 (0, 0))) ∧ Aside0 (wc.heap[gbz3]? = some (.cells #[.int .i64 a1_0, .int .i64 a1_1, .int .i64 a1_2, (.slice A1_3 l1_3.length c1_3)] 27 (0, 0))) ∧ Aside0 (wc.heap[gbz1]? = some (.cells #[.int .i64 0, .int .i64 0, .int .i64 0, (.slice none 0 0)] 27 (0, 0))) ∧ Aside0 (Below w.heap.size w wc))
 case first =>
  have H := HC4.out
  clear HC4
  replace H := Option.bind_eq_some_iff.mp H
  obtain ⟨tz4, A80, H⟩ := H
  replace H : (if tz4 = true then (spec_PatchImage.j0 k l2 (decide ((l2.length : Int) > 128)) a0_0 a0_1 a0_2 l0_3 a1_0 a1_1 a1_2 l1_3) else (spec_PatchImage.j0 k l2 true a0_0 a0_1 a0_2 l0_3 a1_0 a1_1 a1_2 l1_3)) = some (r1, r2, r3, r4, r5) := H
  have A8 := mk A80
  clear A80
  by_cases c9 : tz4 = true
  ·subst c9
   have H1 : (spec_PatchImage.j0 k l2 (decide ((l2.length : Int) > 128)) a0_0 a0_1 a0_2 l0_3 a1_0 a1_1 a1_2 l1_3) = some (r1, r2, r3, r4, r5) := by rw [if_pos rfl] at H; exact H
   clear H
   have H := H1
   clear H1
   have H' := mk H
   clear H
   have hcz12_0 : w7.cell? ⟨gbz0, 0, none⟩ = some (.int .i64 a0_0) := (blk_cell BKz0.out 0).trans rfl
   have hcz12_1 : w7.cell? ⟨gbz0, 1, none⟩ = some (.int .i64 a0_1) := (blk_cell BKz0.out 1).trans rfl
   have hcz12_2 : w7.cell? ⟨gbz0, 2, none⟩ = some (.int .i64 a0_2) := (blk_cell BKz0.out 2).trans rfl
   have hcz12_3 : w7.cell? ⟨gbz0, 3, none⟩ = some (.slice A0_3 l0_3.length c0_3) := (blk_cell BKz0.out 3).trans rfl
   have hcz14_0 : w7.cell? ⟨gbz3, 0, none⟩ = some (.int .i64 a1_0) := (blk_cell BKz2.out 0).trans rfl
   have hcz14_1 : w7.cell? ⟨gbz3, 1, none⟩ = some (.int .i64 a1_1) := (blk_cell BKz2.out 1).trans rfl
   have hcz14_2 : w7.cell? ⟨gbz3, 2, none⟩ = some (.int .i64 a1_2) := (blk_cell BKz2.out 2).trans rfl
   have hcz14_3 : w7.cell? ⟨gbz3, 3, none⟩ = some (.slice A1_3 l1_3.length c1_3) := (blk_cell BKz2.out 3).trans rfl
   go_wp2_with (first | ((with_reducible refine gate_callee (f := 81) rfl ?_); refine goesL_ (some 12) rfl rfl Try.func81 (by kernel_rfl) rfl #[.agg #[.int .i64 a0_0, .int .i64 a0_1, .int .i64 a0_2, .slice A0_3 l0_3.length c0_3], .agg #[.int .i64 a1_0, .int .i64 a1_1, .int .i64 a1_2, .slice A1_3 l1_3.length c1_3]] rfl (by (try simp only [List.map_toArray, List.map_cons, List.map_nil]); rfl) ?_; (with_reducible refine (spec_sameShape.calls k a0_0 a0_1 a0_2 _ _ l0_3 a1_0 a1_1 a1_2 _ _ l1_3 true _ ?side1 ?side2 ?side3 ?side4 A8.out).mono ?_); (case side1 => repeat (exact (Kd.C_below HR0_3.out HB.out))); (case side2 => exact HC0_3.out); (case side3 => repeat (exact (Kd.C_below HR1_3.out HB.out))); (case side4 => exact HC1_3.out); rintro e w15 ⟨rfl, hb⟩; refine ⟨_, rfl, ?_⟩; replace BKz0 := mk (blk_below BKz0.out hb); replace BKz2 := mk (blk_below BKz2.out hb); replace BKz1 := mk (blk_below BKz1.out hb); replace HB := mk (below_step HB.out hb); (try clear hb)))
   go_meet
   case rel => exact ⟨_, (decide ((l2.length : Int) > 128)), (by rfl), H', ⟨by omega⟩, ⟨by (with_reducible repeat (first | refine blk_drewN ?_ _ | refine blk_drew ?_ | refine blk_alloc ?_ _)); exact BKz0.out⟩, ⟨by (with_reducible repeat (first | refine blk_drewN ?_ _ | refine blk_drew ?_ | refine blk_alloc ?_ _)); exact BKz2.out⟩, ⟨by (with_reducible repeat (first | refine blk_drewN ?_ _ | refine blk_drew ?_ | refine blk_alloc ?_ _)); exact BKz1.out⟩, ⟨by exact HB.out⟩⟩
  replace c9 := Bool.eq_false_iff.mpr c9
  subst c9
  have H1 : (spec_PatchImage.j0 k l2 true a0_0 a0_1 a0_2 l0_3 a1_0 a1_1 a1_2 l1_3) = some (r1, r2, r3, r4, r5) := by rw [if_neg (show ¬ (false = true) by decide)] at H; exact H
  clear H
  have H := H1
  clear H1
  have H' := mk H
  clear H
  have hcz18_0 : w7.cell? ⟨gbz0, 0, none⟩ = some (.int .i64 a0_0) := (blk_cell BKz0.out 0).trans rfl
  have hcz18_1 : w7.cell? ⟨gbz0, 1, none⟩ = some (.int .i64 a0_1) := (blk_cell BKz0.out 1).trans rfl
  have hcz18_2 : w7.cell? ⟨gbz0, 2, none⟩ = some (.int .i64 a0_2) := (blk_cell BKz0.out 2).trans rfl
  have hcz18_3 : w7.cell? ⟨gbz0, 3, none⟩ = some (.slice A0_3 l0_3.length c0_3) := (blk_cell BKz0.out 3).trans rfl
  have hcz20_0 : w7.cell? ⟨gbz3, 0, none⟩ = some (.int .i64 a1_0) := (blk_cell BKz2.out 0).trans rfl
  have hcz20_1 : w7.cell? ⟨gbz3, 1, none⟩ = some (.int .i64 a1_1) := (blk_cell BKz2.out 1).trans rfl
  have hcz20_2 : w7.cell? ⟨gbz3, 2, none⟩ = some (.int .i64 a1_2) := (blk_cell BKz2.out 2).trans rfl
  have hcz20_3 : w7.cell? ⟨gbz3, 3, none⟩ = some (.slice A1_3 l1_3.length c1_3) := (blk_cell BKz2.out 3).trans rfl
  go_wp2_with (first | ((with_reducible refine gate_callee (f := 81) rfl ?_); refine goesL_ (some 12) rfl rfl Try.func81 (by kernel_rfl) rfl #[.agg #[.int .i64 a0_0, .int .i64 a0_1, .int .i64 a0_2, .slice A0_3 l0_3.length c0_3], .agg #[.int .i64 a1_0, .int .i64 a1_1, .int .i64 a1_2, .slice A1_3 l1_3.length c1_3]] rfl (by (try simp only [List.map_toArray, List.map_cons, List.map_nil]); rfl) ?_; (with_reducible refine (spec_sameShape.calls k a0_0 a0_1 a0_2 _ _ l0_3 a1_0 a1_1 a1_2 _ _ l1_3 false _ ?side1 ?side2 ?side3 ?side4 A8.out).mono ?_); (case side1 => repeat (exact (Kd.C_below HR0_3.out HB.out))); (case side2 => exact HC0_3.out); (case side3 => repeat (exact (Kd.C_below HR1_3.out HB.out))); (case side4 => exact HC1_3.out); rintro e w21 ⟨rfl, hb⟩; refine ⟨_, rfl, ?_⟩; replace BKz0 := mk (blk_below BKz0.out hb); replace BKz2 := mk (blk_below BKz2.out hb); replace BKz1 := mk (blk_below BKz1.out hb); replace HB := mk (below_step HB.out hb); (try clear hb)))
  go_meet
  case rel => exact ⟨_, (true), (by rfl), H', ⟨by omega⟩, ⟨by (with_reducible repeat (first | refine blk_drewN ?_ _ | refine blk_drew ?_ | refine blk_alloc ?_ _)); exact BKz0.out⟩, ⟨by (with_reducible repeat (first | refine blk_drewN ?_ _ | refine blk_drew ?_ | refine blk_alloc ?_ _)); exact BKz2.out⟩, ⟨by (with_reducible repeat (first | refine blk_drewN ?_ _ | refine blk_drew ?_ | refine blk_alloc ?_ _)); exact BKz1.out⟩, ⟨by exact HB.out⟩⟩
 case rest =>
  clear HC4
  try clear c1
  try clear c2
  try clear p2
  try clear c7
  try clear c8
  try clear c9
  try clear c10
  try clear c11
  try clear c13
  try clear c16
  try clear c17
  try clear c19
  try clear hcz12_0
  try clear hcz12_1
  try clear hcz12_2
  try clear hcz12_3
  try clear hcz14_0
  try clear hcz14_1
  try clear hcz14_2
  try clear hcz14_3
  try clear hcz18_0
  try clear hcz18_1
  try clear hcz18_2
  try clear hcz18_3
  try clear hcz20_0
  try clear hcz20_1
  try clear hcz20_2
  try clear hcz20_3
  try clear hfz12_0
  try clear hfz12_1
  try clear hfz12_2
  try clear hfz12_3
  try clear hfz14_0
  try clear hfz14_1
  try clear hfz14_2
  try clear hfz14_3
  try clear hfz18_0
  try clear hfz18_1
  try clear hfz18_2
  try clear hfz18_3
  try clear hfz20_0
  try clear hfz20_1
  try clear hfz20_2
  try clear hfz20_3
  obtain ⟨kq, x18_3, rfl, HA, HJ3, BKz0, BKz2, BKz1, HB⟩ := hcut
  cases kq with
  | zero => exact absurd HA.out (by simp [spec_PatchImage.j0])
  | succ kj3 =>
   have H := HA.out
   clear HA
   simp only [spec_PatchImage.j0] at H
   by_cases c22 : x18_3 = true
   ·subst c22
    have H1 : (some (0, 0, 0, ([] : List Int), false)) = some (r1, r2, r3, r4, r5) := by rw [if_pos rfl] at H; exact H
    clear H
    have H := H1
    clear H1
    simp only [Option.some.injEq, Prod.mk.injEq] at H
    obtain ⟨rfl, rfl, rfl, rfl, rfl⟩ := H
    have hcz25_0 : wc.cell? ⟨gbz1, 0, none⟩ = some (.int .i64 0) := (blk_cell BKz1.out 0).trans rfl
    have hcz25_1 : wc.cell? ⟨gbz1, 1, none⟩ = some (.int .i64 0) := (blk_cell BKz1.out 1).trans rfl
    have hcz25_2 : wc.cell? ⟨gbz1, 2, none⟩ = some (.int .i64 0) := (blk_cell BKz1.out 2).trans rfl
    have hcz25_3 : wc.cell? ⟨gbz1, 3, none⟩ = some (.slice none 0 0) := (blk_cell BKz1.out 3).trans rfl
    have hfz25_0 := blk_frozen BKz1.out 0
    have hfz25_1 := blk_frozen BKz1.out 1
    have hfz25_2 := blk_frozen BKz1.out 2
    have hfz25_3 := blk_frozen BKz1.out 3
    go_wp2
    refine bodyPost_ret (results_ct rfl _ _ gbz1 27 #[.int .i64 0, .int .i64 0, .int .i64 0, .slice none 0 0] (0, 0) _ rfl (by refine blk_put (cs := #[.int .i64 0, .int .i64 0, .int .i64 0, .slice none 0 0]) ?_ 3 _ rfl; refine blk_put (cs := #[.int .i64 0, .int .i64 0, .int .i64 0, .slice none 0 0]) ?_ 2 _ rfl; refine blk_put (cs := #[.int .i64 0, .int .i64 0, .int .i64 0, .slice none 0 0]) ?_ 1 _ rfl; refine blk_put (cs := #[.int .i64 0, .int .i64 0, .int .i64 0, .slice none 0 0]) ?_ 0 _ rfl; (with_reducible repeat (first | refine blk_drewN ?_ _ | refine blk_drew ?_ | refine blk_alloc ?_ _)); exact BKz1.out) Try.underlying27 rfl (by kernel_rfl)) rfl ?_
    exact ⟨_, by rfl, by exact Kd.R_nil _ _ _ _ _, by repeat (with_reducible first | exact HB.out | refine below_set ?_ GEz0.out)⟩
   replace c22 := Bool.eq_false_iff.mpr c22
   subst c22
   have H1 : ((spec_copyImage.f a0_0 a0_1 a0_2 l0_3).bind fun btz1 => (spec_PatchImage.l0 kj3 l2 0 a0_0 a0_1 a0_2 l0_3 a1_0 a1_1 a1_2 l1_3 btz1.1 btz1.2.1 btz1.2.2.1 btz1.2.2.2)) = some (r1, r2, r3, r4, r5) := by rw [if_neg (show ¬ (false = true) by decide)] at H; exact H
   clear H
   have H := H1
   clear H1
   replace H := Option.bind_eq_some_iff.mp H
   obtain ⟨⟨tz0, tz1, tz2, tz5⟩, A260, H⟩ := H
   replace H : (spec_PatchImage.l0 kj3 l2 0 a0_0 a0_1 a0_2 l0_3 a1_0 a1_1 a1_2 l1_3 tz0 tz1 tz2 tz5) = some (r1, r2, r3, r4, r5) := H
   have A26 := mk A260
   clear A260
   have H' := mk H
   clear H
   have hcz29_0 : wc.cell? ⟨gbz0, 0, none⟩ = some (.int .i64 a0_0) := (blk_cell BKz0.out 0).trans rfl
   have hcz29_1 : wc.cell? ⟨gbz0, 1, none⟩ = some (.int .i64 a0_1) := (blk_cell BKz0.out 1).trans rfl
   have hcz29_2 : wc.cell? ⟨gbz0, 2, none⟩ = some (.int .i64 a0_2) := (blk_cell BKz0.out 2).trans rfl
   have hcz29_3 : wc.cell? ⟨gbz0, 3, none⟩ = some (.slice A0_3 l0_3.length c0_3) := (blk_cell BKz0.out 3).trans rfl
   have hfz29_0 := blk_frozen BKz0.out 0
   have hfz29_1 := blk_frozen BKz0.out 1
   have hfz29_2 := blk_frozen BKz0.out 2
   have hfz29_3 := blk_frozen BKz0.out 3
   go_wp2_with (first | ((with_reducible refine gate_callee (f := 113) rfl ?_); refine goesL_ (some 21) rfl rfl Try.func113 (by kernel_rfl) rfl #[.agg #[.int .i64 a0_0, .int .i64 a0_1, .int .i64 a0_2, .slice A0_3 l0_3.length c0_3]] rfl (by (try simp only [List.map_toArray, List.map_cons, List.map_nil]); rfl) ?_; (with_reducible refine (spec_copyImage.calls a0_0 a0_1 a0_2 _ _ l0_3 tz0 tz1 tz2 tz5 _ ?side1 ?side2 A26.out).mono ?_); (case side1 => repeat (exact (Kd.C_below HR0_3.out HB.out))); (case side2 => exact HC0_3.out); rintro e w30 ⟨vz0, rfl, ho0, hb⟩; refine ⟨_, rfl, ?_⟩; have HOz2 := mk (Kd.R_lower ho0 (below_size HB.out)); replace BKz0 := mk (blk_below BKz0.out hb); replace BKz2 := mk (blk_below BKz2.out hb); replace BKz1 := mk (blk_below BKz1.out hb); replace HB := mk (below_step HB.out hb); (try clear hb); (try clear ho0)) | ((with_reducible refine gate_dst (N := 8) rfl ?_); (try (refine gate_guard (by rfl) ?_; dsimp only)); refine box_event (by rfl) (N := 8) (by rfl) (cs := #[.int .i64 0, .int .i64 0, .int .i64 0, .slice none 0 0]) (t := 27) (by go_simp; done) ?_; intro gbz2 hg w31 hbox hb; replace HOz2 := mk (Kd.R_below HOz2.out hb); have BKz3 := mk (hbox); have GEz1 := mk ((by rw [hg]; exact (below_size HB.out) : w.heap.size ≤ gbz2)); replace HB := mk (below_step HB.out hb); have NBz0 := mk ((by rw [hg]; exact Nat.ne_of_lt (blk_lt BKz0.out) : gbz0 ≠ gbz2)); replace BKz0 := mk (blk_below BKz0.out hb); have NBz1 := mk ((by rw [hg]; exact Nat.ne_of_lt (blk_lt BKz2.out) : gbz3 ≠ gbz2)); replace BKz2 := mk (blk_below BKz2.out hb); have NBz2 := mk ((by rw [hg]; exact Nat.ne_of_lt (blk_lt BKz1.out) : gbz1 ≠ gbz2)); replace BKz1 := mk (blk_below BKz1.out hb); clear hb hbox hg; have hcz35_0 : w31.cell? ⟨gbz2, 0, none⟩ = some (.int .i64 0) := (blk_cell BKz3.out 0).trans rfl; have hcz35_1 : w31.cell? ⟨gbz2, 1, none⟩ = some (.int .i64 0) := (blk_cell BKz3.out 1).trans rfl; have hcz35_2 : w31.cell? ⟨gbz2, 2, none⟩ = some (.int .i64 0) := (blk_cell BKz3.out 2).trans rfl; have hcz35_3 : w31.cell? ⟨gbz2, 3, none⟩ = some (.slice none 0 0) := (blk_cell BKz3.out 3).trans rfl; have hfz35_0 := blk_frozen BKz3.out 0; have hfz35_1 := blk_frozen BKz3.out 1; have hfz35_2 := blk_frozen BKz3.out 2; have hfz35_3 := blk_frozen BKz3.out 3; obtain ⟨Ao36, co36, eo36⟩ := Kd.R_slice HOz2.out; subst eo36))
   go_loopg [9] kj3 (fun kq v9 w' => ∃ (x9_2 : Int) (xz3 : Int) (xz2 : Int) (xz1 : Int) (xz0 : List Int) (u73012003 : Value), v9 = .int .i64 x9_2 ∧ Aside0 (spec_PatchImage.l0 kq l2 x9_2 a0_0 a0_1 a0_2 l0_3 a1_0 a1_1 a1_2 l1_3 tz0 tz1 tz2 xz0 = some (r1, r2, r3, r4, r5)) ∧ Aside0 (kq ≤ kj3) ∧ Aside0 (Kd.R (Kd.int .i64) 3 w' w.heap.size (fun _ => True) u73012003 xz0) ∧ Aside0 (w'.heap[gbz0]? = some (.cells #[.int .i64 a0_0, .int .i64 a0_1, .int .i64 a0_2, (.slice A0_3 l0_3.length c0_3)] 27 (0, 0))) ∧ Aside0 (w'.heap[gbz3]? = some (.cells #[.int .i64 a1_0, .int .i64 a1_1, .int .i64 a1_2, (.slice A1_3 l1_3.length c1_3)] 27 (0, 0))) ∧ Aside0 (w'.heap[gbz1]? = some (.cells #[.int .i64 xz3, .int .i64 xz2, .int .i64 xz1, (.slice none 0 0)] 27 (0, 0))) ∧ Aside0 (w'.heap[gbz2]? = some (.cells #[.int .i64 tz0, .int .i64 tz1, .int .i64 tz2, u73012003] 27 (0, 0))) ∧ Aside0 (Below w.heap.size w w'))
   case atStart => exact ⟨(0), (0), (0), (0), (tz5), (.slice Ao36 tz5.length co36), (by rfl), H', ⟨Nat.le_refl _⟩, ⟨by (with_reducible repeat (first | apply Kd.R_alloc | apply Kd.R_drewN | apply Kd.R_drew)); exact Kd.R_mono (Kd.R_far (p := ⟨gbz2, 3, none⟩) (Kd.R_far (p := ⟨gbz2, 2, none⟩) (Kd.R_far (p := ⟨gbz2, 1, none⟩) (Kd.R_far (p := ⟨gbz2, 0, none⟩) (Kd.R_types HOz2.out BKz3.out (by decide)) (fun _ hk => hk.2) (.int .i64 tz0)) (fun _ hk => hk.2) (.int .i64 tz1)) (fun _ hk => hk.2) (.int .i64 tz2)) (fun _ hk => hk.2) (.slice Ao36 tz5.length co36)) (fun _ hk => trivial)⟩, ⟨by refine blk_far ?_ NBz0.out _; refine blk_far ?_ NBz0.out _; refine blk_far ?_ NBz0.out _; refine blk_far ?_ NBz0.out _; (with_reducible repeat (first | refine blk_drewN ?_ _ | refine blk_drew ?_ | refine blk_alloc ?_ _)); exact BKz0.out⟩, ⟨by refine blk_far ?_ NBz1.out _; refine blk_far ?_ NBz1.out _; refine blk_far ?_ NBz1.out _; refine blk_far ?_ NBz1.out _; (with_reducible repeat (first | refine blk_drewN ?_ _ | refine blk_drew ?_ | refine blk_alloc ?_ _)); exact BKz2.out⟩, ⟨by refine blk_far ?_ NBz2.out _; refine blk_far ?_ NBz2.out _; refine blk_far ?_ NBz2.out _; refine blk_far ?_ NBz2.out _; (with_reducible repeat (first | refine blk_drewN ?_ _ | refine blk_drew ?_ | refine blk_alloc ?_ _)); exact BKz1.out⟩, ⟨by refine blk_put (cs := #[.int .i64 tz0, .int .i64 tz1, .int .i64 tz2, .slice none 0 0]) ?_ 3 _ rfl; refine blk_put (cs := #[.int .i64 tz0, .int .i64 tz1, .int .i64 0, .slice none 0 0]) ?_ 2 _ rfl; refine blk_put (cs := #[.int .i64 tz0, .int .i64 0, .int .i64 0, .slice none 0 0]) ?_ 1 _ rfl; refine blk_put (cs := #[.int .i64 0, .int .i64 0, .int .i64 0, .slice none 0 0]) ?_ 0 _ rfl; (with_reducible repeat (first | refine blk_drewN ?_ _ | refine blk_drew ?_ | refine blk_alloc ?_ _)); exact BKz3.out⟩, ⟨by repeat (with_reducible first | exact HB.out | refine below_set ?_ GEz1.out)⟩⟩
   case round =>
    clear H'
    try clear c1
    try clear c2
    try clear p2
    try clear c3
    try clear c7
    try clear c8
    try clear c9
    try clear c10
    try clear c11
    try clear c13
    try clear c16
    try clear c17
    try clear c19
    try clear c22
    try clear c23
    try clear c24
    try clear c27
    try clear c28
    try clear c32
    try clear c33
    try clear c34
    try clear hcz12_0
    try clear hcz12_1
    try clear hcz12_2
    try clear hcz12_3
    try clear hcz14_0
    try clear hcz14_1
    try clear hcz14_2
    try clear hcz14_3
    try clear hcz18_0
    try clear hcz18_1
    try clear hcz18_2
    try clear hcz18_3
    try clear hcz20_0
    try clear hcz20_1
    try clear hcz20_2
    try clear hcz20_3
    try clear hcz25_0
    try clear hcz25_1
    try clear hcz25_2
    try clear hcz25_3
    try clear hcz29_0
    try clear hcz29_1
    try clear hcz29_2
    try clear hcz29_3
    try clear hcz35_0
    try clear hcz35_1
    try clear hcz35_2
    try clear hcz35_3
    try clear hfz12_0
    try clear hfz12_1
    try clear hfz12_2
    try clear hfz12_3
    try clear hfz14_0
    try clear hfz14_1
    try clear hfz14_2
    try clear hfz14_3
    try clear hfz18_0
    try clear hfz18_1
    try clear hfz18_2
    try clear hfz18_3
    try clear hfz20_0
    try clear hfz20_1
    try clear hfz20_2
    try clear hfz20_3
    try clear hfz25_0
    try clear hfz25_1
    try clear hfz25_2
    try clear hfz25_3
    try clear hfz29_0
    try clear hfz29_1
    try clear hfz29_2
    try clear hfz29_3
    try clear hfz35_0
    try clear hfz35_1
    try clear hfz35_2
    try clear hfz35_3
    try clear p2
    obtain ⟨x9_2, xz3, xz2, xz1, xz0, u73012003, rfl, HA, HK2, HOz0, BKz0, BKz2, BKz1, BKz3, HB⟩ := hrel
    cases gk with
    | zero => exact absurd HA.out (by simp [spec_PatchImage.l0])
    | succ k2 =>
     have H := HA.out
     clear HA
     simp only [spec_PatchImage.l0] at H
     by_cases c37 : x9_2 < (l2.length : Int)
     ·rw [if_pos c37] at H
      have c37b0 : decide (x9_2 < (l2.length : Int)) = true := decide_eq_true c37
      clear c37
      by_cases c38 : 0 ≤ x9_2
      ·rw [if_pos c38] at H
       have c38b0 : decide (0 ≤ x9_2) = true := decide_eq_true c38
       clear c38
       replace H := Option.bind_eq_some_iff.mp H
       obtain ⟨tz6, A390, H⟩ := H
       replace H : (if tz6 = true then ((spec_crop.f k2 a1_0 a1_1 a1_2 l1_3 ((rd_T47 l2 x9_2).f0) ((rd_T47 l2 x9_2).f1) ((rd_T47 l2 x9_2).f2) ((rd_T47 l2 x9_2).f3)).bind fun btz0 => ((spec_paste.f k2 tz0 tz1 tz2 xz0 ((rd_T47 l2 x9_2).f0) ((rd_T47 l2 x9_2).f1) btz0.1 btz0.2.1 btz0.2.2.1 btz0.2.2.2).bind fun tz3 => (spec_PatchImage.l0 k2 l2 (wrap64 (x9_2 + 1)) a0_0 a0_1 a0_2 l0_3 a1_0 a1_1 a1_2 l1_3 tz0 tz1 tz2 tz3))) else (some (0, 0, 0, ([] : List Int), false))) = some (r1, r2, r3, r4, r5) := H
       have A39 := mk A390
       clear A390
       by_cases c40 : tz6 = true
       ·subst c40
        have H1 : ((spec_crop.f k2 a1_0 a1_1 a1_2 l1_3 ((rd_T47 l2 x9_2).f0) ((rd_T47 l2 x9_2).f1) ((rd_T47 l2 x9_2).f2) ((rd_T47 l2 x9_2).f3)).bind fun btz0 => ((spec_paste.f k2 tz0 tz1 tz2 xz0 ((rd_T47 l2 x9_2).f0) ((rd_T47 l2 x9_2).f1) btz0.1 btz0.2.1 btz0.2.2.1 btz0.2.2.2).bind fun tz3 => (spec_PatchImage.l0 k2 l2 (wrap64 (x9_2 + 1)) a0_0 a0_1 a0_2 l0_3 a1_0 a1_1 a1_2 l1_3 tz0 tz1 tz2 tz3))) = some (r1, r2, r3, r4, r5) := by rw [if_pos rfl] at H; exact H
        clear H
        have H := H1
        clear H1
        replace H := Option.bind_eq_some_iff.mp H
        obtain ⟨⟨tz7, tz8, tz9, tz10⟩, A410, H⟩ := H
        replace H : ((spec_paste.f k2 tz0 tz1 tz2 xz0 ((rd_T47 l2 x9_2).f0) ((rd_T47 l2 x9_2).f1) tz7 tz8 tz9 tz10).bind fun tz3 => (spec_PatchImage.l0 k2 l2 (wrap64 (x9_2 + 1)) a0_0 a0_1 a0_2 l0_3 a1_0 a1_1 a1_2 l1_3 tz0 tz1 tz2 tz3)) = some (r1, r2, r3, r4, r5) := H
        have A41 := mk A410
        clear A410
        replace H := Option.bind_eq_some_iff.mp H
        obtain ⟨tz3, A420, H⟩ := H
        replace H : (spec_PatchImage.l0 k2 l2 (wrap64 (x9_2 + 1)) a0_0 a0_1 a0_2 l0_3 a1_0 a1_1 a1_2 l1_3 tz0 tz1 tz2 tz3) = some (r1, r2, r3, r4, r5) := H
        have A42 := mk A420
        clear A420
        have H' := mk H
        clear H
        try go_wp2
        have n0_ := mk (Kd.R_drew HOz0.out)
        have n1_ := mk (blk_drew BKz0.out)
        have n2_ := mk (blk_drew BKz2.out)
        have n3_ := mk (blk_drew BKz1.out)
        have n4_ := mk (blk_drew BKz3.out)
        have n5_ := mk (below_drew1 HB.out)
        clear HOz0 BKz0 BKz2 BKz1 BKz3 HB
        revert n0_ n1_ n2_ n3_ n4_ n5_; intro HOz0 BKz0 BKz2 BKz1 BKz3 HB
        have p73012 : 0 ≤ (x9_2 : Int) := of_decide_eq_true (by (with_reducible assumption))
        have q73012 : x9_2 < (l2.length : Int) := of_decide_eq_true (by (with_reducible assumption))
        obtain ⟨ad73012, e73012, hx73012_0, hx73012_1, hx73012_2, hx73012_3⟩ := at_T47 HR2.out x9_2 p73012 q73012
        have hw73012_3 := hx73012_3
        have hw73012_2 := hx73012_2
        have hw73012_1 := hx73012_1
        have hw73012_0 := hx73012_0
        cases e73012
        replace hx73012_0 := (HB.out.cell (World.block_lt_of_cell? w _ hx73012_0)).trans hx73012_0
        replace hx73012_1 := (HB.out.cell (World.block_lt_of_cell? w _ hx73012_1)).trans hx73012_1
        replace hx73012_2 := (HB.out.cell (World.block_lt_of_cell? w _ hx73012_2)).trans hx73012_2
        replace hx73012_3 := (HB.out.cell (World.block_lt_of_cell? w _ hx73012_3)).trans hx73012_3
        replace p73012 := eq_true p73012
        replace q73012 := eq_true q73012
        refine start_ (n := 7) (S := fun w' => w'.cell? ⟨gbz0, 0, none⟩ = some (.int .i64 a0_0) ∧ w'.cell? ⟨gbz0, 1, none⟩ = some (.int .i64 a0_1) ∧ w'.cell? ⟨gbz0, 2, none⟩ = some (.int .i64 a0_2) ∧ w'.cell? ⟨gbz0, 3, none⟩ = some (.slice A0_3 l0_3.length c0_3) ∧ w'.cell? (ad73012.add ((x9_2).toNat * 4)) = some (.int .i64 ((rd_T47 l2 x9_2).f0)) ∧ w'.cell? ⟨(ad73012.add ((x9_2).toNat * 4)).block, (ad73012.add ((x9_2).toNat * 4)).off + 1, none⟩ = some (.int .i64 ((rd_T47 l2 x9_2).f1)) ∧ w'.cell? ⟨(ad73012.add ((x9_2).toNat * 4)).block, (ad73012.add ((x9_2).toNat * 4)).off + 2, none⟩ = some (.int .i64 ((rd_T47 l2 x9_2).f2)) ∧ w'.cell? ⟨(ad73012.add ((x9_2).toNat * 4)).block, (ad73012.add ((x9_2).toNat * 4)).off + 3, none⟩ = some (.int .i64 ((rd_T47 l2 x9_2).f3))) (ds := []) #[false, false, false, false, false, false, false] (by kernel_rfl) rfl rfl ⟨(blk_cell BKz0.out 0).trans rfl, (blk_cell BKz0.out 1).trans rfl, (blk_cell BKz0.out 2).trans rfl, (blk_cell BKz0.out 3).trans rfl, ((HB.out.cell (World.block_lt_of_cell? w _ hw73012_0)).trans hw73012_0), ((HB.out.cell (World.block_lt_of_cell? w _ hw73012_1)).trans hw73012_1), ((HB.out.cell (World.block_lt_of_cell? w _ hw73012_2)).trans hw73012_2), ((HB.out.cell (World.block_lt_of_cell? w _ hw73012_3)).trans hw73012_3)⟩ (fun hHeld => ?_)
        generalize wr.drew = w43 at HOz0 BKz0 BKz2 BKz1 BKz3 HB hx73012_0 hx73012_1 hx73012_2 hx73012_3 hHeld ⊢
        refine pure_ (i := 1) (N := some 29) (v := ?_) (a' := ?_) #[false, true, false, false, false, false, false] rfl rfl (by kernel_rfl) (fun _ _ _ h => h) (Or.inl ⟨by rfl, ?_⟩) ?_ ?_
        rotate_left
        ·intro w'
         go_simp
         with_reducible rfl
        rotate_left
        ·simp only [Act.put, List.setIfInBounds_toArray, List.set_cons_zero, List.set_cons_succ, i64_w, i32_w]
         rfl
        refine pure_ (i := 2) (N := some 30) (v := ?_) (a' := ?_) #[false, true, true, false, false, false, false] rfl rfl (by kernel_rfl) (fun _ _ _ h => h) (Or.inl ⟨by rfl, ?_⟩) ?_ ?_
        rotate_left
        ·intro w'
         go_simp
         with_reducible rfl
        rotate_left
        ·simp only [Act.put, List.setIfInBounds_toArray, List.set_cons_zero, List.set_cons_succ, i64_w, i32_w]
         rfl
        refine pure_ (i := 3) (N := some 31) (v := ?_) (a' := ?_) #[false, true, true, true, false, false, false] rfl rfl (by kernel_rfl) (fun _ _ _ h => h) (Or.inl ⟨by rfl, ?_⟩) ?_ ?_
        rotate_left
        ·intro w'
         go_simp
         with_reducible rfl
        rotate_left
        ·simp only [Act.put, List.setIfInBounds_toArray, List.set_cons_zero, List.set_cons_succ, i64_w, i32_w]
         rfl
        refine take_ (i := 0) (N := some 28) (v := ?_) (a' := ?_) #[true, true, true, true, false, false, false] rfl rfl (by kernel_rfl) (fun _ _ _ h => h) (Or.inl ⟨by rfl, ?_⟩) hHeld ?_ ?_
        rotate_left
        ·rintro w' ⟨s0, s1, s2, s3, s4, s5, s6, s7⟩
         go_simp
         with_reducible rfl
        rotate_left
        ·simp only [Act.put, List.setIfInBounds_toArray, List.set_cons_zero, List.set_cons_succ, i64_w, i32_w]
         rfl
        refine take_ (i := 4) (N := some 32) (v := ?_) (a' := ?_) #[true, true, true, true, true, false, false] rfl rfl (by kernel_rfl) (fun _ _ _ h => h) (Or.inl ⟨by rfl, ?_⟩) hHeld ?_ ?_
        rotate_left
        ·rintro w' ⟨s0, s1, s2, s3, s4, s5, s6, s7⟩
         go_simp
         with_reducible rfl
        rotate_left
        ·simp only [Act.put, List.setIfInBounds_toArray, List.set_cons_zero, List.set_cons_succ, i64_w, i32_w]
         rfl
        refine one_ (i := 5) (N := some 33) #[true, true, true, true, true, true, false] rfl rfl (by kernel_rfl) (by decide) (fun K hK => ?_)
        refine goes_ Try.func121 (by kernel_rfl) rfl #[.agg #[.int .i64 a0_0, .int .i64 a0_1, .int .i64 a0_2, .slice A0_3 l0_3.length c0_3], .agg #[.int .i64 ((rd_T47 l2 x9_2).f0), .int .i64 ((rd_T47 l2 x9_2).f1), .int .i64 ((rd_T47 l2 x9_2).f2), .int .i64 ((rd_T47 l2 x9_2).f3)]] (by rfl) rfl rfl (by (try simp only [List.map_toArray, List.map_cons, List.map_nil]); rfl) ?_
        with_reducible refine (spec_validBox.calls a0_0 a0_1 a0_2 _ _ l0_3 ((rd_T47 l2 x9_2).f0) ((rd_T47 l2 x9_2).f1) ((rd_T47 l2 x9_2).f2) ((rd_T47 l2 x9_2).f3) true _ ?side1 ?side2 A39.out).mono ?_
        (case side1 => repeat (exact (Kd.C_below HR0_3.out HB.out)))
        (case side2 => exact HC0_3.out)
        rintro e w44 ⟨rfl, hb⟩
        refine ⟨_, rfl, ?_⟩
        have n0_ := mk (Kd.R_below HOz0.out hb)
        have n1_ := mk (blk_below BKz0.out hb)
        have n2_ := mk (blk_below BKz2.out hb)
        have n3_ := mk (blk_below BKz1.out hb)
        have n4_ := mk (blk_below BKz3.out hb)
        have n5_ := mk (below_step HB.out hb)
        clear HOz0 BKz0 BKz2 BKz1 BKz3 HB
        revert n0_ n1_ n2_ n3_ n4_ n5_; intro HOz0 BKz0 BKz2 BKz1 BKz3 HB
        (try clear hb)
        refine hK.out _ _ ⟨(blk_cell BKz0.out 0).trans rfl, (blk_cell BKz0.out 1).trans rfl, (blk_cell BKz0.out 2).trans rfl, (blk_cell BKz0.out 3).trans rfl, ((HB.out.cell (World.block_lt_of_cell? w _ hw73012_0)).trans hw73012_0), ((HB.out.cell (World.block_lt_of_cell? w _ hw73012_1)).trans hw73012_1), ((HB.out.cell (World.block_lt_of_cell? w _ hw73012_2)).trans hw73012_2), ((HB.out.cell (World.block_lt_of_cell? w _ hw73012_3)).trans hw73012_3)⟩ (fun hHeld => ?_)
        clear hK K
        refine norm_ (a' := ?_) ?_ ?_
        rotate_left
        ·show Act.put _ (some 33) _ = _
         simp only [Act.put, List.setIfInBounds_toArray, List.set_cons_zero, List.set_cons_succ, i64_w, i32_w]
         rfl
        refine pure_ (i := 6) (N := some 34) (v := ?_) (a' := ?_) #[true, true, true, true, true, true, true] rfl rfl (by kernel_rfl) (fun _ _ _ h => h) (Or.inl ⟨by rfl, ?_⟩) ?_ ?_
        rotate_left
        ·intro w'
         go_simp
         with_reducible rfl
        rotate_left
        ·simp only [Act.put, List.setIfInBounds_toArray, List.set_cons_zero, List.set_cons_succ, i64_w, i32_w]
         rfl
        refine done_ (by kernel_rfl) ?_
        try go_wp2
        have n0_ := mk (Kd.R_drew HOz0.out)
        have n1_ := mk (blk_drew BKz0.out)
        have n2_ := mk (blk_drew BKz2.out)
        have n3_ := mk (blk_drew BKz1.out)
        have n4_ := mk (blk_drew BKz3.out)
        have n5_ := mk (below_drew1 HB.out)
        clear HOz0 BKz0 BKz2 BKz1 BKz3 HB
        revert n0_ n1_ n2_ n3_ n4_ n5_; intro HOz0 BKz0 BKz2 BKz1 BKz3 HB
        have p73014 : 0 ≤ (x9_2 : Int) := of_decide_eq_true (by (with_reducible assumption))
        have q73014 : x9_2 < (l2.length : Int) := of_decide_eq_true (by (with_reducible assumption))
        obtain ⟨ad73014, e73014, hx73014_0, hx73014_1, hx73014_2, hx73014_3⟩ := at_T47 HR2.out x9_2 p73014 q73014
        have hw73014_3 := hx73014_3
        have hw73014_2 := hx73014_2
        have hw73014_1 := hx73014_1
        have hw73014_0 := hx73014_0
        obtain rfl : ad73012 = ad73014 := (by injection e73014)
        replace hx73014_0 := (HB.out.cell (World.block_lt_of_cell? w _ hx73014_0)).trans hx73014_0
        replace hx73014_1 := (HB.out.cell (World.block_lt_of_cell? w _ hx73014_1)).trans hx73014_1
        replace hx73014_2 := (HB.out.cell (World.block_lt_of_cell? w _ hx73014_2)).trans hx73014_2
        replace hx73014_3 := (HB.out.cell (World.block_lt_of_cell? w _ hx73014_3)).trans hx73014_3
        replace p73014 := eq_true p73014
        replace q73014 := eq_true q73014
        have p73015 : 0 ≤ (x9_2 : Int) := of_decide_eq_true (by (with_reducible assumption))
        have q73015 : x9_2 < (l2.length : Int) := of_decide_eq_true (by (with_reducible assumption))
        obtain ⟨ad73015, e73015, hx73015_0, hx73015_1, hx73015_2, hx73015_3⟩ := at_T47 HR2.out x9_2 p73015 q73015
        have hw73015_3 := hx73015_3
        have hw73015_2 := hx73015_2
        have hw73015_1 := hx73015_1
        have hw73015_0 := hx73015_0
        obtain rfl : ad73012 = ad73015 := (by injection e73015)
        replace hx73015_0 := (HB.out.cell (World.block_lt_of_cell? w _ hx73015_0)).trans hx73015_0
        replace hx73015_1 := (HB.out.cell (World.block_lt_of_cell? w _ hx73015_1)).trans hx73015_1
        replace hx73015_2 := (HB.out.cell (World.block_lt_of_cell? w _ hx73015_2)).trans hx73015_2
        replace hx73015_3 := (HB.out.cell (World.block_lt_of_cell? w _ hx73015_3)).trans hx73015_3
        replace p73015 := eq_true p73015
        replace q73015 := eq_true q73015
        have p73016 : 0 ≤ (x9_2 : Int) := of_decide_eq_true (by (with_reducible assumption))
        have q73016 : x9_2 < (l2.length : Int) := of_decide_eq_true (by (with_reducible assumption))
        obtain ⟨ad73016, e73016, hx73016_0, hx73016_1, hx73016_2, hx73016_3⟩ := at_T47 HR2.out x9_2 p73016 q73016
        have hw73016_3 := hx73016_3
        have hw73016_2 := hx73016_2
        have hw73016_1 := hx73016_1
        have hw73016_0 := hx73016_0
        obtain rfl : ad73012 = ad73016 := (by injection e73016)
        replace hx73016_0 := (HB.out.cell (World.block_lt_of_cell? w _ hx73016_0)).trans hx73016_0
        replace hx73016_1 := (HB.out.cell (World.block_lt_of_cell? w _ hx73016_1)).trans hx73016_1
        replace hx73016_2 := (HB.out.cell (World.block_lt_of_cell? w _ hx73016_2)).trans hx73016_2
        replace hx73016_3 := (HB.out.cell (World.block_lt_of_cell? w _ hx73016_3)).trans hx73016_3
        replace p73016 := eq_true p73016
        replace q73016 := eq_true q73016
        have p73017 : 0 ≤ (x9_2 : Int) := of_decide_eq_true (by (with_reducible assumption))
        have q73017 : x9_2 < (l2.length : Int) := of_decide_eq_true (by (with_reducible assumption))
        obtain ⟨ad73017, e73017, hx73017_0, hx73017_1, hx73017_2, hx73017_3⟩ := at_T47 HR2.out x9_2 p73017 q73017
        have hw73017_3 := hx73017_3
        have hw73017_2 := hx73017_2
        have hw73017_1 := hx73017_1
        have hw73017_0 := hx73017_0
        obtain rfl : ad73012 = ad73017 := (by injection e73017)
        replace hx73017_0 := (HB.out.cell (World.block_lt_of_cell? w _ hx73017_0)).trans hx73017_0
        replace hx73017_1 := (HB.out.cell (World.block_lt_of_cell? w _ hx73017_1)).trans hx73017_1
        replace hx73017_2 := (HB.out.cell (World.block_lt_of_cell? w _ hx73017_2)).trans hx73017_2
        replace hx73017_3 := (HB.out.cell (World.block_lt_of_cell? w _ hx73017_3)).trans hx73017_3
        replace p73017 := eq_true p73017
        replace q73017 := eq_true q73017
        have p73018 : 0 ≤ (x9_2 : Int) := of_decide_eq_true (by (with_reducible assumption))
        have q73018 : x9_2 < (l2.length : Int) := of_decide_eq_true (by (with_reducible assumption))
        obtain ⟨ad73018, e73018, hx73018_0, hx73018_1, hx73018_2, hx73018_3⟩ := at_T47 HR2.out x9_2 p73018 q73018
        have hw73018_3 := hx73018_3
        have hw73018_2 := hx73018_2
        have hw73018_1 := hx73018_1
        have hw73018_0 := hx73018_0
        obtain rfl : ad73012 = ad73018 := (by injection e73018)
        replace hx73018_0 := (HB.out.cell (World.block_lt_of_cell? w _ hx73018_0)).trans hx73018_0
        replace hx73018_1 := (HB.out.cell (World.block_lt_of_cell? w _ hx73018_1)).trans hx73018_1
        replace hx73018_2 := (HB.out.cell (World.block_lt_of_cell? w _ hx73018_2)).trans hx73018_2
        replace hx73018_3 := (HB.out.cell (World.block_lt_of_cell? w _ hx73018_3)).trans hx73018_3
        replace p73018 := eq_true p73018
        replace q73018 := eq_true q73018
        have p73019 : 0 ≤ (x9_2 : Int) := of_decide_eq_true (by (with_reducible assumption))
        have q73019 : x9_2 < (l2.length : Int) := of_decide_eq_true (by (with_reducible assumption))
        obtain ⟨ad73019, e73019, hx73019_0, hx73019_1, hx73019_2, hx73019_3⟩ := at_T47 HR2.out x9_2 p73019 q73019
        have hw73019_3 := hx73019_3
        have hw73019_2 := hx73019_2
        have hw73019_1 := hx73019_1
        have hw73019_0 := hx73019_0
        obtain rfl : ad73012 = ad73019 := (by injection e73019)
        replace hx73019_0 := (HB.out.cell (World.block_lt_of_cell? w _ hx73019_0)).trans hx73019_0
        replace hx73019_1 := (HB.out.cell (World.block_lt_of_cell? w _ hx73019_1)).trans hx73019_1
        replace hx73019_2 := (HB.out.cell (World.block_lt_of_cell? w _ hx73019_2)).trans hx73019_2
        replace hx73019_3 := (HB.out.cell (World.block_lt_of_cell? w _ hx73019_3)).trans hx73019_3
        replace p73019 := eq_true p73019
        replace q73019 := eq_true q73019
        refine start_ (n := 34) (S := fun w' => w'.cell? ⟨gbz2, 0, none⟩ = some (.int .i64 tz0) ∧ w'.cell? ⟨gbz2, 1, none⟩ = some (.int .i64 tz1) ∧ w'.cell? ⟨gbz2, 2, none⟩ = some (.int .i64 tz2) ∧ w'.cell? ⟨gbz2, 3, none⟩ = some u73012003 ∧ w'.cell? ⟨gbz3, 0, none⟩ = some (.int .i64 a1_0) ∧ w'.cell? ⟨gbz3, 1, none⟩ = some (.int .i64 a1_1) ∧ w'.cell? ⟨gbz3, 2, none⟩ = some (.int .i64 a1_2) ∧ w'.cell? ⟨gbz3, 3, none⟩ = some (.slice A1_3 l1_3.length c1_3) ∧ w'.cell? (ad73012.add ((x9_2).toNat * 4)) = some (.int .i64 ((rd_T47 l2 x9_2).f0)) ∧ w'.cell? ⟨(ad73012.add ((x9_2).toNat * 4)).block, (ad73012.add ((x9_2).toNat * 4)).off + 1, none⟩ = some (.int .i64 ((rd_T47 l2 x9_2).f1)) ∧ w'.cell? ⟨(ad73012.add ((x9_2).toNat * 4)).block, (ad73012.add ((x9_2).toNat * 4)).off + 2, none⟩ = some (.int .i64 ((rd_T47 l2 x9_2).f2)) ∧ w'.cell? ⟨(ad73012.add ((x9_2).toNat * 4)).block, (ad73012.add ((x9_2).toNat * 4)).off + 3, none⟩ = some (.int .i64 ((rd_T47 l2 x9_2).f3)) ∧ w'.cell? (ad73012.add ((x9_2).toNat * 4)) = some (.int .i64 ((rd_T47 l2 x9_2).f0)) ∧ w'.cell? ⟨(ad73012.add ((x9_2).toNat * 4)).block, (ad73012.add ((x9_2).toNat * 4)).off + 1, none⟩ = some (.int .i64 ((rd_T47 l2 x9_2).f1)) ∧ w'.cell? ⟨(ad73012.add ((x9_2).toNat * 4)).block, (ad73012.add ((x9_2).toNat * 4)).off + 2, none⟩ = some (.int .i64 ((rd_T47 l2 x9_2).f2)) ∧ w'.cell? ⟨(ad73012.add ((x9_2).toNat * 4)).block, (ad73012.add ((x9_2).toNat * 4)).off + 3, none⟩ = some (.int .i64 ((rd_T47 l2 x9_2).f3)) ∧ w'.cell? (ad73012.add ((x9_2).toNat * 4)) = some (.int .i64 ((rd_T47 l2 x9_2).f0)) ∧ w'.cell? ⟨(ad73012.add ((x9_2).toNat * 4)).block, (ad73012.add ((x9_2).toNat * 4)).off + 1, none⟩ = some (.int .i64 ((rd_T47 l2 x9_2).f1)) ∧ w'.cell? ⟨(ad73012.add ((x9_2).toNat * 4)).block, (ad73012.add ((x9_2).toNat * 4)).off + 2, none⟩ = some (.int .i64 ((rd_T47 l2 x9_2).f2)) ∧ w'.cell? ⟨(ad73012.add ((x9_2).toNat * 4)).block, (ad73012.add ((x9_2).toNat * 4)).off + 3, none⟩ = some (.int .i64 ((rd_T47 l2 x9_2).f3)) ∧ w'.cell? (ad73012.add ((x9_2).toNat * 4)) = some (.int .i64 ((rd_T47 l2 x9_2).f0)) ∧ w'.cell? ⟨(ad73012.add ((x9_2).toNat * 4)).block, (ad73012.add ((x9_2).toNat * 4)).off + 1, none⟩ = some (.int .i64 ((rd_T47 l2 x9_2).f1)) ∧ w'.cell? ⟨(ad73012.add ((x9_2).toNat * 4)).block, (ad73012.add ((x9_2).toNat * 4)).off + 2, none⟩ = some (.int .i64 ((rd_T47 l2 x9_2).f2)) ∧ w'.cell? ⟨(ad73012.add ((x9_2).toNat * 4)).block, (ad73012.add ((x9_2).toNat * 4)).off + 3, none⟩ = some (.int .i64 ((rd_T47 l2 x9_2).f3)) ∧ w'.cell? (ad73012.add ((x9_2).toNat * 4)) = some (.int .i64 ((rd_T47 l2 x9_2).f0)) ∧ w'.cell? ⟨(ad73012.add ((x9_2).toNat * 4)).block, (ad73012.add ((x9_2).toNat * 4)).off + 1, none⟩ = some (.int .i64 ((rd_T47 l2 x9_2).f1)) ∧ w'.cell? ⟨(ad73012.add ((x9_2).toNat * 4)).block, (ad73012.add ((x9_2).toNat * 4)).off + 2, none⟩ = some (.int .i64 ((rd_T47 l2 x9_2).f2)) ∧ w'.cell? ⟨(ad73012.add ((x9_2).toNat * 4)).block, (ad73012.add ((x9_2).toNat * 4)).off + 3, none⟩ = some (.int .i64 ((rd_T47 l2 x9_2).f3)) ∧ w'.cell? (ad73012.add ((x9_2).toNat * 4)) = some (.int .i64 ((rd_T47 l2 x9_2).f0)) ∧ w'.cell? ⟨(ad73012.add ((x9_2).toNat * 4)).block, (ad73012.add ((x9_2).toNat * 4)).off + 1, none⟩ = some (.int .i64 ((rd_T47 l2 x9_2).f1)) ∧ w'.cell? ⟨(ad73012.add ((x9_2).toNat * 4)).block, (ad73012.add ((x9_2).toNat * 4)).off + 2, none⟩ = some (.int .i64 ((rd_T47 l2 x9_2).f2)) ∧ w'.cell? ⟨(ad73012.add ((x9_2).toNat * 4)).block, (ad73012.add ((x9_2).toNat * 4)).off + 3, none⟩ = some (.int .i64 ((rd_T47 l2 x9_2).f3))) (ds := []) #[false, false, false, false, false, false, false, false, false, false, false, false, false, false, false, false, false, false, false, false, false, false, false, false, false, false, false, false, false, false, false, false, false, false] (by kernel_rfl) rfl rfl ⟨(blk_cell BKz3.out 0).trans rfl, (blk_cell BKz3.out 1).trans rfl, (blk_cell BKz3.out 2).trans rfl, (blk_cell BKz3.out 3).trans rfl, (blk_cell BKz2.out 0).trans rfl, (blk_cell BKz2.out 1).trans rfl, (blk_cell BKz2.out 2).trans rfl, (blk_cell BKz2.out 3).trans rfl, ((HB.out.cell (World.block_lt_of_cell? w _ hw73014_0)).trans hw73014_0), ((HB.out.cell (World.block_lt_of_cell? w _ hw73014_1)).trans hw73014_1), ((HB.out.cell (World.block_lt_of_cell? w _ hw73014_2)).trans hw73014_2), ((HB.out.cell (World.block_lt_of_cell? w _ hw73014_3)).trans hw73014_3), ((HB.out.cell (World.block_lt_of_cell? w _ hw73015_0)).trans hw73015_0), ((HB.out.cell (World.block_lt_of_cell? w _ hw73015_1)).trans hw73015_1), ((HB.out.cell (World.block_lt_of_cell? w _ hw73015_2)).trans hw73015_2), ((HB.out.cell (World.block_lt_of_cell? w _ hw73015_3)).trans hw73015_3), ((HB.out.cell (World.block_lt_of_cell? w _ hw73016_0)).trans hw73016_0), ((HB.out.cell (World.block_lt_of_cell? w _ hw73016_1)).trans hw73016_1), ((HB.out.cell (World.block_lt_of_cell? w _ hw73016_2)).trans hw73016_2), ((HB.out.cell (World.block_lt_of_cell? w _ hw73016_3)).trans hw73016_3), ((HB.out.cell (World.block_lt_of_cell? w _ hw73017_0)).trans hw73017_0), ((HB.out.cell (World.block_lt_of_cell? w _ hw73017_1)).trans hw73017_1), ((HB.out.cell (World.block_lt_of_cell? w _ hw73017_2)).trans hw73017_2), ((HB.out.cell (World.block_lt_of_cell? w _ hw73017_3)).trans hw73017_3), ((HB.out.cell (World.block_lt_of_cell? w _ hw73018_0)).trans hw73018_0), ((HB.out.cell (World.block_lt_of_cell? w _ hw73018_1)).trans hw73018_1), ((HB.out.cell (World.block_lt_of_cell? w _ hw73018_2)).trans hw73018_2), ((HB.out.cell (World.block_lt_of_cell? w _ hw73018_3)).trans hw73018_3), ((HB.out.cell (World.block_lt_of_cell? w _ hw73019_0)).trans hw73019_0), ((HB.out.cell (World.block_lt_of_cell? w _ hw73019_1)).trans hw73019_1), ((HB.out.cell (World.block_lt_of_cell? w _ hw73019_2)).trans hw73019_2), ((HB.out.cell (World.block_lt_of_cell? w _ hw73019_3)).trans hw73019_3)⟩ (fun hHeld => ?_); refine with_tabW spec_PatchImage.tab9 spec_PatchImage.bits9 (fun HT_ HW_ => ?_)
        generalize w44.drew = w45 at HOz0 BKz0 BKz2 BKz1 BKz3 HB hx73014_0 hx73014_1 hx73014_2 hx73014_3 hx73015_0 hx73015_1 hx73015_2 hx73015_3 hx73016_0 hx73016_1 hx73016_2 hx73016_3 hx73017_0 hx73017_1 hx73017_2 hx73017_3 hx73018_0 hx73018_1 hx73018_2 hx73018_3 hx73019_0 hx73019_1 hx73019_2 hx73019_3 hHeld ⊢
        refine pure_ (i := 1) (N := some 37) (v := ?_) (a' := ?_) #[false, true, false, false, false, false, false, false, false, false, false, false, false, false, false, false, false, false, false, false, false, false, false, false, false, false, false, false, false, false, false, false, false, false] rfl rfl (any_of HT_.out (by kernel_rfl)) (fun _ _ _ h => h) (Or.inl ⟨by rfl, ?_⟩) ?_ ?_
        rotate_left
        ·intro w'
         go_simp
         with_reducible rfl
        rotate_left
        ·simp only [Act.put, List.setIfInBounds_toArray, List.set_cons_zero, List.set_cons_succ, i64_w, i32_w]
         rfl
        refine pure_ (i := 2) (N := some 38) (v := ?_) (a' := ?_) #[false, true, true, false, false, false, false, false, false, false, false, false, false, false, false, false, false, false, false, false, false, false, false, false, false, false, false, false, false, false, false, false, false, false] rfl rfl (any_of HT_.out (by kernel_rfl)) (fun _ _ _ h => h) (Or.inl ⟨by rfl, ?_⟩) ?_ ?_
        rotate_left
        ·intro w'
         go_simp
         with_reducible rfl
        rotate_left
        ·simp only [Act.put, List.setIfInBounds_toArray, List.set_cons_zero, List.set_cons_succ, i64_w, i32_w]
         rfl
        refine pure_ (i := 3) (N := some 39) (v := ?_) (a' := ?_) #[false, true, true, true, false, false, false, false, false, false, false, false, false, false, false, false, false, false, false, false, false, false, false, false, false, false, false, false, false, false, false, false, false, false] rfl rfl (any_of HT_.out (by kernel_rfl)) (fun _ _ _ h => h) (Or.inl ⟨by rfl, ?_⟩) ?_ ?_
        rotate_left
        ·intro w'
         go_simp
         with_reducible rfl
        rotate_left
        ·simp only [Act.put, List.setIfInBounds_toArray, List.set_cons_zero, List.set_cons_succ, i64_w, i32_w]
         rfl
        refine pure_ (i := 4) (N := some 40) (v := ?_) (a' := ?_) #[false, true, true, true, true, false, false, false, false, false, false, false, false, false, false, false, false, false, false, false, false, false, false, false, false, false, false, false, false, false, false, false, false, false] rfl rfl (any_of HT_.out (by kernel_rfl)) (fun _ _ _ h => h) (Or.inl ⟨by rfl, ?_⟩) ?_ ?_
        rotate_left
        ·intro w'
         go_simp
         with_reducible rfl
        rotate_left
        ·simp only [Act.put, List.setIfInBounds_toArray, List.set_cons_zero, List.set_cons_succ, i64_w, i32_w]
         rfl
        refine pure_ (i := 6) (N := some 42) (v := ?_) (a' := ?_) #[false, true, true, true, true, false, true, false, false, false, false, false, false, false, false, false, false, false, false, false, false, false, false, false, false, false, false, false, false, false, false, false, false, false] rfl rfl (any_of HT_.out (by kernel_rfl)) (fun _ _ _ h => h) (Or.inl ⟨by rfl, ?_⟩) ?_ ?_
        rotate_left
        ·intro w'
         go_simp
         with_reducible rfl
        rotate_left
        ·simp only [Act.put, List.setIfInBounds_toArray, List.set_cons_zero, List.set_cons_succ, i64_w, i32_w]
         rfl
        refine pure_ (i := 7) (N := some 43) (v := ?_) (a' := ?_) #[false, true, true, true, true, false, true, true, false, false, false, false, false, false, false, false, false, false, false, false, false, false, false, false, false, false, false, false, false, false, false, false, false, false] rfl rfl (any_of HT_.out (by kernel_rfl)) (fun _ _ _ h => h) (Or.inl ⟨by rfl, ?_⟩) ?_ ?_
        rotate_left
        ·intro w'
         go_simp
         with_reducible rfl
        rotate_left
        ·simp only [Act.put, List.setIfInBounds_toArray, List.set_cons_zero, List.set_cons_succ, i64_w, i32_w]
         rfl
        refine pure_ (i := 8) (N := some 44) (v := ?_) (a' := ?_) #[false, true, true, true, true, false, true, true, true, false, false, false, false, false, false, false, false, false, false, false, false, false, false, false, false, false, false, false, false, false, false, false, false, false] rfl rfl (any_of HT_.out (by kernel_rfl)) (fun _ _ _ h => h) (Or.inl ⟨by rfl, ?_⟩) ?_ ?_
        rotate_left
        ·intro w'
         go_simp
         with_reducible rfl
        rotate_left
        ·simp only [Act.put, List.setIfInBounds_toArray, List.set_cons_zero, List.set_cons_succ, i64_w, i32_w]
         rfl
        refine pure_ (i := 9) (N := some 45) (v := ?_) (a' := ?_) #[false, true, true, true, true, false, true, true, true, true, false, false, false, false, false, false, false, false, false, false, false, false, false, false, false, false, false, false, false, false, false, false, false, false] rfl rfl (any_of HT_.out (by kernel_rfl)) (fun _ _ _ h => h) (Or.inl ⟨by rfl, ?_⟩) ?_ ?_
        rotate_left
        ·intro w'
         go_simp
         with_reducible rfl
        rotate_left
        ·simp only [Act.put, List.setIfInBounds_toArray, List.set_cons_zero, List.set_cons_succ, i64_w, i32_w]
         rfl
        refine pure_ (i := 12) (N := some 48) (v := ?_) (a' := ?_) #[false, true, true, true, true, false, true, true, true, true, false, false, true, false, false, false, false, false, false, false, false, false, false, false, false, false, false, false, false, false, false, false, false, false] rfl rfl (any_of HT_.out (by kernel_rfl)) (fun _ _ _ h => h) (Or.inl ⟨by rfl, ?_⟩) ?_ ?_
        rotate_left
        ·intro w'
         go_simp
         with_reducible rfl
        rotate_left
        ·simp only [Act.put, List.setIfInBounds_toArray, List.set_cons_zero, List.set_cons_succ, i64_w, i32_w]
         rfl
        refine pure_ (i := 13) (N := some 49) (v := ?_) (a' := ?_) #[false, true, true, true, true, false, true, true, true, true, false, false, true, true, false, false, false, false, false, false, false, false, false, false, false, false, false, false, false, false, false, false, false, false] rfl rfl (any_of HT_.out (by kernel_rfl)) (fun _ _ _ h => h) (Or.inl ⟨by rfl, ?_⟩) ?_ ?_
        rotate_left
        ·intro w'
         go_simp
         with_reducible rfl
        rotate_left
        ·simp only [Act.put, List.setIfInBounds_toArray, List.set_cons_zero, List.set_cons_succ, i64_w, i32_w]
         rfl
        refine pure_ (i := 14) (N := some 50) (v := ?_) (a' := ?_) #[false, true, true, true, true, false, true, true, true, true, false, false, true, true, true, false, false, false, false, false, false, false, false, false, false, false, false, false, false, false, false, false, false, false] rfl rfl (any_of HT_.out (by kernel_rfl)) (fun _ _ _ h => h) (Or.inl ⟨by rfl, ?_⟩) ?_ ?_
        rotate_left
        ·intro w'
         go_simp
         with_reducible rfl
        rotate_left
        ·simp only [Act.put, List.setIfInBounds_toArray, List.set_cons_zero, List.set_cons_succ, i64_w, i32_w]
         rfl
        refine pure_ (i := 15) (N := some 51) (v := ?_) (a' := ?_) #[false, true, true, true, true, false, true, true, true, true, false, false, true, true, true, true, false, false, false, false, false, false, false, false, false, false, false, false, false, false, false, false, false, false] rfl rfl (any_of HT_.out (by kernel_rfl)) (fun _ _ _ h => h) (Or.inl ⟨by rfl, ?_⟩) ?_ ?_
        rotate_left
        ·intro w'
         go_simp
         with_reducible rfl
        rotate_left
        ·simp only [Act.put, List.setIfInBounds_toArray, List.set_cons_zero, List.set_cons_succ, i64_w, i32_w]
         rfl
        refine pure_ (i := 17) (N := some 53) (v := ?_) (a' := ?_) #[false, true, true, true, true, false, true, true, true, true, false, false, true, true, true, true, false, true, false, false, false, false, false, false, false, false, false, false, false, false, false, false, false, false] rfl rfl (any_of HT_.out (by kernel_rfl)) (fun _ _ _ h => h) (Or.inl ⟨by rfl, ?_⟩) ?_ ?_
        rotate_left
        ·intro w'
         go_simp
         with_reducible rfl
        rotate_left
        ·simp only [Act.put, List.setIfInBounds_toArray, List.set_cons_zero, List.set_cons_succ, i64_w, i32_w]
         rfl
        refine pure_ (i := 18) (N := some 54) (v := ?_) (a' := ?_) #[false, true, true, true, true, false, true, true, true, true, false, false, true, true, true, true, false, true, true, false, false, false, false, false, false, false, false, false, false, false, false, false, false, false] rfl rfl (any_of HT_.out (by kernel_rfl)) (fun _ _ _ h => h) (Or.inl ⟨by rfl, ?_⟩) ?_ ?_
        rotate_left
        ·intro w'
         go_simp
         with_reducible rfl
        rotate_left
        ·simp only [Act.put, List.setIfInBounds_toArray, List.set_cons_zero, List.set_cons_succ, i64_w, i32_w]
         rfl
        refine pure_ (i := 19) (N := some 55) (v := ?_) (a' := ?_) #[false, true, true, true, true, false, true, true, true, true, false, false, true, true, true, true, false, true, true, true, false, false, false, false, false, false, false, false, false, false, false, false, false, false] rfl rfl (any_of HT_.out (by kernel_rfl)) (fun _ _ _ h => h) (Or.inl ⟨by rfl, ?_⟩) ?_ ?_
        rotate_left
        ·intro w'
         go_simp
         with_reducible rfl
        rotate_left
        ·simp only [Act.put, List.setIfInBounds_toArray, List.set_cons_zero, List.set_cons_succ, i64_w, i32_w]
         rfl
        refine pure_ (i := 20) (N := some 56) (v := ?_) (a' := ?_) #[false, true, true, true, true, false, true, true, true, true, false, false, true, true, true, true, false, true, true, true, true, false, false, false, false, false, false, false, false, false, false, false, false, false] rfl rfl (any_of HT_.out (by kernel_rfl)) (fun _ _ _ h => h) (Or.inl ⟨by rfl, ?_⟩) ?_ ?_
        rotate_left
        ·intro w'
         go_simp
         with_reducible rfl
        rotate_left
        ·simp only [Act.put, List.setIfInBounds_toArray, List.set_cons_zero, List.set_cons_succ, i64_w, i32_w]
         rfl
        refine pure_ (i := 22) (N := some 58) (v := ?_) (a' := ?_) #[false, true, true, true, true, false, true, true, true, true, false, false, true, true, true, true, false, true, true, true, true, false, true, false, false, false, false, false, false, false, false, false, false, false] rfl rfl (any_of HT_.out (by kernel_rfl)) (fun _ _ _ h => h) (Or.inl ⟨by rfl, ?_⟩) ?_ ?_
        rotate_left
        ·intro w'
         go_simp
         with_reducible rfl
        rotate_left
        ·simp only [Act.put, List.setIfInBounds_toArray, List.set_cons_zero, List.set_cons_succ, i64_w, i32_w]
         rfl
        refine pure_ (i := 23) (N := some 59) (v := ?_) (a' := ?_) #[false, true, true, true, true, false, true, true, true, true, false, false, true, true, true, true, false, true, true, true, true, false, true, true, false, false, false, false, false, false, false, false, false, false] rfl rfl (any_of HT_.out (by kernel_rfl)) (fun _ _ _ h => h) (Or.inl ⟨by rfl, ?_⟩) ?_ ?_
        rotate_left
        ·intro w'
         go_simp
         with_reducible rfl
        rotate_left
        ·simp only [Act.put, List.setIfInBounds_toArray, List.set_cons_zero, List.set_cons_succ, i64_w, i32_w]
         rfl
        refine pure_ (i := 24) (N := some 60) (v := ?_) (a' := ?_) #[false, true, true, true, true, false, true, true, true, true, false, false, true, true, true, true, false, true, true, true, true, false, true, true, true, false, false, false, false, false, false, false, false, false] rfl rfl (any_of HT_.out (by kernel_rfl)) (fun _ _ _ h => h) (Or.inl ⟨by rfl, ?_⟩) ?_ ?_
        rotate_left
        ·intro w'
         go_simp
         with_reducible rfl
        rotate_left
        ·simp only [Act.put, List.setIfInBounds_toArray, List.set_cons_zero, List.set_cons_succ, i64_w, i32_w]
         rfl
        refine pure_ (i := 25) (N := some 61) (v := ?_) (a' := ?_) #[false, true, true, true, true, false, true, true, true, true, false, false, true, true, true, true, false, true, true, true, true, false, true, true, true, true, false, false, false, false, false, false, false, false] rfl rfl (any_of HT_.out (by kernel_rfl)) (fun _ _ _ h => h) (Or.inl ⟨by rfl, ?_⟩) ?_ ?_
        rotate_left
        ·intro w'
         go_simp
         with_reducible rfl
        rotate_left
        ·simp only [Act.put, List.setIfInBounds_toArray, List.set_cons_zero, List.set_cons_succ, i64_w, i32_w]
         rfl
        refine pure_ (i := 27) (N := some 63) (v := ?_) (a' := ?_) #[false, true, true, true, true, false, true, true, true, true, false, false, true, true, true, true, false, true, true, true, true, false, true, true, true, true, false, true, false, false, false, false, false, false] rfl rfl (any_of HT_.out (by kernel_rfl)) (fun _ _ _ h => h) (Or.inl ⟨by rfl, ?_⟩) ?_ ?_
        rotate_left
        ·intro w'
         go_simp
         with_reducible rfl
        rotate_left
        ·simp only [Act.put, List.setIfInBounds_toArray, List.set_cons_zero, List.set_cons_succ, i64_w, i32_w]
         rfl
        refine pure_ (i := 28) (N := some 64) (v := ?_) (a' := ?_) #[false, true, true, true, true, false, true, true, true, true, false, false, true, true, true, true, false, true, true, true, true, false, true, true, true, true, false, true, true, false, false, false, false, false] rfl rfl (any_of HT_.out (by kernel_rfl)) (fun _ _ _ h => h) (Or.inl ⟨by rfl, ?_⟩) ?_ ?_
        rotate_left
        ·intro w'
         go_simp
         with_reducible rfl
        rotate_left
        ·simp only [Act.put, List.setIfInBounds_toArray, List.set_cons_zero, List.set_cons_succ, i64_w, i32_w]
         rfl
        refine pure_ (i := 29) (N := some 65) (v := ?_) (a' := ?_) #[false, true, true, true, true, false, true, true, true, true, false, false, true, true, true, true, false, true, true, true, true, false, true, true, true, true, false, true, true, true, false, false, false, false] rfl rfl (any_of HT_.out (by kernel_rfl)) (fun _ _ _ h => h) (Or.inl ⟨by rfl, ?_⟩) ?_ ?_
        rotate_left
        ·intro w'
         go_simp
         with_reducible rfl
        rotate_left
        ·simp only [Act.put, List.setIfInBounds_toArray, List.set_cons_zero, List.set_cons_succ, i64_w, i32_w]
         rfl
        refine pure_ (i := 30) (N := some 66) (v := ?_) (a' := ?_) #[false, true, true, true, true, false, true, true, true, true, false, false, true, true, true, true, false, true, true, true, true, false, true, true, true, true, false, true, true, true, true, false, false, false] rfl rfl (any_of HT_.out (by kernel_rfl)) (fun _ _ _ h => h) (Or.inl ⟨by rfl, ?_⟩) ?_ ?_
        rotate_left
        ·intro w'
         go_simp
         with_reducible rfl
        rotate_left
        ·simp only [Act.put, List.setIfInBounds_toArray, List.set_cons_zero, List.set_cons_succ, i64_w, i32_w]
         rfl
        refine take_ (i := 0) (N := some 36) (v := ?_) (a' := ?_) #[true, true, true, true, true, false, true, true, true, true, false, false, true, true, true, true, false, true, true, true, true, false, true, true, true, true, false, true, true, true, true, false, false, false] rfl rfl (take_ofW HT_.out HW_.out (by kernel_rfl)) (fun _ _ _ h => h) (Or.inl ⟨by rfl, ?_⟩) hHeld ?_ ?_
        rotate_left
        ·rintro w' ⟨s0, s1, s2, s3, s4, s5, s6, s7, s8, s9, s10, s11, s12, s13, s14, s15, s16, s17, s18, s19, s20, s21, s22, s23, s24, s25, s26, s27, s28, s29, s30, s31⟩
         go_simp
         with_reducible rfl
        rotate_left
        ·simp only [Act.put, List.setIfInBounds_toArray, List.set_cons_zero, List.set_cons_succ, i64_w, i32_w]
         rfl
        refine take_ (i := 5) (N := some 41) (v := ?_) (a' := ?_) #[true, true, true, true, true, true, true, true, true, true, false, false, true, true, true, true, false, true, true, true, true, false, true, true, true, true, false, true, true, true, true, false, false, false] rfl rfl (take_ofW HT_.out HW_.out (by kernel_rfl)) (fun _ _ _ h => h) (Or.inl ⟨by rfl, ?_⟩) hHeld ?_ ?_
        rotate_left
        ·rintro w' ⟨s0, s1, s2, s3, s4, s5, s6, s7, s8, s9, s10, s11, s12, s13, s14, s15, s16, s17, s18, s19, s20, s21, s22, s23, s24, s25, s26, s27, s28, s29, s30, s31⟩
         go_simp
         with_reducible rfl
        rotate_left
        ·simp only [Act.put, List.setIfInBounds_toArray, List.set_cons_zero, List.set_cons_succ, i64_w, i32_w]
         rfl
        refine take_ (i := 10) (N := some 46) (v := ?_) (a' := ?_) #[true, true, true, true, true, true, true, true, true, true, true, false, true, true, true, true, false, true, true, true, true, false, true, true, true, true, false, true, true, true, true, false, false, false] rfl rfl (take_ofW HT_.out HW_.out (by kernel_rfl)) (fun _ _ _ h => h) (Or.inl ⟨by rfl, ?_⟩) hHeld ?_ ?_
        rotate_left
        ·rintro w' ⟨s0, s1, s2, s3, s4, s5, s6, s7, s8, s9, s10, s11, s12, s13, s14, s15, s16, s17, s18, s19, s20, s21, s22, s23, s24, s25, s26, s27, s28, s29, s30, s31⟩
         go_simp
         with_reducible rfl
        rotate_left
        ·simp only [Act.put, List.setIfInBounds_toArray, List.set_cons_zero, List.set_cons_succ, i64_w, i32_w]
         rfl
        refine take_ (i := 11) (N := some 47) (v := ?_) (a' := ?_) #[true, true, true, true, true, true, true, true, true, true, true, true, true, true, true, true, false, true, true, true, true, false, true, true, true, true, false, true, true, true, true, false, false, false] rfl rfl (take_ofW HT_.out HW_.out (by kernel_rfl)) (fun _ _ _ h => h) (Or.inl ⟨by rfl, ?_⟩) hHeld ?_ ?_
        rotate_left
        ·rintro w' ⟨s0, s1, s2, s3, s4, s5, s6, s7, s8, s9, s10, s11, s12, s13, s14, s15, s16, s17, s18, s19, s20, s21, s22, s23, s24, s25, s26, s27, s28, s29, s30, s31⟩
         go_simp
         with_reducible rfl
        rotate_left
        ·simp only [Act.put, List.setIfInBounds_toArray, List.set_cons_zero, List.set_cons_succ, i64_w, i32_w]
         rfl
        refine take_ (i := 16) (N := some 52) (v := ?_) (a' := ?_) #[true, true, true, true, true, true, true, true, true, true, true, true, true, true, true, true, true, true, true, true, true, false, true, true, true, true, false, true, true, true, true, false, false, false] rfl rfl (take_ofW HT_.out HW_.out (by kernel_rfl)) (fun _ _ _ h => h) (Or.inl ⟨by rfl, ?_⟩) hHeld ?_ ?_
        rotate_left
        ·rintro w' ⟨s0, s1, s2, s3, s4, s5, s6, s7, s8, s9, s10, s11, s12, s13, s14, s15, s16, s17, s18, s19, s20, s21, s22, s23, s24, s25, s26, s27, s28, s29, s30, s31⟩
         go_simp
         with_reducible rfl
        rotate_left
        ·simp only [Act.put, List.setIfInBounds_toArray, List.set_cons_zero, List.set_cons_succ, i64_w, i32_w]
         rfl
        refine take_ (i := 21) (N := some 57) (v := ?_) (a' := ?_) #[true, true, true, true, true, true, true, true, true, true, true, true, true, true, true, true, true, true, true, true, true, true, true, true, true, true, false, true, true, true, true, false, false, false] rfl rfl (take_ofW HT_.out HW_.out (by kernel_rfl)) (fun _ _ _ h => h) (Or.inl ⟨by rfl, ?_⟩) hHeld ?_ ?_
        rotate_left
        ·rintro w' ⟨s0, s1, s2, s3, s4, s5, s6, s7, s8, s9, s10, s11, s12, s13, s14, s15, s16, s17, s18, s19, s20, s21, s22, s23, s24, s25, s26, s27, s28, s29, s30, s31⟩
         go_simp
         with_reducible rfl
        rotate_left
        ·simp only [Act.put, List.setIfInBounds_toArray, List.set_cons_zero, List.set_cons_succ, i64_w, i32_w]
         rfl
        refine take_ (i := 26) (N := some 62) (v := ?_) (a' := ?_) #[true, true, true, true, true, true, true, true, true, true, true, true, true, true, true, true, true, true, true, true, true, true, true, true, true, true, true, true, true, true, true, false, false, false] rfl rfl (take_ofW HT_.out HW_.out (by kernel_rfl)) (fun _ _ _ h => h) (Or.inl ⟨by rfl, ?_⟩) hHeld ?_ ?_
        rotate_left
        ·rintro w' ⟨s0, s1, s2, s3, s4, s5, s6, s7, s8, s9, s10, s11, s12, s13, s14, s15, s16, s17, s18, s19, s20, s21, s22, s23, s24, s25, s26, s27, s28, s29, s30, s31⟩
         go_simp
         with_reducible rfl
        rotate_left
        ·simp only [Act.put, List.setIfInBounds_toArray, List.set_cons_zero, List.set_cons_succ, i64_w, i32_w]
         rfl
        refine take_ (i := 31) (N := some 67) (v := ?_) (a' := ?_) #[true, true, true, true, true, true, true, true, true, true, true, true, true, true, true, true, true, true, true, true, true, true, true, true, true, true, true, true, true, true, true, true, false, false] rfl rfl (take_ofW HT_.out HW_.out (by kernel_rfl)) (fun _ _ _ h => h) (Or.inl ⟨by rfl, ?_⟩) hHeld ?_ ?_
        rotate_left
        ·rintro w' ⟨s0, s1, s2, s3, s4, s5, s6, s7, s8, s9, s10, s11, s12, s13, s14, s15, s16, s17, s18, s19, s20, s21, s22, s23, s24, s25, s26, s27, s28, s29, s30, s31⟩
         go_simp
         with_reducible rfl
        rotate_left
        ·simp only [Act.put, List.setIfInBounds_toArray, List.set_cons_zero, List.set_cons_succ, i64_w, i32_w]
         rfl
        refine one_ (i := 32) (N := some 68) #[true, true, true, true, true, true, true, true, true, true, true, true, true, true, true, true, true, true, true, true, true, true, true, true, true, true, true, true, true, true, true, true, true, false] rfl rfl (one_of HT_.out (by kernel_rfl)) (by decide) (fun K hK => ?_)
        refine goes_ Try.func123 (by kernel_rfl) rfl #[.agg #[.int .i64 a1_0, .int .i64 a1_1, .int .i64 a1_2, .slice A1_3 l1_3.length c1_3], .int .i64 ((rd_T47 l2 x9_2).f0), .int .i64 ((rd_T47 l2 x9_2).f1), .int .i64 ((rd_T47 l2 x9_2).f2), .int .i64 ((rd_T47 l2 x9_2).f3)] (by rfl) rfl rfl (by (try simp only [List.map_toArray, List.map_cons, List.map_nil]); rfl) ?_
        with_reducible refine (spec_crop.calls k2 a1_0 a1_1 a1_2 _ _ l1_3 ((rd_T47 l2 x9_2).f0) ((rd_T47 l2 x9_2).f1) ((rd_T47 l2 x9_2).f2) ((rd_T47 l2 x9_2).f3) tz7 tz8 tz9 tz10 _ ?side1 ?side2 A41.out).mono ?_
        (case side1 => repeat (exact (Kd.C_below HR1_3.out HB.out)))
        (case side2 => exact HC1_3.out)
        rintro e w46 ⟨vz1, rfl, ho0, hb⟩
        refine ⟨_, rfl, ?_⟩
        have n0_ := mk (Kd.R_elder' HOz0.out (Kd.R_base ho0) hb)
        have n1_ := mk (Kd.R_lower (Kd.R_new' ho0 (Kd.R_lt HOz0.out)) (below_size HB.out))
        have n2_ := mk (blk_below BKz0.out hb)
        have n3_ := mk (blk_below BKz2.out hb)
        have n4_ := mk (blk_below BKz1.out hb)
        have n5_ := mk (blk_below BKz3.out hb)
        have n6_ := mk (below_step HB.out hb)
        clear HOz0 BKz0 BKz2 BKz1 BKz3 HB
        revert n0_ n1_ n2_ n3_ n4_ n5_ n6_; intro HOz0 HOz1 BKz0 BKz2 BKz1 BKz3 HB
        (try clear hb)
        (try clear ho0)
        obtain ⟨Ao47, co47, eo47⟩ := Kd.R_slice HOz0.out
        (subst eo47)
        obtain ⟨Ao48, co48, eo48⟩ := Kd.R_slice HOz1.out
        (subst eo48)
        refine hK.out _ _ ⟨(blk_cell BKz3.out 0).trans rfl, (blk_cell BKz3.out 1).trans rfl, (blk_cell BKz3.out 2).trans rfl, (blk_cell BKz3.out 3).trans rfl, (blk_cell BKz2.out 0).trans rfl, (blk_cell BKz2.out 1).trans rfl, (blk_cell BKz2.out 2).trans rfl, (blk_cell BKz2.out 3).trans rfl, ((HB.out.cell (World.block_lt_of_cell? w _ hw73014_0)).trans hw73014_0), ((HB.out.cell (World.block_lt_of_cell? w _ hw73014_1)).trans hw73014_1), ((HB.out.cell (World.block_lt_of_cell? w _ hw73014_2)).trans hw73014_2), ((HB.out.cell (World.block_lt_of_cell? w _ hw73014_3)).trans hw73014_3), ((HB.out.cell (World.block_lt_of_cell? w _ hw73015_0)).trans hw73015_0), ((HB.out.cell (World.block_lt_of_cell? w _ hw73015_1)).trans hw73015_1), ((HB.out.cell (World.block_lt_of_cell? w _ hw73015_2)).trans hw73015_2), ((HB.out.cell (World.block_lt_of_cell? w _ hw73015_3)).trans hw73015_3), ((HB.out.cell (World.block_lt_of_cell? w _ hw73016_0)).trans hw73016_0), ((HB.out.cell (World.block_lt_of_cell? w _ hw73016_1)).trans hw73016_1), ((HB.out.cell (World.block_lt_of_cell? w _ hw73016_2)).trans hw73016_2), ((HB.out.cell (World.block_lt_of_cell? w _ hw73016_3)).trans hw73016_3), ((HB.out.cell (World.block_lt_of_cell? w _ hw73017_0)).trans hw73017_0), ((HB.out.cell (World.block_lt_of_cell? w _ hw73017_1)).trans hw73017_1), ((HB.out.cell (World.block_lt_of_cell? w _ hw73017_2)).trans hw73017_2), ((HB.out.cell (World.block_lt_of_cell? w _ hw73017_3)).trans hw73017_3), ((HB.out.cell (World.block_lt_of_cell? w _ hw73018_0)).trans hw73018_0), ((HB.out.cell (World.block_lt_of_cell? w _ hw73018_1)).trans hw73018_1), ((HB.out.cell (World.block_lt_of_cell? w _ hw73018_2)).trans hw73018_2), ((HB.out.cell (World.block_lt_of_cell? w _ hw73018_3)).trans hw73018_3), ((HB.out.cell (World.block_lt_of_cell? w _ hw73019_0)).trans hw73019_0), ((HB.out.cell (World.block_lt_of_cell? w _ hw73019_1)).trans hw73019_1), ((HB.out.cell (World.block_lt_of_cell? w _ hw73019_2)).trans hw73019_2), ((HB.out.cell (World.block_lt_of_cell? w _ hw73019_3)).trans hw73019_3)⟩ (fun hHeld => ?_)
        clear hK K
        refine norm_ (a' := ?_) ?_ ?_
        rotate_left
        ·show Act.put _ (some 68) _ = _
         simp only [Act.put, List.setIfInBounds_toArray, List.set_cons_zero, List.set_cons_succ, i64_w, i32_w]
         rfl
        refine one_ (i := 33) (N := some 69) #[true, true, true, true, true, true, true, true, true, true, true, true, true, true, true, true, true, true, true, true, true, true, true, true, true, true, true, true, true, true, true, true, true, true] rfl rfl (one_of HT_.out (by kernel_rfl)) (by decide) (fun K hK => ?_)
        refine goes_ Try.func122 (by kernel_rfl) rfl #[.agg #[.int .i64 tz0, .int .i64 tz1, .int .i64 tz2, .slice Ao47 xz0.length co47], .int .i64 ((rd_T47 l2 x9_2).f0), .int .i64 ((rd_T47 l2 x9_2).f1), .agg #[.int .i64 tz7, .int .i64 tz8, .int .i64 tz9, .slice Ao48 tz10.length co48]] (by rfl) rfl rfl (by (try simp only [List.map_toArray, List.map_cons, List.map_nil]); rfl) ?_
        with_reducible refine (spec_paste.calls k2 tz0 tz1 tz2 (fun k_ => some k_ = (.slice Ao47 xz0.length co47 : Value).ownBlock) (.slice Ao47 xz0.length co47) xz0 ((rd_T47 l2 x9_2).f0) ((rd_T47 l2 x9_2).f1) tz7 tz8 tz9 _ _ tz10 tz3 w _ ?side1 ?side2 ?side3 ?side4 A42.out).mono ?_
        (case side1 => repeat (with_reducible exact HB.out))
        (case side2 => exact Kd.R_tight rfl HOz0.out)
        (case side3 => exact Kd.C_kept_own HOz1.out (fun k_ hk_ hs_ => hk_.2 hs_))
        (case side4 => exact (Kd.R_reads' HOz1.out).2.1)
        rintro e w49 ⟨rfl, hy0, hb, hkp⟩
        refine ⟨_, rfl, ?_⟩
        have n0_ := mk (Kd.R_reok rfl hy0 (fun k_ e_ => HOz0.out.1 k_ e_))
        have n1_ := mk (blk_kept BKz0.out hkp (fun hs_ => (fun e_ => (Kd.R_ne HOz0.out BKz0.out (by decide)) e_) hs_))
        have n2_ := mk (blk_kept BKz2.out hkp (fun hs_ => (fun e_ => (Kd.R_ne HOz0.out BKz2.out (by decide)) e_) hs_))
        have n3_ := mk (blk_kept BKz1.out hkp (fun hs_ => (fun e_ => (Kd.R_ne HOz0.out BKz1.out (by decide)) e_) hs_))
        have n4_ := mk (blk_kept BKz3.out hkp (fun hs_ => (fun e_ => (Kd.R_ne HOz0.out BKz3.out (by decide)) e_) hs_))
        have n5_ := mk (Kd.R_mono (ok' := fun k_ => some k_ ≠ (.slice Ao47 xz0.length co47 : Value).ownBlock) (Kd.R_keptB HOz1.out hkp (fun k_ hk_ hs_ => hk_.2 hs_)) (fun k_ hk_ => hk_.1.2))
        have n6_ := mk (hb)
        clear HOz0 BKz0 BKz2 BKz1 BKz3 HOz1 HB
        revert n0_ n1_ n2_ n3_ n4_ n5_ n6_; intro HOz0 BKz0 BKz2 BKz1 BKz3 HOz1 HB
        (try clear hb)
        (try clear hkp)
        (try clear hy0)
        refine hK.out _ _ ⟨(blk_cell BKz3.out 0).trans rfl, (blk_cell BKz3.out 1).trans rfl, (blk_cell BKz3.out 2).trans rfl, (blk_cell BKz3.out 3).trans rfl, (blk_cell BKz2.out 0).trans rfl, (blk_cell BKz2.out 1).trans rfl, (blk_cell BKz2.out 2).trans rfl, (blk_cell BKz2.out 3).trans rfl, ((HB.out.cell (World.block_lt_of_cell? w _ hw73014_0)).trans hw73014_0), ((HB.out.cell (World.block_lt_of_cell? w _ hw73014_1)).trans hw73014_1), ((HB.out.cell (World.block_lt_of_cell? w _ hw73014_2)).trans hw73014_2), ((HB.out.cell (World.block_lt_of_cell? w _ hw73014_3)).trans hw73014_3), ((HB.out.cell (World.block_lt_of_cell? w _ hw73015_0)).trans hw73015_0), ((HB.out.cell (World.block_lt_of_cell? w _ hw73015_1)).trans hw73015_1), ((HB.out.cell (World.block_lt_of_cell? w _ hw73015_2)).trans hw73015_2), ((HB.out.cell (World.block_lt_of_cell? w _ hw73015_3)).trans hw73015_3), ((HB.out.cell (World.block_lt_of_cell? w _ hw73016_0)).trans hw73016_0), ((HB.out.cell (World.block_lt_of_cell? w _ hw73016_1)).trans hw73016_1), ((HB.out.cell (World.block_lt_of_cell? w _ hw73016_2)).trans hw73016_2), ((HB.out.cell (World.block_lt_of_cell? w _ hw73016_3)).trans hw73016_3), ((HB.out.cell (World.block_lt_of_cell? w _ hw73017_0)).trans hw73017_0), ((HB.out.cell (World.block_lt_of_cell? w _ hw73017_1)).trans hw73017_1), ((HB.out.cell (World.block_lt_of_cell? w _ hw73017_2)).trans hw73017_2), ((HB.out.cell (World.block_lt_of_cell? w _ hw73017_3)).trans hw73017_3), ((HB.out.cell (World.block_lt_of_cell? w _ hw73018_0)).trans hw73018_0), ((HB.out.cell (World.block_lt_of_cell? w _ hw73018_1)).trans hw73018_1), ((HB.out.cell (World.block_lt_of_cell? w _ hw73018_2)).trans hw73018_2), ((HB.out.cell (World.block_lt_of_cell? w _ hw73018_3)).trans hw73018_3), ((HB.out.cell (World.block_lt_of_cell? w _ hw73019_0)).trans hw73019_0), ((HB.out.cell (World.block_lt_of_cell? w _ hw73019_1)).trans hw73019_1), ((HB.out.cell (World.block_lt_of_cell? w _ hw73019_2)).trans hw73019_2), ((HB.out.cell (World.block_lt_of_cell? w _ hw73019_3)).trans hw73019_3)⟩ (fun hHeld => ?_)
        clear hK K
        refine norm_ (a' := ?_) ?_ ?_
        rotate_left
        ·show Act.put _ (some 69) _ = _
         simp only [Act.put, List.setIfInBounds_toArray, List.set_cons_zero, List.set_cons_succ, i64_w, i32_w]
         rfl
        refine done_ (done_of HT_.out (by kernel_rfl)) ?_
        try go_wp2
        go_roundg k2
        case measure => have := HJ3.out; have := HK2.out; omega
        case rel => exact ⟨(wrap64 (x9_2 + 1)), (xz3), (xz2), (xz1), (tz3), (.slice Ao47 xz0.length co47), (by rfl), H', ⟨by have := HJ3.out; have := HK2.out; omega⟩, ⟨by (with_reducible repeat (first | apply Kd.R_alloc | apply Kd.R_drewN | apply Kd.R_drew)); exact Kd.R_mono HOz0.out (fun _ hk => trivial)⟩, ⟨by (with_reducible repeat (first | refine blk_drewN ?_ _ | refine blk_drew ?_ | refine blk_alloc ?_ _)); exact BKz0.out⟩, ⟨by (with_reducible repeat (first | refine blk_drewN ?_ _ | refine blk_drew ?_ | refine blk_alloc ?_ _)); exact BKz2.out⟩, ⟨by (with_reducible repeat (first | refine blk_drewN ?_ _ | refine blk_drew ?_ | refine blk_alloc ?_ _)); exact BKz1.out⟩, ⟨by (with_reducible repeat (first | refine blk_drewN ?_ _ | refine blk_drew ?_ | refine blk_alloc ?_ _)); exact BKz3.out⟩, ⟨by exact HB.out⟩⟩
       replace c40 := Bool.eq_false_iff.mpr c40
       subst c40
       have H1 : (some (0, 0, 0, ([] : List Int), false)) = some (r1, r2, r3, r4, r5) := by rw [if_neg (show ¬ (false = true) by decide)] at H; exact H
       clear H
       have H := H1
       clear H1
       simp only [Option.some.injEq, Prod.mk.injEq] at H
       obtain ⟨rfl, rfl, rfl, rfl, rfl⟩ := H
       try go_wp2
       have n0_ := mk (Kd.R_drew HOz0.out)
       have n1_ := mk (blk_drew BKz0.out)
       have n2_ := mk (blk_drew BKz2.out)
       have n3_ := mk (blk_drew BKz1.out)
       have n4_ := mk (blk_drew BKz3.out)
       have n5_ := mk (below_drew1 HB.out)
       clear HOz0 BKz0 BKz2 BKz1 BKz3 HB
       revert n0_ n1_ n2_ n3_ n4_ n5_; intro HOz0 BKz0 BKz2 BKz1 BKz3 HB
       have p73012 : 0 ≤ (x9_2 : Int) := of_decide_eq_true (by (with_reducible assumption))
       have q73012 : x9_2 < (l2.length : Int) := of_decide_eq_true (by (with_reducible assumption))
       obtain ⟨ad73012, e73012, hx73012_0, hx73012_1, hx73012_2, hx73012_3⟩ := at_T47 HR2.out x9_2 p73012 q73012
       have hw73012_3 := hx73012_3
       have hw73012_2 := hx73012_2
       have hw73012_1 := hx73012_1
       have hw73012_0 := hx73012_0
       cases e73012
       replace hx73012_0 := (HB.out.cell (World.block_lt_of_cell? w _ hx73012_0)).trans hx73012_0
       replace hx73012_1 := (HB.out.cell (World.block_lt_of_cell? w _ hx73012_1)).trans hx73012_1
       replace hx73012_2 := (HB.out.cell (World.block_lt_of_cell? w _ hx73012_2)).trans hx73012_2
       replace hx73012_3 := (HB.out.cell (World.block_lt_of_cell? w _ hx73012_3)).trans hx73012_3
       replace p73012 := eq_true p73012
       replace q73012 := eq_true q73012
       refine start_ (n := 7) (S := fun w' => w'.cell? ⟨gbz0, 0, none⟩ = some (.int .i64 a0_0) ∧ w'.cell? ⟨gbz0, 1, none⟩ = some (.int .i64 a0_1) ∧ w'.cell? ⟨gbz0, 2, none⟩ = some (.int .i64 a0_2) ∧ w'.cell? ⟨gbz0, 3, none⟩ = some (.slice A0_3 l0_3.length c0_3) ∧ w'.cell? (ad73012.add ((x9_2).toNat * 4)) = some (.int .i64 ((rd_T47 l2 x9_2).f0)) ∧ w'.cell? ⟨(ad73012.add ((x9_2).toNat * 4)).block, (ad73012.add ((x9_2).toNat * 4)).off + 1, none⟩ = some (.int .i64 ((rd_T47 l2 x9_2).f1)) ∧ w'.cell? ⟨(ad73012.add ((x9_2).toNat * 4)).block, (ad73012.add ((x9_2).toNat * 4)).off + 2, none⟩ = some (.int .i64 ((rd_T47 l2 x9_2).f2)) ∧ w'.cell? ⟨(ad73012.add ((x9_2).toNat * 4)).block, (ad73012.add ((x9_2).toNat * 4)).off + 3, none⟩ = some (.int .i64 ((rd_T47 l2 x9_2).f3))) (ds := []) #[false, false, false, false, false, false, false] (by kernel_rfl) rfl rfl ⟨(blk_cell BKz0.out 0).trans rfl, (blk_cell BKz0.out 1).trans rfl, (blk_cell BKz0.out 2).trans rfl, (blk_cell BKz0.out 3).trans rfl, ((HB.out.cell (World.block_lt_of_cell? w _ hw73012_0)).trans hw73012_0), ((HB.out.cell (World.block_lt_of_cell? w _ hw73012_1)).trans hw73012_1), ((HB.out.cell (World.block_lt_of_cell? w _ hw73012_2)).trans hw73012_2), ((HB.out.cell (World.block_lt_of_cell? w _ hw73012_3)).trans hw73012_3)⟩ (fun hHeld => ?_)
       generalize wr.drew = w50 at HOz0 BKz0 BKz2 BKz1 BKz3 HB hx73012_0 hx73012_1 hx73012_2 hx73012_3 hHeld ⊢
       refine pure_ (i := 1) (N := some 29) (v := ?_) (a' := ?_) #[false, true, false, false, false, false, false] rfl rfl (by kernel_rfl) (fun _ _ _ h => h) (Or.inl ⟨by rfl, ?_⟩) ?_ ?_
       rotate_left
       ·intro w'
        go_simp
        with_reducible rfl
       rotate_left
       ·simp only [Act.put, List.setIfInBounds_toArray, List.set_cons_zero, List.set_cons_succ, i64_w, i32_w]
        rfl
       refine pure_ (i := 2) (N := some 30) (v := ?_) (a' := ?_) #[false, true, true, false, false, false, false] rfl rfl (by kernel_rfl) (fun _ _ _ h => h) (Or.inl ⟨by rfl, ?_⟩) ?_ ?_
       rotate_left
       ·intro w'
        go_simp
        with_reducible rfl
       rotate_left
       ·simp only [Act.put, List.setIfInBounds_toArray, List.set_cons_zero, List.set_cons_succ, i64_w, i32_w]
        rfl
       refine pure_ (i := 3) (N := some 31) (v := ?_) (a' := ?_) #[false, true, true, true, false, false, false] rfl rfl (by kernel_rfl) (fun _ _ _ h => h) (Or.inl ⟨by rfl, ?_⟩) ?_ ?_
       rotate_left
       ·intro w'
        go_simp
        with_reducible rfl
       rotate_left
       ·simp only [Act.put, List.setIfInBounds_toArray, List.set_cons_zero, List.set_cons_succ, i64_w, i32_w]
        rfl
       refine take_ (i := 0) (N := some 28) (v := ?_) (a' := ?_) #[true, true, true, true, false, false, false] rfl rfl (by kernel_rfl) (fun _ _ _ h => h) (Or.inl ⟨by rfl, ?_⟩) hHeld ?_ ?_
       rotate_left
       ·rintro w' ⟨s0, s1, s2, s3, s4, s5, s6, s7⟩
        go_simp
        with_reducible rfl
       rotate_left
       ·simp only [Act.put, List.setIfInBounds_toArray, List.set_cons_zero, List.set_cons_succ, i64_w, i32_w]
        rfl
       refine take_ (i := 4) (N := some 32) (v := ?_) (a' := ?_) #[true, true, true, true, true, false, false] rfl rfl (by kernel_rfl) (fun _ _ _ h => h) (Or.inl ⟨by rfl, ?_⟩) hHeld ?_ ?_
       rotate_left
       ·rintro w' ⟨s0, s1, s2, s3, s4, s5, s6, s7⟩
        go_simp
        with_reducible rfl
       rotate_left
       ·simp only [Act.put, List.setIfInBounds_toArray, List.set_cons_zero, List.set_cons_succ, i64_w, i32_w]
        rfl
       refine one_ (i := 5) (N := some 33) #[true, true, true, true, true, true, false] rfl rfl (by kernel_rfl) (by decide) (fun K hK => ?_)
       refine goes_ Try.func121 (by kernel_rfl) rfl #[.agg #[.int .i64 a0_0, .int .i64 a0_1, .int .i64 a0_2, .slice A0_3 l0_3.length c0_3], .agg #[.int .i64 ((rd_T47 l2 x9_2).f0), .int .i64 ((rd_T47 l2 x9_2).f1), .int .i64 ((rd_T47 l2 x9_2).f2), .int .i64 ((rd_T47 l2 x9_2).f3)]] (by rfl) rfl rfl (by (try simp only [List.map_toArray, List.map_cons, List.map_nil]); rfl) ?_
       with_reducible refine (spec_validBox.calls a0_0 a0_1 a0_2 _ _ l0_3 ((rd_T47 l2 x9_2).f0) ((rd_T47 l2 x9_2).f1) ((rd_T47 l2 x9_2).f2) ((rd_T47 l2 x9_2).f3) false _ ?side1 ?side2 A39.out).mono ?_
       (case side1 => repeat (exact (Kd.C_below HR0_3.out HB.out)))
       (case side2 => exact HC0_3.out)
       rintro e w51 ⟨rfl, hb⟩
       refine ⟨_, rfl, ?_⟩
       have n0_ := mk (Kd.R_below HOz0.out hb)
       have n1_ := mk (blk_below BKz0.out hb)
       have n2_ := mk (blk_below BKz2.out hb)
       have n3_ := mk (blk_below BKz1.out hb)
       have n4_ := mk (blk_below BKz3.out hb)
       have n5_ := mk (below_step HB.out hb)
       clear HOz0 BKz0 BKz2 BKz1 BKz3 HB
       revert n0_ n1_ n2_ n3_ n4_ n5_; intro HOz0 BKz0 BKz2 BKz1 BKz3 HB
       (try clear hb)
       refine hK.out _ _ ⟨(blk_cell BKz0.out 0).trans rfl, (blk_cell BKz0.out 1).trans rfl, (blk_cell BKz0.out 2).trans rfl, (blk_cell BKz0.out 3).trans rfl, ((HB.out.cell (World.block_lt_of_cell? w _ hw73012_0)).trans hw73012_0), ((HB.out.cell (World.block_lt_of_cell? w _ hw73012_1)).trans hw73012_1), ((HB.out.cell (World.block_lt_of_cell? w _ hw73012_2)).trans hw73012_2), ((HB.out.cell (World.block_lt_of_cell? w _ hw73012_3)).trans hw73012_3)⟩ (fun hHeld => ?_)
       clear hK K
       refine norm_ (a' := ?_) ?_ ?_
       rotate_left
       ·show Act.put _ (some 33) _ = _
        simp only [Act.put, List.setIfInBounds_toArray, List.set_cons_zero, List.set_cons_succ, i64_w, i32_w]
        rfl
       refine pure_ (i := 6) (N := some 34) (v := ?_) (a' := ?_) #[true, true, true, true, true, true, true] rfl rfl (by kernel_rfl) (fun _ _ _ h => h) (Or.inl ⟨by rfl, ?_⟩) ?_ ?_
       rotate_left
       ·intro w'
        go_simp
        with_reducible rfl
       rotate_left
       ·simp only [Act.put, List.setIfInBounds_toArray, List.set_cons_zero, List.set_cons_succ, i64_w, i32_w]
        rfl
       refine done_ (by kernel_rfl) ?_
       have hcz55_0 : w51.cell? ⟨gbz1, 0, none⟩ = some (.int .i64 xz3) := (blk_cell BKz1.out 0).trans rfl
       have hcz55_1 : w51.cell? ⟨gbz1, 1, none⟩ = some (.int .i64 xz2) := (blk_cell BKz1.out 1).trans rfl
       have hcz55_2 : w51.cell? ⟨gbz1, 2, none⟩ = some (.int .i64 xz1) := (blk_cell BKz1.out 2).trans rfl
       have hcz55_3 : w51.cell? ⟨gbz1, 3, none⟩ = some (.slice none 0 0) := (blk_cell BKz1.out 3).trans rfl
       have hfz55_0 := blk_frozen BKz1.out 0
       have hfz55_1 := blk_frozen BKz1.out 1
       have hfz55_2 := blk_frozen BKz1.out 2
       have hfz55_3 := blk_frozen BKz1.out 3
       try go_wp2
       refine bodyPost_ret (results_ct rfl _ _ gbz1 27 #[.int .i64 0, .int .i64 0, .int .i64 0, .slice none 0 0] (0, 0) _ rfl (by refine blk_put (cs := #[.int .i64 0, .int .i64 0, .int .i64 0, .slice none 0 0]) ?_ 3 _ rfl; refine blk_put (cs := #[.int .i64 0, .int .i64 0, .int .i64 xz1, .slice none 0 0]) ?_ 2 _ rfl; refine blk_put (cs := #[.int .i64 0, .int .i64 xz2, .int .i64 xz1, .slice none 0 0]) ?_ 1 _ rfl; refine blk_put (cs := #[.int .i64 xz3, .int .i64 xz2, .int .i64 xz1, .slice none 0 0]) ?_ 0 _ rfl; (with_reducible repeat (first | refine blk_drewN ?_ _ | refine blk_drew ?_ | refine blk_alloc ?_ _)); exact BKz1.out) Try.underlying27 rfl (by kernel_rfl)) rfl ?_
       exact ⟨_, by rfl, by exact Kd.R_nil _ _ _ _ _, by repeat (with_reducible first | exact HB.out | refine below_set ?_ GEz0.out)⟩
      rw [if_neg c38] at H
      exact absurd H (by simp)
     rw [if_neg c37] at H
     have c37b0 : decide (x9_2 < (l2.length : Int)) = false := decide_eq_false c37
     clear c37
     simp only [Option.some.injEq, Prod.mk.injEq] at H
     obtain ⟨rfl, rfl, rfl, rfl, rfl⟩ := H
     have hcz59_0 : wr.cell? ⟨gbz2, 0, none⟩ = some (.int .i64 tz0) := (blk_cell BKz3.out 0).trans rfl
     have hcz59_1 : wr.cell? ⟨gbz2, 1, none⟩ = some (.int .i64 tz1) := (blk_cell BKz3.out 1).trans rfl
     have hcz59_2 : wr.cell? ⟨gbz2, 2, none⟩ = some (.int .i64 tz2) := (blk_cell BKz3.out 2).trans rfl
     have hcz59_3 : wr.cell? ⟨gbz2, 3, none⟩ = some u73012003 := (blk_cell BKz3.out 3).trans rfl
     have hcz62_0 : wr.cell? ⟨gbz1, 0, none⟩ = some (.int .i64 xz3) := (blk_cell BKz1.out 0).trans rfl
     have hcz62_1 : wr.cell? ⟨gbz1, 1, none⟩ = some (.int .i64 xz2) := (blk_cell BKz1.out 1).trans rfl
     have hcz62_2 : wr.cell? ⟨gbz1, 2, none⟩ = some (.int .i64 xz1) := (blk_cell BKz1.out 2).trans rfl
     have hcz62_3 : wr.cell? ⟨gbz1, 3, none⟩ = some (.slice none 0 0) := (blk_cell BKz1.out 3).trans rfl
     have hfz62_0 := blk_frozen BKz1.out 0
     have hfz62_1 := blk_frozen BKz1.out 1
     have hfz62_2 := blk_frozen BKz1.out 2
     have hfz62_3 := blk_frozen BKz1.out 3
     obtain ⟨Ao63, co63, eo63⟩ := Kd.R_slice HOz0.out
     subst eo63
     go_wp2
     refine bodyPost_ret (results_ct rfl _ _ gbz1 27 #[.int .i64 tz0, .int .i64 tz1, .int .i64 tz2, .slice Ao63 xz0.length co63] (0, 0) _ rfl (by refine blk_put (cs := #[.int .i64 tz0, .int .i64 tz1, .int .i64 tz2, .slice none 0 0]) ?_ 3 _ rfl; refine blk_put (cs := #[.int .i64 tz0, .int .i64 tz1, .int .i64 xz1, .slice none 0 0]) ?_ 2 _ rfl; refine blk_put (cs := #[.int .i64 tz0, .int .i64 xz2, .int .i64 xz1, .slice none 0 0]) ?_ 1 _ rfl; refine blk_put (cs := #[.int .i64 xz3, .int .i64 xz2, .int .i64 xz1, .slice none 0 0]) ?_ 0 _ rfl; (with_reducible repeat (first | refine blk_drewN ?_ _ | refine blk_drew ?_ | refine blk_alloc ?_ _)); exact BKz1.out) Try.underlying27 rfl (by kernel_rfl)) rfl ?_
     exact ⟨_, by rfl, by (with_reducible repeat (first | apply Kd.R_alloc | apply Kd.R_drewN | apply Kd.R_drew)); exact Kd.R_mono (Kd.R_far (p := ⟨gbz1, 3, none⟩) (Kd.R_far (p := ⟨gbz1, 2, none⟩) (Kd.R_far (p := ⟨gbz1, 1, none⟩) (Kd.R_far (p := ⟨gbz1, 0, none⟩) (Kd.R_types HOz0.out BKz1.out (by decide)) (fun _ hk => hk.2) (.int .i64 tz0)) (fun _ hk => hk.2) (.int .i64 tz1)) (fun _ hk => hk.2) (.int .i64 tz2)) (fun _ hk => hk.2) (.slice Ao63 xz0.length co63)) (fun _ hk => trivial), by repeat (with_reducible first | exact HB.out | refine below_set ?_ GEz0.out)⟩


def impl_isBoxOn.f (a0_0 : Int) (a0_1 : Int) (a0_2 : Int) (l0_3 : List Int) (a1_0 : Int) (a1_1 : Int) (a1_2 : Int) (a1_3 : Int) : Option Bool := if a1_0 ≥ 0 then (if a1_0 < a0_0 then (if a1_1 ≥ 0 then (if a1_1 < a0_1 then (if a1_2 ≥ 1 then (if a1_2 ≤ (wrap64 (a0_0 - a1_0)) then (if a1_3 ≥ 1 then (some (decide (a1_3 ≤ (wrap64 (a0_1 - a1_1))))) else (some false)) else (some false)) else (some false)) else (some false)) else (some false)) else (some false)) else (some false)
theorem impl_isBoxOn.calls (a0_0 : Int) (a0_1 : Int) (a0_2 : Int) (A0_3 : Option Addr) (c0_3 : Nat) (l0_3 : List Int) (a1_0 : Int) (a1_1 : Int) (a1_2 : Int) (a1_3 : Int) (r : Bool) (w : World) (hr0_3 : Kd.C (Kd.int .i64) w A0_3 l0_3.length l0_3) (hc0_3 : l0_3.length ≤ c0_3) (h : impl_isBoxOn.f a0_0 a0_1 a0_2 l0_3 a1_0 a1_1 a1_2 a1_3 = some r) :
  Calls Try.prog 106 #[.agg #[.int .i64 a0_0, .int .i64 a0_1, .int .i64 a0_2, .slice A0_3 l0_3.length c0_3], .agg #[.int .i64 a1_0, .int .i64 a1_1, .int .i64 a1_2, .int .i64 a1_3]] w fun e w' => e = .returned (.bool r) ∧ Below w.heap.size w w' := by
 have hu27 := Try.underlying27
 have hu47 := Try.underlying47
 have HR0_3 := mk hr0_3
 have HC0_3 := mk hc0_3
 clear hr0_3 hc0_3
 have HB := mk (Below.refl w.heap.size w)
 have H : (if a1_0 ≥ 0 then (if a1_0 < a0_0 then (if a1_1 ≥ 0 then (if a1_1 < a0_1 then (if a1_2 ≥ 1 then (if a1_2 ≤ (wrap64 (a0_0 - a1_0)) then (if a1_3 ≥ 1 then (some (decide (a1_3 ≤ (wrap64 (a0_1 - a1_1))))) else (some false)) else (some false)) else (some false)) else (some false)) else (some false)) else (some false)) else (some false)) = some r := h
 clear h
 by_cases c3 : a1_0 ≥ 0
 ·rw [if_pos c3] at H
  have c3b0 : decide (0 ≤ a1_0) = true := decide_eq_true c3
  clear c3
  by_cases c4 : a1_0 < a0_0
  ·rw [if_pos c4] at H
   have c4b0 : decide (a1_0 < a0_0) = true := decide_eq_true c4
   clear c4
   by_cases c5 : a1_1 ≥ 0
   ·rw [if_pos c5] at H
    have c5b0 : decide (0 ≤ a1_1) = true := decide_eq_true c5
    clear c5
    by_cases c6 : a1_1 < a0_1
    ·rw [if_pos c6] at H
     have c6b0 : decide (a1_1 < a0_1) = true := decide_eq_true c6
     clear c6
     by_cases c7 : a1_2 ≥ 1
     ·rw [if_pos c7] at H
      have c7b0 : decide (1 ≤ a1_2) = true := decide_eq_true c7
      clear c7
      by_cases c8 : a1_2 ≤ (wrap64 (a0_0 - a1_0))
      ·rw [if_pos c8] at H
       have c8b0 : decide (a1_2 ≤ (wrap64 (a0_0 - a1_0))) = true := decide_eq_true c8
       clear c8
       by_cases c9 : a1_3 ≥ 1
       ·rw [if_pos c9] at H
        have c9b0 : decide (1 ≤ a1_3) = true := decide_eq_true c9
        clear c9
        obtain rfl := Option.some.inj H
        go_enter Try.func106, Try.ntmps106
        go_wp2_with (first | ((with_reducible refine gate_dst (N := 2) rfl ?_); refine box_event (by rfl) (N := 2) (by rfl) (cs := #[.int .i64 a0_0, .int .i64 a0_1, .int .i64 a0_2, .slice A0_3 l0_3.length c0_3]) (t := 27) (by go_simp; done) ?_; intro gbz1 hg w10 hbox hb; have BKz0 := mk (hbox); have GWz0 := mk ((by rw [hg]; exact (below_size HB.out) : w.heap.size ≤ gbz1)); have GEz0 := mk ((by rw [hg]; exact (below_size HB.out) : w.heap.size ≤ gbz1)); replace HB := mk (below_step HB.out hb); clear hb hbox hg) | ((with_reducible refine gate_dst (N := 3) rfl ?_); refine box_event (by rfl) (N := 3) (by rfl) (cs := #[.int .i64 a1_0, .int .i64 a1_1, .int .i64 a1_2, .int .i64 a1_3]) (t := 47) (by go_simp; done) ?_; intro gbz0 hg w11 hbox hb; have BKz1 := mk (hbox); have GWz1 := mk ((by rw [hg]; exact (below_size HB.out) : w.heap.size ≤ gbz0)); have GEz1 := mk ((by rw [hg]; exact (below_size HB.out) : w.heap.size ≤ gbz0)); replace HB := mk (below_step HB.out hb); have NBz0 := mk ((by rw [hg]; exact Nat.ne_of_lt (blk_lt BKz0.out) : gbz1 ≠ gbz0)); have NBz1 := mk ((by rw [hg]; exact Nat.ne_of_gt (blk_lt BKz0.out) : gbz0 ≠ gbz1)); replace BKz0 := mk (blk_below BKz0.out hb); clear hb hbox hg; have hnb12 := NBz1.out; have hnc12 := NBz0.out; obtain ⟨hcz13_0, hcz13_1, hcz13_2, hcz13_3, hfz13_0, hfz13_1, hfz13_2, hfz13_3⟩ := c4 BKz1.out; obtain ⟨hcz14_0, hcz14_1, hcz14_2, hcz14_3, hfz14_0, hfz14_1, hfz14_2, hfz14_3⟩ := c4 BKz0.out))
        go_ret
        exact ⟨by rfl, by exact HB.out⟩
       rw [if_neg c9] at H
       have c9b0 : decide (1 ≤ a1_3) = false := decide_eq_false c9
       clear c9
       obtain rfl := Option.some.inj H
       go_enter Try.func106, Try.ntmps106
       go_wp2_with (first | ((with_reducible refine gate_dst (N := 2) rfl ?_); refine box_event (by rfl) (N := 2) (by rfl) (cs := #[.int .i64 a0_0, .int .i64 a0_1, .int .i64 a0_2, .slice A0_3 l0_3.length c0_3]) (t := 27) (by go_simp; done) ?_; intro gbz1 hg w15 hbox hb; have BKz0 := mk (hbox); have GWz0 := mk ((by rw [hg]; exact (below_size HB.out) : w.heap.size ≤ gbz1)); have GEz0 := mk ((by rw [hg]; exact (below_size HB.out) : w.heap.size ≤ gbz1)); replace HB := mk (below_step HB.out hb); clear hb hbox hg) | ((with_reducible refine gate_dst (N := 3) rfl ?_); refine box_event (by rfl) (N := 3) (by rfl) (cs := #[.int .i64 a1_0, .int .i64 a1_1, .int .i64 a1_2, .int .i64 a1_3]) (t := 47) (by go_simp; done) ?_; intro gbz0 hg w16 hbox hb; have BKz1 := mk (hbox); have GWz1 := mk ((by rw [hg]; exact (below_size HB.out) : w.heap.size ≤ gbz0)); have GEz1 := mk ((by rw [hg]; exact (below_size HB.out) : w.heap.size ≤ gbz0)); replace HB := mk (below_step HB.out hb); have NBz0 := mk ((by rw [hg]; exact Nat.ne_of_lt (blk_lt BKz0.out) : gbz1 ≠ gbz0)); have NBz1 := mk ((by rw [hg]; exact Nat.ne_of_gt (blk_lt BKz0.out) : gbz0 ≠ gbz1)); replace BKz0 := mk (blk_below BKz0.out hb); clear hb hbox hg; have hnb17 := NBz1.out; have hnc17 := NBz0.out; obtain ⟨hcz18_0, hcz18_1, hcz18_2, hcz18_3, hfz18_0, hfz18_1, hfz18_2, hfz18_3⟩ := c4 BKz1.out; obtain ⟨hcz19_0, hcz19_1, hcz19_2, hcz19_3, hfz19_0, hfz19_1, hfz19_2, hfz19_3⟩ := c4 BKz0.out))
       go_ret
       exact ⟨by rfl, by exact HB.out⟩
      rw [if_neg c8] at H
      have c8b0 : decide (a1_2 ≤ (wrap64 (a0_0 - a1_0))) = false := decide_eq_false c8
      clear c8
      obtain rfl := Option.some.inj H
      go_enter Try.func106, Try.ntmps106
      go_wp2_with (first | ((with_reducible refine gate_dst (N := 2) rfl ?_); refine box_event (by rfl) (N := 2) (by rfl) (cs := #[.int .i64 a0_0, .int .i64 a0_1, .int .i64 a0_2, .slice A0_3 l0_3.length c0_3]) (t := 27) (by go_simp; done) ?_; intro gbz1 hg w20 hbox hb; have BKz0 := mk (hbox); have GWz0 := mk ((by rw [hg]; exact (below_size HB.out) : w.heap.size ≤ gbz1)); have GEz0 := mk ((by rw [hg]; exact (below_size HB.out) : w.heap.size ≤ gbz1)); replace HB := mk (below_step HB.out hb); clear hb hbox hg) | ((with_reducible refine gate_dst (N := 3) rfl ?_); refine box_event (by rfl) (N := 3) (by rfl) (cs := #[.int .i64 a1_0, .int .i64 a1_1, .int .i64 a1_2, .int .i64 a1_3]) (t := 47) (by go_simp; done) ?_; intro gbz0 hg w21 hbox hb; have BKz1 := mk (hbox); have GWz1 := mk ((by rw [hg]; exact (below_size HB.out) : w.heap.size ≤ gbz0)); have GEz1 := mk ((by rw [hg]; exact (below_size HB.out) : w.heap.size ≤ gbz0)); replace HB := mk (below_step HB.out hb); have NBz0 := mk ((by rw [hg]; exact Nat.ne_of_lt (blk_lt BKz0.out) : gbz1 ≠ gbz0)); have NBz1 := mk ((by rw [hg]; exact Nat.ne_of_gt (blk_lt BKz0.out) : gbz0 ≠ gbz1)); replace BKz0 := mk (blk_below BKz0.out hb); clear hb hbox hg; have hnb22 := NBz1.out; have hnc22 := NBz0.out; obtain ⟨hcz23_0, hcz23_1, hcz23_2, hcz23_3, hfz23_0, hfz23_1, hfz23_2, hfz23_3⟩ := c4 BKz1.out; obtain ⟨hcz24_0, hcz24_1, hcz24_2, hcz24_3, hfz24_0, hfz24_1, hfz24_2, hfz24_3⟩ := c4 BKz0.out))
      go_ret
      exact ⟨by rfl, by exact HB.out⟩
     rw [if_neg c7] at H
     have c7b0 : decide (1 ≤ a1_2) = false := decide_eq_false c7
     clear c7
     obtain rfl := Option.some.inj H
     go_enter Try.func106, Try.ntmps106
     go_wp2_with (first | ((with_reducible refine gate_dst (N := 2) rfl ?_); refine box_event (by rfl) (N := 2) (by rfl) (cs := #[.int .i64 a0_0, .int .i64 a0_1, .int .i64 a0_2, .slice A0_3 l0_3.length c0_3]) (t := 27) (by go_simp; done) ?_; intro gbz1 hg w25 hbox hb; have BKz0 := mk (hbox); have GWz0 := mk ((by rw [hg]; exact (below_size HB.out) : w.heap.size ≤ gbz1)); have GEz0 := mk ((by rw [hg]; exact (below_size HB.out) : w.heap.size ≤ gbz1)); replace HB := mk (below_step HB.out hb); clear hb hbox hg) | ((with_reducible refine gate_dst (N := 3) rfl ?_); refine box_event (by rfl) (N := 3) (by rfl) (cs := #[.int .i64 a1_0, .int .i64 a1_1, .int .i64 a1_2, .int .i64 a1_3]) (t := 47) (by go_simp; done) ?_; intro gbz0 hg w26 hbox hb; have BKz1 := mk (hbox); have GWz1 := mk ((by rw [hg]; exact (below_size HB.out) : w.heap.size ≤ gbz0)); have GEz1 := mk ((by rw [hg]; exact (below_size HB.out) : w.heap.size ≤ gbz0)); replace HB := mk (below_step HB.out hb); have NBz0 := mk ((by rw [hg]; exact Nat.ne_of_lt (blk_lt BKz0.out) : gbz1 ≠ gbz0)); have NBz1 := mk ((by rw [hg]; exact Nat.ne_of_gt (blk_lt BKz0.out) : gbz0 ≠ gbz1)); replace BKz0 := mk (blk_below BKz0.out hb); clear hb hbox hg; have hnb27 := NBz1.out; have hnc27 := NBz0.out; obtain ⟨hcz28_0, hcz28_1, hcz28_2, hcz28_3, hfz28_0, hfz28_1, hfz28_2, hfz28_3⟩ := c4 BKz1.out; obtain ⟨hcz29_0, hcz29_1, hcz29_2, hcz29_3, hfz29_0, hfz29_1, hfz29_2, hfz29_3⟩ := c4 BKz0.out))
     go_ret
     exact ⟨by rfl, by exact HB.out⟩
    rw [if_neg c6] at H
    have c6b0 : decide (a1_1 < a0_1) = false := decide_eq_false c6
    clear c6
    obtain rfl := Option.some.inj H
    go_enter Try.func106, Try.ntmps106
    go_wp2_with (first | ((with_reducible refine gate_dst (N := 2) rfl ?_); refine box_event (by rfl) (N := 2) (by rfl) (cs := #[.int .i64 a0_0, .int .i64 a0_1, .int .i64 a0_2, .slice A0_3 l0_3.length c0_3]) (t := 27) (by go_simp; done) ?_; intro gbz1 hg w30 hbox hb; have BKz0 := mk (hbox); have GWz0 := mk ((by rw [hg]; exact (below_size HB.out) : w.heap.size ≤ gbz1)); have GEz0 := mk ((by rw [hg]; exact (below_size HB.out) : w.heap.size ≤ gbz1)); replace HB := mk (below_step HB.out hb); clear hb hbox hg) | ((with_reducible refine gate_dst (N := 3) rfl ?_); refine box_event (by rfl) (N := 3) (by rfl) (cs := #[.int .i64 a1_0, .int .i64 a1_1, .int .i64 a1_2, .int .i64 a1_3]) (t := 47) (by go_simp; done) ?_; intro gbz0 hg w31 hbox hb; have BKz1 := mk (hbox); have GWz1 := mk ((by rw [hg]; exact (below_size HB.out) : w.heap.size ≤ gbz0)); have GEz1 := mk ((by rw [hg]; exact (below_size HB.out) : w.heap.size ≤ gbz0)); replace HB := mk (below_step HB.out hb); have NBz0 := mk ((by rw [hg]; exact Nat.ne_of_lt (blk_lt BKz0.out) : gbz1 ≠ gbz0)); have NBz1 := mk ((by rw [hg]; exact Nat.ne_of_gt (blk_lt BKz0.out) : gbz0 ≠ gbz1)); replace BKz0 := mk (blk_below BKz0.out hb); clear hb hbox hg; have hnb32 := NBz1.out; have hnc32 := NBz0.out; obtain ⟨hcz33_0, hcz33_1, hcz33_2, hcz33_3, hfz33_0, hfz33_1, hfz33_2, hfz33_3⟩ := c4 BKz1.out; obtain ⟨hcz34_0, hcz34_1, hcz34_2, hcz34_3, hfz34_0, hfz34_1, hfz34_2, hfz34_3⟩ := c4 BKz0.out))
    go_ret
    exact ⟨by rfl, by exact HB.out⟩
   rw [if_neg c5] at H
   have c5b0 : decide (0 ≤ a1_1) = false := decide_eq_false c5
   clear c5
   obtain rfl := Option.some.inj H
   go_enter Try.func106, Try.ntmps106
   go_wp2_with (first | ((with_reducible refine gate_dst (N := 2) rfl ?_); refine box_event (by rfl) (N := 2) (by rfl) (cs := #[.int .i64 a0_0, .int .i64 a0_1, .int .i64 a0_2, .slice A0_3 l0_3.length c0_3]) (t := 27) (by go_simp; done) ?_; intro gbz1 hg w35 hbox hb; have BKz0 := mk (hbox); have GWz0 := mk ((by rw [hg]; exact (below_size HB.out) : w.heap.size ≤ gbz1)); have GEz0 := mk ((by rw [hg]; exact (below_size HB.out) : w.heap.size ≤ gbz1)); replace HB := mk (below_step HB.out hb); clear hb hbox hg) | ((with_reducible refine gate_dst (N := 3) rfl ?_); refine box_event (by rfl) (N := 3) (by rfl) (cs := #[.int .i64 a1_0, .int .i64 a1_1, .int .i64 a1_2, .int .i64 a1_3]) (t := 47) (by go_simp; done) ?_; intro gbz0 hg w36 hbox hb; have BKz1 := mk (hbox); have GWz1 := mk ((by rw [hg]; exact (below_size HB.out) : w.heap.size ≤ gbz0)); have GEz1 := mk ((by rw [hg]; exact (below_size HB.out) : w.heap.size ≤ gbz0)); replace HB := mk (below_step HB.out hb); have NBz0 := mk ((by rw [hg]; exact Nat.ne_of_lt (blk_lt BKz0.out) : gbz1 ≠ gbz0)); have NBz1 := mk ((by rw [hg]; exact Nat.ne_of_gt (blk_lt BKz0.out) : gbz0 ≠ gbz1)); replace BKz0 := mk (blk_below BKz0.out hb); clear hb hbox hg; have hnb37 := NBz1.out; have hnc37 := NBz0.out; obtain ⟨hcz38_0, hcz38_1, hcz38_2, hcz38_3, hfz38_0, hfz38_1, hfz38_2, hfz38_3⟩ := c4 BKz1.out; obtain ⟨hcz39_0, hcz39_1, hcz39_2, hcz39_3, hfz39_0, hfz39_1, hfz39_2, hfz39_3⟩ := c4 BKz0.out))
   go_ret
   exact ⟨by rfl, by exact HB.out⟩
  rw [if_neg c4] at H
  have c4b0 : decide (a1_0 < a0_0) = false := decide_eq_false c4
  clear c4
  obtain rfl := Option.some.inj H
  go_enter Try.func106, Try.ntmps106
  go_wp2_with (first | ((with_reducible refine gate_dst (N := 2) rfl ?_); refine box_event (by rfl) (N := 2) (by rfl) (cs := #[.int .i64 a0_0, .int .i64 a0_1, .int .i64 a0_2, .slice A0_3 l0_3.length c0_3]) (t := 27) (by go_simp; done) ?_; intro gbz1 hg w40 hbox hb; have BKz0 := mk (hbox); have GWz0 := mk ((by rw [hg]; exact (below_size HB.out) : w.heap.size ≤ gbz1)); have GEz0 := mk ((by rw [hg]; exact (below_size HB.out) : w.heap.size ≤ gbz1)); replace HB := mk (below_step HB.out hb); clear hb hbox hg) | ((with_reducible refine gate_dst (N := 3) rfl ?_); refine box_event (by rfl) (N := 3) (by rfl) (cs := #[.int .i64 a1_0, .int .i64 a1_1, .int .i64 a1_2, .int .i64 a1_3]) (t := 47) (by go_simp; done) ?_; intro gbz0 hg w41 hbox hb; have BKz1 := mk (hbox); have GWz1 := mk ((by rw [hg]; exact (below_size HB.out) : w.heap.size ≤ gbz0)); have GEz1 := mk ((by rw [hg]; exact (below_size HB.out) : w.heap.size ≤ gbz0)); replace HB := mk (below_step HB.out hb); have NBz0 := mk ((by rw [hg]; exact Nat.ne_of_lt (blk_lt BKz0.out) : gbz1 ≠ gbz0)); have NBz1 := mk ((by rw [hg]; exact Nat.ne_of_gt (blk_lt BKz0.out) : gbz0 ≠ gbz1)); replace BKz0 := mk (blk_below BKz0.out hb); clear hb hbox hg; have hnb42 := NBz1.out; have hnc42 := NBz0.out; obtain ⟨hcz43_0, hcz43_1, hcz43_2, hcz43_3, hfz43_0, hfz43_1, hfz43_2, hfz43_3⟩ := c4 BKz1.out; obtain ⟨hcz44_0, hcz44_1, hcz44_2, hcz44_3, hfz44_0, hfz44_1, hfz44_2, hfz44_3⟩ := c4 BKz0.out))
  go_ret
  exact ⟨by rfl, by exact HB.out⟩
 rw [if_neg c3] at H
 have c3b0 : decide (0 ≤ a1_0) = false := decide_eq_false c3
 clear c3
 obtain rfl := Option.some.inj H
 go_enter Try.func106, Try.ntmps106
 go_wp2_with (first | ((with_reducible refine gate_dst (N := 2) rfl ?_); refine box_event (by rfl) (N := 2) (by rfl) (cs := #[.int .i64 a0_0, .int .i64 a0_1, .int .i64 a0_2, .slice A0_3 l0_3.length c0_3]) (t := 27) (by go_simp; done) ?_; intro gbz1 hg w45 hbox hb; have BKz0 := mk (hbox); have GWz0 := mk ((by rw [hg]; exact (below_size HB.out) : w.heap.size ≤ gbz1)); have GEz0 := mk ((by rw [hg]; exact (below_size HB.out) : w.heap.size ≤ gbz1)); replace HB := mk (below_step HB.out hb); clear hb hbox hg) | ((with_reducible refine gate_dst (N := 3) rfl ?_); refine box_event (by rfl) (N := 3) (by rfl) (cs := #[.int .i64 a1_0, .int .i64 a1_1, .int .i64 a1_2, .int .i64 a1_3]) (t := 47) (by go_simp; done) ?_; intro gbz0 hg w46 hbox hb; have BKz1 := mk (hbox); have GWz1 := mk ((by rw [hg]; exact (below_size HB.out) : w.heap.size ≤ gbz0)); have GEz1 := mk ((by rw [hg]; exact (below_size HB.out) : w.heap.size ≤ gbz0)); replace HB := mk (below_step HB.out hb); have NBz0 := mk ((by rw [hg]; exact Nat.ne_of_lt (blk_lt BKz0.out) : gbz1 ≠ gbz0)); have NBz1 := mk ((by rw [hg]; exact Nat.ne_of_gt (blk_lt BKz0.out) : gbz0 ≠ gbz1)); replace BKz0 := mk (blk_below BKz0.out hb); clear hb hbox hg; have hnb47 := NBz1.out; have hnc47 := NBz0.out; obtain ⟨hcz48_0, hcz48_1, hcz48_2, hcz48_3, hfz48_0, hfz48_1, hfz48_2, hfz48_3⟩ := c4 BKz1.out))
 go_ret
 exact ⟨by rfl, by exact HB.out⟩


def impl_copyImage.f (a0_0 : Int) (a0_1 : Int) (a0_2 : Int) (l0_3 : List Int) : Option (Int × Int × Int × List Int) := (some (([] : List Int) : List Int)).bind fun yz0 => (if yz0.length + l0_3.length < 17592186044416 then (some (a0_0, a0_1, a0_2, (yz0 ++ l0_3))) else none)
theorem impl_copyImage.calls (a0_0 : Int) (a0_1 : Int) (a0_2 : Int) (A0_3 : Option Addr) (c0_3 : Nat) (l0_3 : List Int) (r1 : Int) (r2 : Int) (r3 : Int) (r4 : List Int) (w : World) (hr0_3 : Kd.C (Kd.int .i64) w A0_3 l0_3.length l0_3) (hc0_3 : l0_3.length ≤ c0_3) (h : impl_copyImage.f a0_0 a0_1 a0_2 l0_3 = some (r1, r2, r3, r4)) :
  Calls Try.prog 133 #[.agg #[.int .i64 a0_0, .int .i64 a0_1, .int .i64 a0_2, .slice A0_3 l0_3.length c0_3]] w fun e w' => ∃ v3_ : Value, e = .returned (.agg #[.int .i64 r1, .int .i64 r2, .int .i64 r3, v3_]) ∧ Kd.R (Kd.int .i64) 3 w' w.heap.size (fun _ => True) v3_ r4 ∧ Below w.heap.size w w' := by
 have hu27 := Try.underlying27
 have HR0_3 := mk hr0_3
 have HC0_3 := mk hc0_3
 clear hr0_3 hc0_3
 have HB := mk (Below.refl w.heap.size w)
 have H : ((some (([] : List Int) : List Int)).bind fun yz0 => (if yz0.length + l0_3.length < 17592186044416 then (some (a0_0, a0_1, a0_2, (yz0 ++ l0_3))) else none)) = some (r1, r2, r3, r4) := h
 clear h
 obtain ⟨yz0, hyz0⟩ : ∃ y_ : List Int, y_ = ([] : List Int) := ⟨_, rfl⟩
 replace H : (if yz0.length + l0_3.length < 17592186044416 then (some (a0_0, a0_1, a0_2, (yz0 ++ l0_3))) else none) = some (r1, r2, r3, r4) := by (have H2_ := (Option.bind_some _ _).symm.trans H; rw [hyz0]; with_reducible exact H2_)
 have Nyz0 := mk hyz0
 clear hyz0
 by_cases c2 : yz0.length + l0_3.length < 17592186044416
 ·rw [if_pos c2] at H
  have LMc2 := mk c2
  clear c2
  obtain ⟨yz1, hyz1⟩ : ∃ y_ : List Int, y_ = (yz0 ++ l0_3) := ⟨_, rfl⟩
  replace H : (some (a0_0, a0_1, a0_2, yz1)) = some (r1, r2, r3, r4) := by (rw [hyz1]; with_reducible exact H)
  have Nyz1 := mk hyz1
  clear hyz1
  simp only [Option.some.injEq, Prod.mk.injEq] at H
  obtain ⟨rfl, rfl, rfl, rfl⟩ := H
  go_enter Try.func133, Try.ntmps133
  go_wp2_with (first | ((with_reducible refine gate_dst (N := 1) rfl ?_); refine box_event (by rfl) (N := 1) (by rfl) (cs := #[.int .i64 a0_0, .int .i64 a0_1, .int .i64 a0_2, .slice A0_3 l0_3.length c0_3]) (t := 27) (by go_simp; done) ?_; intro gbz1 hg w3 hbox hb; have BKz0 := mk (hbox); have GEz0 := mk ((by rw [hg]; exact (below_size HB.out) : w.heap.size ≤ gbz1)); replace HB := mk (below_step HB.out hb); clear hb hbox hg) | ((with_reducible refine gate_dst (N := 2) rfl ?_); refine box_event (by rfl) (N := 2) (by rfl) (cs := #[.int .i64 0, .int .i64 0, .int .i64 0, .slice none 0 0]) (t := 27) (by go_simp; done) ?_; intro gbz0 hg w4 hbox hb; have BKz1 := mk (hbox); have GEz1 := mk ((by rw [hg]; exact (below_size HB.out) : w.heap.size ≤ gbz0)); replace HB := mk (below_step HB.out hb); have NBz0 := mk ((by rw [hg]; exact Nat.ne_of_gt (blk_lt BKz0.out) : gbz0 ≠ gbz1)); replace BKz0 := mk (blk_below BKz0.out hb); clear hb hbox hg) | ((with_reducible refine gate_dst (N := 3) rfl ?_); refine Kd.R_lit (Kd.int .i64) _ 3 ?hg (N := 3) ?hd (xs := ([] : List Int)) (inner := []) (ok := fun _ => True) (okp := fun _ => True) ?hr ?hp (fun _ hk => hk) trivial (Below.refl _ _) (Nat.le_refl _) (by simp) ?_; (case hd => rfl); (case hg => rfl); (case hr => (go_simp; done)); (case hp => exact (Reps.none _ _)); intro vz0 w5 ho6 hb hg_ hnew_; clear hg_ hnew_; (rw [← Nyz0.out] at ho6); have HOz0 := mk (Kd.R_lower ho6 (below_size HB.out)); replace BKz0 := mk (blk_below BKz0.out hb); replace BKz1 := mk (blk_below BKz1.out hb); replace HB := mk (below_step HB.out hb); clear hb ho6; have hnc7 := NBz0.out; have hcz8_3 : w5.cell? ⟨gbz1, 3, none⟩ = some (.slice A0_3 l0_3.length c0_3) := (blk_cell BKz0.out 3).trans rfl) | ((with_reducible refine gate_builtin (b := .append) (xs := #[.tmp 3, .tmp 5]) rfl ?_); at_builtin; refine Kd.R_append_rows (Kd.int .i64) (w0 := w) w.heap.size rfl (.tmp 3) (.tmp 5) 22 3 (.int .i64 0) 8 rfl Try.underlying22 info3 rfl (by decide) (by omega) vz0 yz0 l0_3 _ _ _ (fun _ => True) (fun _ => False) rfl rfl ?aO ?aR (fun _ _ h => h) (fun _ h => h.elim) ?aF ?aB ?aS ?aL ?_; (case aR => repeat (exact (Kd.C_below HR0_3.out HB.out))); (case aB => exact HB.out); (case aF => exact (fun _ _ => trivial)); (case aO => exact HOz0.out); (case aS => exact (below_size HB.out)); (case aL => have := LMc2.out; omega); intro vz1 w9 ho hb hg hat; rw [← Nyz1.out] at ho; have n0_ := mk (blk_grown (g := gbz1) (o := .cells #[.int .i64 a0_0, .int .i64 a0_1, .int .i64 a0_2, .slice A0_3 l0_3.length c0_3] 27 (0, 0)) BKz0.out hg (Kd.R_ne HOz0.out BKz0.out (by decide))); have n1_ := mk (blk_grown (g := gbz0) (o := .cells #[.int .i64 0, .int .i64 0, .int .i64 0, .slice none 0 0] 27 (0, 0)) BKz1.out hg (Kd.R_ne HOz0.out BKz1.out (by decide))); have n2_ := mk (hb); have n3_ := mk (ho); clear BKz0; clear BKz1; clear HB; clear HOz0; have BKz0 := n0_; have BKz1 := n1_; have HB := n2_; have HOz1 := n3_; clear ho hb hg hat; obtain ⟨Ao10, co10, eo10⟩ := Kd.R_slice HOz1.out; subst eo10; obtain ⟨hcz11_0, hcz11_1, hcz11_2, hcz11_3, -, -, -, hfz11_3⟩ := c4 BKz0.out; obtain ⟨hcz12_0, hcz12_1, hcz12_2, hcz12_3, hfz12_0, hfz12_1, hfz12_2, hfz12_3⟩ := c4 BKz1.out))
  refine bodyPost_ret (results_cell_row rfl _ _ gbz0 27 #[.int .i64 a0_0, .int .i64 a0_1, .int .i64 a0_2, .slice Ao10 yz1.length co10] (0, 0) _ rfl (by refine blk_put (cs := #[.int .i64 a0_0, .int .i64 a0_1, .int .i64 a0_2, .slice none 0 0]) ?_ 3 _ rfl; refine blk_put (cs := #[.int .i64 a0_0, .int .i64 a0_1, .int .i64 0, .slice none 0 0]) ?_ 2 _ rfl; refine blk_put (cs := #[.int .i64 a0_0, .int .i64 0, .int .i64 0, .slice none 0 0]) ?_ 1 _ rfl; refine blk_put (cs := #[.int .i64 0, .int .i64 0, .int .i64 0, .slice none 0 0]) ?_ 0 _ rfl; refine blk_far ?_ NBz0.out _; exact BKz1.out) Try.underlying27 rfl (by kernel_rfl)) rfl ?_
  exact ⟨_, by rfl, by exact Kd.R_mono (Kd.R_far (p := ⟨gbz0, 3, none⟩) (Kd.R_far (p := ⟨gbz0, 2, none⟩) (Kd.R_far (p := ⟨gbz0, 1, none⟩) (Kd.R_far (p := ⟨gbz0, 0, none⟩) (Kd.R_far (p := ⟨gbz1, 3, none⟩) (Kd.R_types (Kd.R_types HOz1.out BKz0.out (by decide)) BKz1.out (by decide)) (fun _ hk => hk.1.2) (.slice Ao10 yz1.length co10)) (fun _ hk => hk.2) (.int .i64 a0_0)) (fun _ hk => hk.2) (.int .i64 a0_1)) (fun _ hk => hk.2) (.int .i64 a0_2)) (fun _ hk => hk.2) (.slice Ao10 yz1.length co10)) (fun _ hk => trivial), by repeat (with_reducible first | exact HB.out | refine below_set ?_ GEz0.out | refine below_set ?_ GEz1.out)⟩
 rw [if_neg c2] at H
 exact absurd H (by simp)


/- A part of a row of one's own is overwritten by a copy; loads of images and numbers in a region that draws its order. -/

theorem yields_img {ops : Array Oper} {S : World → Prop} {op : Oper} {a : Act} (hw : Region.wanted op (yielded ops a.tmps) = true) (x : Operand) (ho : op.op = .load 27 x)
    (B : Nat) (hx : a.eval x = .pointer (some ⟨B, 0, none⟩)) (cs : Array Value) (hS : ∀ w, S w → w.heap[B]? = some (.cells cs 27 (0, 0))) (hn : cs.size = 4) : YieldsIf Try.prog ops S op (.agg cs) a :=
  .inl ⟨hw, fun w hw' => by
    unfold execOp
    simp only [ho, hx, Instr.loadAt, Instr.sureAddr, Sem.run_bind, Sem.run_pure, Result.andThen_ok, run_loadVar_row w B 27 27 cs (0, 0) _ (hS w hw') Try.underlying27 rfl (by rw [hn]; kernel_rfl)]⟩
/-- a row of numbers, a part of it overwritten -/
def laidOver (d : List Int) (j : Nat) (ys : List Int) : List Int := d.take j ++ (ys ++ d.drop (j + ys.length))
theorem laidOver_length (d : List Int) (j : Nat) (ys : List Int) (h : j + ys.length ≤ d.length) : (laidOver d j ys).length = d.length := by
  unfold laidOver
  rw [List.length_append, List.length_append, List.length_take, List.length_drop]
  omega
theorem take_three {α : Type} (A B C : List α) (L : Nat) (h : A.length + B.length ≤ L) : (A ++ (B ++ C)).take L = A ++ (B ++ C.take (L - (A.length + B.length))) := by
  rw [List.take_append, List.take_of_length_le (by omega), List.take_append, List.take_of_length_le (by omega), Nat.sub_sub]
theorem copyAt_wp {o : Oper} {a : Act} {W : World} {K : Act → World → Prop} {Q : Exit → Act → World → Prop} (s x : Operand) (t t' : TypeId)
    (ho : o.op = .call { callee := .builtin .copy, args := #[s, x], argTypes := #[t, t'] }) (ht : Try.prog.underlying t = some (.slice 3))
    (g cap off : Nat) (xs ys : List Int) (A : Option Addr) (m c n c1 base : Nat) (ok : Nat → Prop) (hs : a.eval s = .slice (some ⟨g, off, none⟩) m c1) (hx : a.eval x = .slice A m c) (hn : n = xs.length)
    (HO : Kd.R (Kd.int .i64) 3 W base ok (.slice (some ⟨g, 0, none⟩) n cap) xs) (HR : Kd.C (Kd.int .i64) W A m ys) (hfit : off + m ≤ n)
    (h : ∀ w1, Kd.R (Kd.int .i64) 3 w1 base ok (.slice (some ⟨g, 0, none⟩) n cap) (laidOver xs off ys) → base ≤ g → W.grownBy w1 (some g) → K (a.put o.dst (.int .i64 (m : Int))) w1) :
    Oper.wp Try.prog o a W K Q := by
  subst hn
  have hR := Kd.reads_of_C (enc := Value.int .i64) (d := (0 : Int)) HR
  have hm : ys.length = m := hR.1
  have hown := Kd.own_of_R HO
  have hinfo : (Try.prog.info? 3).map (·.size) = some 1 := by kernel_rfl
  have fin : ∀ w1, (Builtin.copy_ #[t, t'] o.type #[.slice (some ⟨g, off, none⟩) m c1, .slice A m c]).run Try.prog W = .ok (goInt (m : Int)) w1 → Kd.R (Kd.int .i64) 3 w1 base ok (.slice (some ⟨g, 0, none⟩) xs.length cap) (laidOver xs off ys) → base ≤ g → W.grownBy w1 (some g) → Oper.wp Try.prog o a W K Q := by
    intro w1 hr hrow hbg hg
    unfold Oper.wp execOp
    simp only [ho, resolve, invoke, builtin, Sem.run_bind, Sem.run_pure, Result.andThen_ok, List.map_toArray, List.map_cons, List.map_nil, hs, hx, hr]
    exact h w1 hrow hbg hg
  rcases hown.2 with ⟨e0, _⟩ | ⟨g', cap', cur, hv, hb, hh, hnc, hcm, hcs, htake⟩
  · cases e0
  · injection hv with hv1 hv2 hv3
    injection hv1 with hv1
    injection hv1 with hv1 _ _
    subst hv1
    subst hv3
    rcases Nat.eq_zero_or_pos m with h0 | hp
    · obtain rfl : ys = [] := List.eq_nil_of_length_eq_zero (by omega)
      refine fin W ?_ (by unfold laidOver; rw [List.length_nil, Nat.add_zero, List.nil_append, List.take_append_drop]; exact HO) hb (World.grownBy.refl W _)
      rw [h0]
      exact run_copy_none W t t' o.type 3 (some ⟨g, off, none⟩) A 0 c1 0 c ht hinfo rfl
    · obtain ⟨ad, hA, hc⟩ := hR.2.2 (by omega)
      have hcs1 : cur.size = cap := by omega
      have hkl : (encs (Value.int .i64) ys).length = m := by rw [encs_length, hm]
      have hsrc : ∀ j u, (encs (Value.int .i64) ys)[j]? = some u → W.cell? (ad.add j) = some u := by
        intro j u hu
        have hj : j < ys.length := by
          rcases Nat.lt_or_ge j ys.length with h | h
          · exact h
          · rw [List.getElem?_eq_none (by rw [encs_length]; exact h)] at hu
            cases hu
        rw [encs_get (d := (0 : Int)) _ j hj] at hu
        rw [hc j (by omega), ← hu]
      have hr := run_copy_cells (P := Try.prog) W t t' o.type 3 g off m c1 ad m c (encs (Value.int .i64) ys) ht hinfo (by rw [hkl]; simp) hsrc
        (fun j hj => by rw [cell_of_row W g _ cur 3 (0, 0) hh]; simp; omega) (fun j _ => blk_frozen hh _) (by intro u hu; simp only [encs, List.mem_map] at hu; obtain ⟨q, _, rfl⟩ := hu; rfl)
      obtain ⟨cur', h3, h4, h5⟩ := setCells_row (encs (Value.int .i64) ys) off W cur hh (by rw [hkl]; omega)
      obtain ⟨s1, s2, s3, s4⟩ := setCells_same g (encs (Value.int .i64) ys) off W
      refine fin _ (by rw [hA, hr, hkl]) (Kd.R_of_own ?_ HO.1) hb ⟨s1, s2, s3, by rw [s4]; exact Nat.le_refl _, fun k _ hk => setCells_far _ _ k (fun he => hk (by rw [he]))⟩
      have hln := laidOver_length xs off ys (by omega)
      rw [hln]
      refine ⟨by rw [encs_length, hln, Nat.mul_one], .inr ⟨g, cap, cur', rfl, hb, h3, hnc, hcm, by rw [h4, hcs], ?_⟩⟩
      have htk : cur.toList.take xs.length = encs (Value.int .i64) xs := by rw [← htake, Nat.mul_one]
      rw [h5, hkl, Nat.mul_one]
      unfold laidOver
      rw [encs_append, encs_append]
      have e1 : encs (Value.int .i64) (xs.take off) = (cur.toList.take off) := by
        have : encs (Value.int .i64) (xs.take off) = (encs (Value.int .i64) xs).take off := by simp [encs, List.map_take]
        rw [this, ← htk, List.take_take, Nat.min_eq_left (by omega)]
      have e2 : encs (Value.int .i64) (xs.drop (off + ys.length)) = (cur.toList.drop (off + m)).take (xs.length - (off + m)) := by
        have : encs (Value.int .i64) (xs.drop (off + ys.length)) = (encs (Value.int .i64) xs).drop (off + ys.length) := by simp [encs, List.map_drop]
        rw [this, ← htk, hm, List.drop_take]
      rw [e1, e2]
      have e3 : (cur.toList.take off).length = off := by rw [List.length_take, Array.length_toList, Nat.min_eq_left (by omega)]
      first | rw [List.append_assoc, take_three _ _ _ _ (by rw [e3, hkl]; omega), e3, hkl] | rw [take_three _ _ _ _ (by rw [e3, hkl]; omega), e3, hkl]
def rowD (px : Nat → Nat → List Int) (a y : Nat) : List Int := (List.range a).flatMap (fun x => px x y)
def imgD (px : Nat → Nat → List Int) (a b : Nat) : List Int := (List.range b).flatMap (fun y => rowD px a y)

def IsS144 (w0 W : World) (g : Nat) (f0 : List Int) (f1 : Int) : Prop := ∃ A0 c0, W.heap[g]? = some (.cells #[.slice A0 f0.length c0, .int .i64 f1] 144 (0, 0)) ∧ w0.heap.size ≤ g ∧ Kd.C (Kd.int .u8) w0 A0 f0.length f0
theorem IsS144.grown {w0 W : World} {g : Nat} {f0 : List Int} {f1 : Int} {W1 : World} {row : Option Nat} (h : IsS144 w0 W g f0 f1) (hw : W.grownBy W1 row) (hne : some g ≠ row) : IsS144 w0 W1 g f0 f1 := by
 obtain ⟨A0, c0, hb, hg, hr0⟩ := h
 exact ⟨A0, c0, blk_grown hb hw hne, hg, hr0⟩
theorem IsS144.own_neN {w0 W : World} {g : Nat} {f0 : List Int} {f1 : Int} {α : Type} {d : Kd α} {e : Nat} {base : Nat} {ok : Nat → Prop} {v : Value} {xs : List α} (h : IsS144 w0 W g f0 f1) (ho : Kd.N d e W base ok v xs) (ht : e ≠ 144) : some g ≠ v.ownBlock := by
 obtain ⟨A0, c0, hb, hg, hr0⟩ := h
 exact Kd.N_ne ho hb ht
theorem IsS144.fresh {w0 W : World} {g : Nat} {f0 : List Int} {f1 : Int} (h : IsS144 w0 W g f0 f1) : ∀ k, W.heap.size ≤ k → k ≠ g := by
 obtain ⟨A0, c0, hb, hg, hr0⟩ := h
 exact Kd.freshB hb
theorem IsS144.kept {w0 W : World} {g : Nat} {f0 : List Int} {f1 : Int} {W1 : World} {S : Nat → Prop} (h : IsS144 w0 W g f0 f1) (hk : Kept W W1 S) (hne : ¬ S g) : IsS144 w0 W1 g f0 f1 := by
 obtain ⟨A0, c0, hb, hg, hr0⟩ := h
 exact ⟨A0, c0, blk_kept hb hk hne, hg, hr0⟩
theorem IsS144.below {w0 W : World} {g : Nat} {f0 : List Int} {f1 : Int} {W1 : World} (h : IsS144 w0 W g f0 f1) (hw : Below W.heap.size W W1) : IsS144 w0 W1 g f0 f1 := h.grown (grown_of_below hw none) (by simp)
theorem IsS144.alloc {w0 W : World} {g : Nat} {f0 : List Int} {f1 : Int} (h : IsS144 w0 W g f0 f1) (o : Obj) : IsS144 w0 (W.alloc o) g f0 f1 := h.below (below_alloc (Below.refl _ _) o)
theorem IsS144.drewN {w0 W : World} {g : Nat} {f0 : List Int} {f1 : Int} (h : IsS144 w0 W g f0 f1) (m : Nat) : IsS144 w0 (W.drewN m) g f0 f1 := h
theorem IsS144.drew {w0 W : World} {g : Nat} {f0 : List Int} {f1 : Int} (h : IsS144 w0 W g f0 f1) : IsS144 w0 W.drew g f0 f1 := h
theorem IsS144.at_ {w0 W : World} {g : Nat} {f0 : List Int} {f1 : Int} {w' : World} {m : Nat} (hq : W.drewN m = w') (h : IsS144 w0 W g f0 f1) : IsS144 w0 w' g f0 f1 := by subst hq; exact IsS144.drewN h m
theorem IsS144.apart {w0 W : World} {g : Nat} {f0 : List Int} {f1 : Int} {α : Type} {d : Kd α} {e : Nat} {base : Nat} {ok : Nat → Prop} {v : Value} {xs : List α} (h : IsS144 w0 W g f0 f1) (ho : d.R e W base ok v xs) (ht : ∀ q, q ∈ e :: d.E → q ≠ 144) : d.R e W base (fun k => ok k ∧ k ≠ g) v xs := by
 obtain ⟨A0, c0, hb, hg, hr0⟩ := h
 exact Kd.R_types ho hb ht
theorem IsS144.own_ne {w0 W : World} {g : Nat} {f0 : List Int} {f1 : Int} {α : Type} {d : Kd α} {e : Nat} {base : Nat} {ok : Nat → Prop} {v : Value} {xs : List α} (h : IsS144 w0 W g f0 f1) (ho : d.R e W base ok v xs) (ht : e ≠ 144) : some g ≠ v.ownBlock := by
 obtain ⟨A0, c0, hb, hg, hr0⟩ := h
 exact Kd.R_ne ho hb ht
theorem IsS144.apartQ {w0 W : World} {g : Nat} {f0 : List Int} {f1 : Int} {α : Type} {d : Kd α} {e : Nat} {base : Nat} {ok : Nat → Prop} {v : Value} {xs : List α} (h : IsS144 w0 W g f0 f1) (ho : d.Q e W base ok v xs) (ht : ∀ q, q ∈ e :: d.E → q ≠ 144) : d.Q e W base (fun k => ok k ∧ k ≠ g) v xs := by
 obtain ⟨A0, c0, hb, hg, hr0⟩ := h
 exact Kd.Q_types ho hb ht
theorem IsS144.own_neQ {w0 W : World} {g : Nat} {f0 : List Int} {f1 : Int} {α : Type} {d : Kd α} {e : Nat} {base : Nat} {ok : Nat → Prop} {v : Value} {xs : List α} (h : IsS144 w0 W g f0 f1) (ho : d.Q e W base ok v xs) (ht : e ≠ 144) : some g ≠ v.ownBlock := by
 obtain ⟨A0, c0, hb, hg, hr0⟩ := h
 exact Kd.Q_ne ho hb ht
theorem IsS144.apartS {w0 W : World} {g : Nat} {f0 : List Int} {f1 : Int} {α : Type} {d : Kd α} {e : Nat} {base : Nat} {ok : Nat → Prop} {v : Value} {xs : List α} (h : IsS144 w0 W g f0 f1) (ho : d.S e W base ok v xs) (ht : ∀ q, q ∈ e :: d.E → q ≠ 144) : d.S e W base (fun k => ok k ∧ k ≠ g) v xs := by
 obtain ⟨A0, c0, hb, hg, hr0⟩ := h
 exact Kd.S_types ho hb ht
theorem IsS144.own_neS {w0 W : World} {g : Nat} {f0 : List Int} {f1 : Int} {α : Type} {d : Kd α} {e : Nat} {base : Nat} {ok : Nat → Prop} {v : Value} {xs : List α} (h : IsS144 w0 W g f0 f1) (ho : d.S e W base ok v xs) (ht : e ≠ 144) : some g ≠ v.ownBlock := by
 obtain ⟨A0, c0, hb, hg, hr0⟩ := h
 exact Kd.S_ne ho hb ht
theorem IsS144.lt {w0 W : World} {g : Nat} {f0 : List Int} {f1 : Int} (h : IsS144 w0 W g f0 f1) : g < W.heap.size := by
 obtain ⟨A0, c0, hb, hg, hr0⟩ := h
 exact blk_lt hb
theorem IsS144.ge {w0 W : World} {g : Nat} {f0 : List Int} {f1 : Int} (h : IsS144 w0 W g f0 f1) : w0.heap.size ≤ g := by
 obtain ⟨A0, c0, hb, hg, hr0⟩ := h
 exact hg
theorem IsS144.ne_blk {w0 W : World} {g : Nat} {f0 : List Int} {f1 : Int} {a : Nat} {cs : Array Value} {t : TypeId} {fr : Nat × Nat} (h : IsS144 w0 W g f0 f1) (hb2 : W.heap[a]? = some (.cells cs t fr)) (ht : t ≠ 144) : g ≠ a := by
 obtain ⟨A0, c0, hb, hg, hr0⟩ := h
 rintro rfl
 rw [hb] at hb2
 injection hb2 with hb2
 injection hb2 with _ ht2
 exact ht ht2.symm
theorem IsS144.far {w0 W : World} {g : Nat} {f0 : List Int} {f1 : Int} {p : Addr} (h : IsS144 w0 W g f0 f1) (hne : g ≠ p.block) (u : Value) : IsS144 w0 (W.setCell p u) g f0 f1 := by
 obtain ⟨A0, c0, hb, hg, hr0⟩ := h
 exact ⟨A0, c0, blk_far hb hne u, hg, hr0⟩
theorem cellS144_0 {W : World} {g : Nat} {A0 : Option Addr} {c0 : Nat} {f0 : List Int} {f1 : Int} (h : W.heap[g]? = some (.cells #[.slice A0 f0.length c0, .int .i64 f1] 144 (0, 0))) : W.cell? ⟨g, 0, none⟩ = some (.slice A0 f0.length c0) := (blk_cell h 0).trans rfl
theorem cellS144_1 {W : World} {g : Nat} {A0 : Option Addr} {c0 : Nat} {f0 : List Int} {f1 : Int} (h : W.heap[g]? = some (.cells #[.slice A0 f0.length c0, .int .i64 f1] 144 (0, 0))) : W.cell? ⟨g, 1, none⟩ = some (.int .i64 f1) := (blk_cell h 1).trans rfl
theorem IsS144.set_1 {w0 W : World} {g : Nat} {f0 : List Int} {f1 : Int} (h : IsS144 w0 W g f0 f1) (x : Int) : IsS144 w0 (W.setCell ⟨g, 1, none⟩ (.int .i64 x)) g f0 x := by
 obtain ⟨A0, c0, hb, hg, hr0⟩ := h
 exact ⟨A0, c0, by simpa using blk_set hb 1 (.int .i64 x), hg, hr0⟩
theorem IsS144.new (w0 W : World) (A0 : Option Addr) (c0 : Nat) (f0 : List Int) (f1 : Int) (hB : Below w0.heap.size w0 W) (hr0 : Kd.C (Kd.int .u8) w0 A0 f0.length f0) : IsS144 w0 (W.alloc (.cells #[.slice A0 f0.length c0, .int .i64 f1] 144)) W.heap.size f0 f1 := ⟨A0, c0, by simpa using heap_alloc_new W _, hB.size, hr0⟩

def spec_reader_pick.j0 : Nat → Int → Bool → List Int → Int → Option (Int × Int)
 | 0, _, _, _, _ => none
 | k + 1, x1, x24, x1000, x1001 => if x24 = true then (some (0, x1001)) else (if (wrap64 (x1001 - 1)) < (x1000.length : Int) then (if 0 ≤ (wrap64 (x1001 - 1)) then (if x1 = 0 then none else (some (Int.tmod (wrap64 (rd x1000 (wrap64 (x1001 - 1)))) x1, x1001))) else none) else (if (x1000.length : Int) = 0 then none else (if 0 ≤ (Int.tmod (wrap64 (x1001 - 1)) (x1000.length : Int)) then (if (Int.tmod (wrap64 (x1001 - 1)) (x1000.length : Int)) < (x1000.length : Int) then (if 0 ≤ (Int.tmod (wrap64 ((wrap64 ((wrap64 (x1001 - 1)) * 7)) + 3)) (x1000.length : Int)) then (if (Int.tmod (wrap64 ((wrap64 ((wrap64 (x1001 - 1)) * 7)) + 3)) (x1000.length : Int)) < (x1000.length : Int) then (if x1 = 0 then none else (some (Int.tmod (Go.bits .xor .i64 (wrap64 ((wrap64 ((wrap64 ((wrap64 ((wrap64 (rd x1000 (Int.tmod (wrap64 (x1001 - 1)) (x1000.length : Int)))) * 131)) + (wrap64 ((wrap64 (rd x1000 (Int.tmod (wrap64 ((wrap64 ((wrap64 (x1001 - 1)) * 7)) + 3)) (x1000.length : Int)))) * 1117)))) + (wrap64 ((wrap64 (x1001 - 1)) * 29)))) + (wrap64 ((wrap64 (Int.tdiv (wrap64 (x1001 - 1)) (x1000.length : Int))) * 53)))) (wrap64 (Int.tdiv (wrap64 ((wrap64 ((wrap64 ((wrap64 ((wrap64 (rd x1000 (Int.tmod (wrap64 (x1001 - 1)) (x1000.length : Int)))) * 131)) + (wrap64 ((wrap64 (rd x1000 (Int.tmod (wrap64 ((wrap64 ((wrap64 (x1001 - 1)) * 7)) + 3)) (x1000.length : Int)))) * 1117)))) + (wrap64 ((wrap64 (x1001 - 1)) * 29)))) + (wrap64 ((wrap64 (Int.tdiv (wrap64 (x1001 - 1)) (x1000.length : Int))) * 53)))) 64))) x1, x1001))) else none) else none) else none) else none)))
def spec_reader_pick.f (k : Nat) (s0_0 : List Int) (s0_1 : Int) (a1 : Int) : Option (Int × Int) := if a1 < 1 then (spec_reader_pick.j0 k a1 true s0_0 (wrap64 (s0_1 + 1))) else (spec_reader_pick.j0 k a1 ((s0_0.length : Int) == 0) s0_0 (wrap64 (s0_1 + 1)))
theorem spec_reader_pick.calls (k : Nat) (g : Nat) (s0_0 : List Int) (s0_1 : Int) (a1 : Int) (r1 : Int) (r2 : Int) (w0 w : World) (hI : IsS144 w0 w g s0_0 s0_1) (hB : Below w0.heap.size w0 w) (h : spec_reader_pick.f k s0_0 s0_1 a1 = some (r1, r2)) :
  Calls Try.prog 127 #[.pointer (some ⟨g, 0, none⟩), .int .i64 a1] w fun e w' => e = .returned (.int .i64 r1) ∧ IsS144 w0 w' g s0_0 r2 ∧ Below w0.heap.size w0 w' ∧ KeepBut w w' g none := by
 have HI0 := Aside0.mk hI
 have HK := Aside0.mk (KeepBut.refl w g none)
 have HL := Aside0.mk hB.size
 clear hI
 have HW0 := Aside0.mk hB.size
 have HB := Aside0.mk hB
 clear hB
 have H : (if a1 < 1 then (spec_reader_pick.j0 k a1 true s0_0 (wrap64 (s0_1 + 1))) else (spec_reader_pick.j0 k a1 ((s0_0.length : Int) == 0) s0_0 (wrap64 (s0_1 + 1)))) = some (r1, r2) := h
 clear h
 have HC3 := Aside0.mk H
 clear H
 obtain ⟨ASz4_0, cSz4_0, HGz4, hgz4, HSz4_0⟩ := HI0.out
 have hcz4_0 := cellS144_0 HGz4
 have hcz4_1 := cellS144_1 HGz4
 have hfz4_1 := blk_frozen HGz4 1
 clear HGz4 hgz4
 go_enter Try.func127, Try.ntmps127
 go_upto_region 2 with (fail)
 repeat (go_quiet (fail); go_upto_region 2 with fail)
 go_cut [24] (fun v24 wc => ∃ (kq : Nat) (x24_2 : Bool), v24 = .bool x24_2 ∧ Aside0 (spec_reader_pick.j0 kq a1 x24_2 s0_0 (wrap64 (s0_1 + 1)) = some (r1, r2)) ∧ Aside0 (kq ≤ k) ∧ Aside0 (IsS144 w0 wc g s0_0 (wrap64 (s0_1 + 1))) ∧ Aside0 (KeepBut w wc g none) ∧ Aside0 (Below w0.heap.size w0 wc))
 case first =>
  have H := HC3.out
  clear HC3
  by_cases c5 : a1 < 1
  ·rw [if_pos c5] at H
   have c5b0 : decide (a1 < 1) = true := decide_eq_true c5
   clear c5
   (skip)
   have H' := Aside0.mk H
   clear H
   go_wp2
   repeat (go_quiet (fail); try go_wp2)
   go_meet
   case rel => exact ⟨_, (true), (by rfl), H', ⟨by omega⟩, ⟨by repeat (with_reducible first | exact HI0.out | apply IsS144.set_1)⟩, ⟨by repeat (with_reducible first | exact HK.out | apply KeepBut.set_)⟩, ⟨by repeat ((with_reducible first | exact HB.out | refine below_set ?_ (IsS144.ge HI0.out)))⟩⟩
  rw [if_neg c5] at H
  have c5b0 : decide (a1 < 1) = false := decide_eq_false c5
  clear c5
  (skip)
  have H' := Aside0.mk H
  clear H
  obtain ⟨ASz6_0, cSz6_0, HGz6, hgz6, HSz6_0⟩ := HI0.out
  clear HGz6 hgz6
  go_wp2
  repeat (go_quiet (fail); try go_wp2)
  go_meet
  case rel => exact ⟨_, (((s0_0.length : Int) == 0)), (by rfl), H', ⟨by omega⟩, ⟨by repeat (with_reducible first | exact HI0.out | apply IsS144.set_1)⟩, ⟨by repeat (with_reducible first | exact HK.out | apply KeepBut.set_)⟩, ⟨by repeat ((with_reducible first | exact HB.out | refine below_set ?_ (IsS144.ge HI0.out)))⟩⟩
 case rest =>
  clear HC3
  obtain ⟨kq, x24_2, rfl, HA, HJ2, HI0, HK, HB⟩ := hcut
  cases kq with
  | zero => exact absurd HA.out (by simp [spec_reader_pick.j0])
  | succ kj2 =>
   have H := HA.out
   clear HA
   simp only [spec_reader_pick.j0] at H
   by_cases c7 : x24_2 = true
   ·subst c7
    have H1 : (some (0, (wrap64 (s0_1 + 1)))) = some (r1, r2) := by rw [if_pos rfl] at H; exact H
    clear H
    have H := H1
    clear H1
    simp only [Option.some.injEq, Prod.mk.injEq] at H
    obtain ⟨rfl, rfl⟩ := H
    go_wp2
    repeat (go_quiet (fail); try go_wp2)
    go_ret
    exact ⟨by rfl, by exact HI0.out, by exact HB.out, by exact HK.out⟩
   replace c7 := Bool.eq_false_iff.mpr c7
   subst c7
   have H1 : (if (wrap64 ((wrap64 (s0_1 + 1)) - 1)) < (s0_0.length : Int) then (if 0 ≤ (wrap64 ((wrap64 (s0_1 + 1)) - 1)) then (if a1 = 0 then none else (some (Int.tmod (wrap64 (rd s0_0 (wrap64 ((wrap64 (s0_1 + 1)) - 1)))) a1, (wrap64 (s0_1 + 1))))) else none) else (if (s0_0.length : Int) = 0 then none else (if 0 ≤ (Int.tmod (wrap64 ((wrap64 (s0_1 + 1)) - 1)) (s0_0.length : Int)) then (if (Int.tmod (wrap64 ((wrap64 (s0_1 + 1)) - 1)) (s0_0.length : Int)) < (s0_0.length : Int) then (if 0 ≤ (Int.tmod (wrap64 ((wrap64 ((wrap64 ((wrap64 (s0_1 + 1)) - 1)) * 7)) + 3)) (s0_0.length : Int)) then (if (Int.tmod (wrap64 ((wrap64 ((wrap64 ((wrap64 (s0_1 + 1)) - 1)) * 7)) + 3)) (s0_0.length : Int)) < (s0_0.length : Int) then (if a1 = 0 then none else (some (Int.tmod (Go.bits .xor .i64 (wrap64 ((wrap64 ((wrap64 ((wrap64 ((wrap64 (rd s0_0 (Int.tmod (wrap64 ((wrap64 (s0_1 + 1)) - 1)) (s0_0.length : Int)))) * 131)) + (wrap64 ((wrap64 (rd s0_0 (Int.tmod (wrap64 ((wrap64 ((wrap64 ((wrap64 (s0_1 + 1)) - 1)) * 7)) + 3)) (s0_0.length : Int)))) * 1117)))) + (wrap64 ((wrap64 ((wrap64 (s0_1 + 1)) - 1)) * 29)))) + (wrap64 ((wrap64 (Int.tdiv (wrap64 ((wrap64 (s0_1 + 1)) - 1)) (s0_0.length : Int))) * 53)))) (wrap64 (Int.tdiv (wrap64 ((wrap64 ((wrap64 ((wrap64 ((wrap64 (rd s0_0 (Int.tmod (wrap64 ((wrap64 (s0_1 + 1)) - 1)) (s0_0.length : Int)))) * 131)) + (wrap64 ((wrap64 (rd s0_0 (Int.tmod (wrap64 ((wrap64 ((wrap64 ((wrap64 (s0_1 + 1)) - 1)) * 7)) + 3)) (s0_0.length : Int)))) * 1117)))) + (wrap64 ((wrap64 ((wrap64 (s0_1 + 1)) - 1)) * 29)))) + (wrap64 ((wrap64 (Int.tdiv (wrap64 ((wrap64 (s0_1 + 1)) - 1)) (s0_0.length : Int))) * 53)))) 64))) a1, (wrap64 (s0_1 + 1))))) else none) else none) else none) else none))) = some (r1, r2) := by rw [if_neg (show ¬ (false = true) by decide)] at H; exact H
   clear H
   have H := H1
   clear H1
   by_cases c8 : (wrap64 ((wrap64 (s0_1 + 1)) - 1)) < (s0_0.length : Int)
   ·rw [if_pos c8] at H
    have c8b0 : decide ((wrap64 ((wrap64 (s0_1 + 1)) - 1)) < (s0_0.length : Int)) = true := decide_eq_true c8
    clear c8
    obtain ⟨ji9, hji9⟩ : ∃ j_ : Int, (wrap64 ((wrap64 (s0_1 + 1)) - 1)) = j_ := ⟨_, rfl⟩
    replace H : (if 0 ≤ ji9 then (if a1 = 0 then none else (some (Int.tmod (wrap64 (rd s0_0 ji9)) a1, (wrap64 (s0_1 + 1))))) else none) = some (r1, r2) := by (rw [hji9] at H; exact H)
    (try rw [hji9] at c8b0)
    have hji9w : (IntKind.i64.wrap ((wrap64 (s0_1 + 1)) - 1)) = ji9 := (i64_w _).trans hji9
    by_cases c10 : 0 ≤ (ji9)
    ·rw [if_pos c10] at H
     have c10b0 : decide (0 ≤ ji9) = true := decide_eq_true c10
     clear c10
     by_cases c11 : a1 = 0
     ·rw [if_pos c11] at H
      exact absurd H (by simp)
     rw [if_neg c11] at H
     have c11b0 : (a1 == 0) = false := beq_eq_false_iff_ne.mpr c11
     have c11b1 : (a1 != 0) = true := bne_iff_ne.mpr c11
     simp only [Option.some.injEq, Prod.mk.injEq] at H
     obtain ⟨rfl, rfl⟩ := H
     obtain ⟨ASz12_0, cSz12_0, HGz12, hgz12, HSz12_0⟩ := HI0.out
     have hcz12_0 := cellS144_0 HGz12
     have hcz12_1 := cellS144_1 HGz12
     clear HGz12 hgz12
     have p128001 : 0 ≤ (ji9 : Int) := of_decide_eq_true (by (with_reducible assumption))
     have q128001 : ji9 < (s0_0.length : Int) := of_decide_eq_true (by (with_reducible assumption))
     obtain ⟨ad128001, e128001, hx128001_0⟩ := Kd.at_int HSz12_0 ji9 p128001 q128001
     cases e128001
     replace hx128001_0 := pw_cell_below HB.out hx128001_0
     replace p128001 := eq_true p128001
     replace q128001 := eq_true q128001
     go_wp2
     repeat (go_quiet (fail); try go_wp2)
     go_ret
     exact ⟨by rfl, by exact HI0.out, by exact HB.out, by exact HK.out⟩
    rw [if_neg c10] at H
    exact absurd H (by simp)
   rw [if_neg c8] at H
   have c8b0 : decide ((wrap64 ((wrap64 (s0_1 + 1)) - 1)) < (s0_0.length : Int)) = false := decide_eq_false c8
   clear c8
   by_cases c13 : (s0_0.length : Int) = 0
   ·rw [if_pos c13] at H
    exact absurd H (by simp)
   rw [if_neg c13] at H
   have c13b0 : ((s0_0.length : Int) == 0) = false := beq_eq_false_iff_ne.mpr c13
   have c13b1 : ((s0_0.length : Int) != 0) = true := bne_iff_ne.mpr c13
   have c13b2 : ¬ (s0_0 = []) := fun h_ => c13 (by rw [h_]; rfl)
   obtain ⟨ji14, hji14⟩ : ∃ j_ : Int, (Int.tmod (wrap64 ((wrap64 (s0_1 + 1)) - 1)) (s0_0.length : Int)) = j_ := ⟨_, rfl⟩
   replace H : (if 0 ≤ ji14 then (if ji14 < (s0_0.length : Int) then (if 0 ≤ (Int.tmod (wrap64 ((wrap64 ((wrap64 ((wrap64 (s0_1 + 1)) - 1)) * 7)) + 3)) (s0_0.length : Int)) then (if (Int.tmod (wrap64 ((wrap64 ((wrap64 ((wrap64 (s0_1 + 1)) - 1)) * 7)) + 3)) (s0_0.length : Int)) < (s0_0.length : Int) then (if a1 = 0 then none else (some (Int.tmod (Go.bits .xor .i64 (wrap64 ((wrap64 ((wrap64 ((wrap64 ((wrap64 (rd s0_0 ji14)) * 131)) + (wrap64 ((wrap64 (rd s0_0 (Int.tmod (wrap64 ((wrap64 ((wrap64 ((wrap64 (s0_1 + 1)) - 1)) * 7)) + 3)) (s0_0.length : Int)))) * 1117)))) + (wrap64 ((wrap64 ((wrap64 (s0_1 + 1)) - 1)) * 29)))) + (wrap64 ((wrap64 (Int.tdiv (wrap64 ((wrap64 (s0_1 + 1)) - 1)) (s0_0.length : Int))) * 53)))) (wrap64 (Int.tdiv (wrap64 ((wrap64 ((wrap64 ((wrap64 ((wrap64 (rd s0_0 ji14)) * 131)) + (wrap64 ((wrap64 (rd s0_0 (Int.tmod (wrap64 ((wrap64 ((wrap64 ((wrap64 (s0_1 + 1)) - 1)) * 7)) + 3)) (s0_0.length : Int)))) * 1117)))) + (wrap64 ((wrap64 ((wrap64 (s0_1 + 1)) - 1)) * 29)))) + (wrap64 ((wrap64 (Int.tdiv (wrap64 ((wrap64 (s0_1 + 1)) - 1)) (s0_0.length : Int))) * 53)))) 64))) a1, (wrap64 (s0_1 + 1))))) else none) else none) else none) else none) = some (r1, r2) := by (rw [hji14] at H; exact H)
   by_cases c15 : 0 ≤ (ji14)
   ·rw [if_pos c15] at H
    have c15b0 : decide (0 ≤ ji14) = true := decide_eq_true c15
    clear c15
    by_cases c16 : ji14 < (s0_0.length : Int)
    ·rw [if_pos c16] at H
     have c16b0 : decide (ji14 < (s0_0.length : Int)) = true := decide_eq_true c16
     clear c16
     obtain ⟨ji17, hji17⟩ : ∃ j_ : Int, (Int.tmod (wrap64 ((wrap64 ((wrap64 ((wrap64 (s0_1 + 1)) - 1)) * 7)) + 3)) (s0_0.length : Int)) = j_ := ⟨_, rfl⟩
     replace H : (if 0 ≤ ji17 then (if ji17 < (s0_0.length : Int) then (if a1 = 0 then none else (some (Int.tmod (Go.bits .xor .i64 (wrap64 ((wrap64 ((wrap64 ((wrap64 ((wrap64 (rd s0_0 ji14)) * 131)) + (wrap64 ((wrap64 (rd s0_0 ji17)) * 1117)))) + (wrap64 ((wrap64 ((wrap64 (s0_1 + 1)) - 1)) * 29)))) + (wrap64 ((wrap64 (Int.tdiv (wrap64 ((wrap64 (s0_1 + 1)) - 1)) (s0_0.length : Int))) * 53)))) (wrap64 (Int.tdiv (wrap64 ((wrap64 ((wrap64 ((wrap64 ((wrap64 (rd s0_0 ji14)) * 131)) + (wrap64 ((wrap64 (rd s0_0 ji17)) * 1117)))) + (wrap64 ((wrap64 ((wrap64 (s0_1 + 1)) - 1)) * 29)))) + (wrap64 ((wrap64 (Int.tdiv (wrap64 ((wrap64 (s0_1 + 1)) - 1)) (s0_0.length : Int))) * 53)))) 64))) a1, (wrap64 (s0_1 + 1))))) else none) else none) = some (r1, r2) := by (rw [hji17] at H; exact H)
     by_cases c18 : 0 ≤ (ji17)
     ·rw [if_pos c18] at H
      have c18b0 : decide (0 ≤ ji17) = true := decide_eq_true c18
      clear c18
      by_cases c19 : ji17 < (s0_0.length : Int)
      ·rw [if_pos c19] at H
       have c19b0 : decide (ji17 < (s0_0.length : Int)) = true := decide_eq_true c19
       clear c19
       by_cases c20 : a1 = 0
       ·rw [if_pos c20] at H
        exact absurd H (by simp)
       rw [if_neg c20] at H
       have c20b0 : (a1 == 0) = false := beq_eq_false_iff_ne.mpr c20
       have c20b1 : (a1 != 0) = true := bne_iff_ne.mpr c20
       simp only [Option.some.injEq, Prod.mk.injEq] at H
       obtain ⟨rfl, rfl⟩ := H
       obtain ⟨ASz21_0, cSz21_0, HGz21, hgz21, HSz21_0⟩ := HI0.out
       have hcz21_0 := cellS144_0 HGz21
       have hcz21_1 := cellS144_1 HGz21
       clear HGz21 hgz21
       have p128002 : 0 ≤ (ji14 : Int) := of_decide_eq_true (by (with_reducible assumption))
       have q128002 : ji14 < (s0_0.length : Int) := of_decide_eq_true (by (with_reducible assumption))
       obtain ⟨ad128002, e128002, hx128002_0⟩ := Kd.at_int HSz21_0 ji14 p128002 q128002
       cases e128002
       replace hx128002_0 := pw_cell_below HB.out hx128002_0
       replace p128002 := eq_true p128002
       replace q128002 := eq_true q128002
       have p128003 : 0 ≤ (ji17 : Int) := of_decide_eq_true (by (with_reducible assumption))
       have q128003 : ji17 < (s0_0.length : Int) := of_decide_eq_true (by (with_reducible assumption))
       obtain ⟨ad128003, e128003, hx128003_0⟩ := Kd.at_int HSz21_0 ji17 p128003 q128003
       obtain rfl : ad128002 = ad128003 := (by injection e128003)
       replace hx128003_0 := pw_cell_below HB.out hx128003_0
       replace p128003 := eq_true p128003
       replace q128003 := eq_true q128003
       go_wp2
       repeat (go_quiet (fail); try go_wp2)
       go_ret
       exact ⟨by rfl, by repeat (with_reducible first | exact HI0.out | apply IsS144.drewN), by repeat (with_reducible first | exact HB.out | apply pw_below_drewN), by repeat (with_reducible first | exact HK.out | apply keep_drewN)⟩
      rw [if_neg c19] at H
      exact absurd H (by simp)
     rw [if_neg c18] at H
     exact absurd H (by simp)
    rw [if_neg c16] at H
    exact absurd H (by simp)
   rw [if_neg c15] at H
   exact absurd H (by simp)


def spec_reader_one.f (k : Nat) (s0_0 : List Int) (s0_1 : Int) (l1 : List Int) : Option (Int × Int) := (spec_reader_pick.f k s0_0 s0_1 (l1.length : Int)).bind fun bt148001 => (if 0 ≤ bt148001.1 then (if bt148001.1 < (l1.length : Int) then (some (rd l1 bt148001.1, bt148001.2)) else (none)) else (none))
theorem spec_reader_one.calls (k : Nat) (g : Nat) (s0_0 : List Int) (s0_1 : Int) (A1 : Option Addr) (c1 : Nat) (l1 : List Int) (r1 : Int) (r2 : Int) (w0 w : World) (hI : IsS144 w0 w g s0_0 s0_1) (hB : Below w0.heap.size w0 w) (hr1 : Kd.C (Kd.int .i64) w A1 l1.length l1) (hc1 : l1.length ≤ c1) (hf1 : ∀ ad, A1 = some ad → 0 < l1.length → ad.block ≠ g) (h : spec_reader_one.f k s0_0 s0_1 l1 = some (r1, r2)) :
  Calls Try.prog 147 #[.pointer (some ⟨g, 0, none⟩), .slice A1 l1.length c1] w fun e w' => e = .returned (.int .i64 r1) ∧ IsS144 w0 w' g s0_0 r2 ∧ Below w0.heap.size w0 w' ∧ KeepBut w w' g none := by
 have HR1 := Aside0.mk hr1
 have HC1 := Aside0.mk hc1
 clear hr1 hc1
 have HI0 := Aside0.mk hI
 have HK := Aside0.mk (KeepBut.refl w g none)
 have HL := Aside0.mk hB.size
 clear hI
 have HW0 := Aside0.mk hB.size
 have HB := Aside0.mk hB
 clear hB
 have H : ((spec_reader_pick.f k s0_0 s0_1 (l1.length : Int)).bind fun bt148001 => (if 0 ≤ bt148001.1 then (if bt148001.1 < (l1.length : Int) then (some (rd l1 bt148001.1, bt148001.2)) else (none)) else (none))) = some (r1, r2) := h
 clear h
 replace H := Option.bind_eq_some_iff.mp H
 obtain ⟨⟨t148001, t148002⟩, A30, H⟩ := H
 replace H : (if 0 ≤ t148001 then (if t148001 < (l1.length : Int) then (some (rd l1 t148001, t148002)) else (none)) else (none)) = some (r1, r2) := H
 have A3 := Aside0.mk A30
 clear A30
 by_cases c4 : 0 ≤ t148001
 ·rw [if_pos c4] at H
  have c4b0 : decide (0 ≤ t148001) = true := decide_eq_true c4
  clear c4
  by_cases c5 : t148001 < (l1.length : Int)
  ·rw [if_pos c5] at H
   have c5b0 : decide (t148001 < (l1.length : Int)) = true := decide_eq_true c5
   clear c5
   simp only [Option.some.injEq, Prod.mk.injEq] at H
   obtain ⟨rfl, rfl⟩ := H
   go_enter Try.func147, Try.ntmps147
   go_wp2_with (first | ((with_reducible refine gate_callee (f := 127) rfl ?_); refine goesL_ (some 9) rfl rfl Try.func127 (by kernel_rfl) rfl #[.pointer (some ⟨g, 0, none⟩), .int .i64 (l1.length : Int)] rfl (by (try simp only [List.map_toArray, List.map_cons, List.map_nil]); first | done | rfl | (simp only [List.length_drop, List.length_take]; rfl)) ?_; (with_reducible refine (spec_reader_pick.calls k g s0_0 s0_1 (l1.length : Int) t148001 t148002 w0 _ ?side1 ?side2 A3.out).mono ?_); (case side1 => repeat (first | (with_reducible first | exact HI0.out | apply IsS144.alloc | apply IsS144.drewN | apply IsS144.drew | apply IsS144.set_1) | exact HI0.out)); (case side2 => repeat (first | (with_reducible first | exact HB.out | apply below_alloc | apply pw_below_drewN | apply below_drew1 | refine below_set ?_ (IsS144.ge HI0.out)) | exact HB.out)); rintro e w6 ⟨rfl, hi, hb, hk⟩; refine ⟨_, rfl, ?_⟩; have n0_ := Aside0.mk (KeepBut.trans (by repeat (first | (with_reducible first | exact HK.out | apply KeepBut.set_ | apply keep_drewN | apply keep_drew | apply keep_alloc) | exact HK.out)) hk (.inl rfl)); have n1_ := Aside0.mk (hb); have n2_ := Aside0.mk (hi); clear HK; clear HB; clear HI0; have HK := n0_; have HB := n1_; have HI0 := n2_; clear n0_ n1_ n2_; (try clear hb); (try clear hb2); (try clear hk); (try clear hi); have p148003 : 0 ≤ (t148001 : Int) := of_decide_eq_true (by first | (with_reducible assumption) | assumption); have q148003 : t148001 < (l1.length : Int) := of_decide_eq_true (by first | (with_reducible assumption) | assumption); obtain ⟨ad148003, e148003, hx148003_0⟩ := Kd.at_int HR1.out t148001 p148003 q148003; cases e148003; replace hx148003_0 := keep_cell HK.out hx148003_0 (by first | (rw [add_block]; exact hf1 _ rfl (by omega)) | exact hf1 _ rfl (by omega) | exact hf1 ad148003 rfl (by omega)); replace p148003 := eq_true p148003; replace q148003 := eq_true q148003))
   go_ret
   exact ⟨by first | rfl | (simp [errW_none, errW_some] <;> rfl) | (simp [*, errW_none, errW_some] <;> rfl), by repeat (first | (with_reducible first | exact HI0.out | apply IsS144.alloc | apply IsS144.drewN | apply IsS144.drew | apply IsS144.set_1) | exact HI0.out), by repeat (first | (with_reducible first | exact HB.out | apply below_alloc | apply pw_below_drewN | apply below_drew1 | refine below_set ?_ (IsS144.ge HI0.out)) | exact HB.out), by repeat (first | (with_reducible first | exact HK.out | apply KeepBut.set_ | apply keep_drewN | apply keep_drew | apply keep_alloc) | exact HK.out)⟩
  ·rw [if_neg c5] at H
   exact absurd H (by simp)
 ·rw [if_neg c4] at H
  exact absurd H (by simp)


def spec_spoilImage.f (k : Nat) (s0_0 : List Int) (s0_1 : Int) (a1_0 : Int) (a1_1 : Int) (a1_2 : Int) (l1_3 : List Int) : Option (Int × Int × Int × List Int × Int) := (spec_reader_pick.f k s0_0 s0_1 40).bind fun btz0 => (if btz0.1 = 0 then ((spec_reader_one.f k s0_0 btz0.2 (([0, 17, wrap64 (a1_0 + 1)] : List Int))).bind fun btz1 => (some (btz1.1, a1_1, a1_2, l1_3, btz1.2))) else (if btz0.1 = 1 then (if 1 ≤ (l1_3.length : Int) then (some (a1_0, a1_1, a1_2, (l1_3.drop (1 : Int).toNat), btz0.2)) else none) else (if btz0.1 = 2 then ((spec_reader_one.f k s0_0 btz0.2 (([(-1), 256] : List Int))).bind fun btz2 => (if 0 < (l1_3.length : Int) then (some (a1_0, a1_1, a1_2, (l1_3.set (0 : Int).toNat btz2.1), btz2.2)) else none)) else (if btz0.1 = 3 then ((spec_reader_one.f k s0_0 btz0.2 ([0, 5] : List Int)).bind fun btz3 => (some (a1_0, a1_1, btz3.1, l1_3, btz3.2))) else (some (a1_0, a1_1, a1_2, l1_3, btz0.2))))))
theorem spec_spoilImage.calls (k : Nat) (g : Nat) (s0_0 : List Int) (s0_1 : Int) (a1_0 : Int) (a1_1 : Int) (a1_2 : Int) (P1_3_ : Nat → Prop) (u9000_ : Value) (l1_3 : List Int) (r1 : Int) (r2 : Int) (r3 : Int) (r4 : List Int) (r5 : Int) (w0 w : World) (hI : IsS144 w0 w g s0_0 s0_1) (hB : Below w0.heap.size w0 w) (ho1_3 : Kd.R (Kd.int .i64) 3 w w0.heap.size P1_3_ u9000_ l1_3) (h : spec_spoilImage.f k s0_0 s0_1 a1_0 a1_1 a1_2 l1_3 = some (r1, r2, r3, r4, r5)) :
  Calls Try.prog 136 #[.pointer (some ⟨g, 0, none⟩), .agg #[.int .i64 a1_0, .int .i64 a1_1, .int .i64 a1_2, u9000_]] w fun e w' => ∃ v3_ : Value, e = .returned (.agg #[.int .i64 r1, .int .i64 r2, .int .i64 r3, v3_]) ∧ Kd.Q (Kd.int .i64) 3 w' w0.heap.size (fun k_ => (P1_3_ k_ ∨ w.heap.size ≤ k_)) v3_ r4 ∧ IsS144 w0 w' g s0_0 r5 ∧ Below w0.heap.size w0 w' ∧ Kept w w' (fun k_ => (P1_3_ k_) ∨ k_ = g) := by
 have hu27 := Try.underlying27
 have HO1_3 := mk (show Kd.R (Kd.int .i64) 3 w w0.heap.size (fun k_ => (P1_3_ k_ ∨ w.heap.size ≤ k_)) u9000_ l1_3 from Kd.R_mono ho1_3 (fun k_ hk => (.inl hk)))
 have HI0 := mk hI
 have HL := mk hB.size
 clear hI
 have HK := mk (Kept.refl w (fun k_ => (P1_3_ k_) ∨ k_ = g))
 have HW0 := mk hB.size
 have HB := mk hB
 clear hB
 have H : ((spec_reader_pick.f k s0_0 s0_1 40).bind fun btz0 => (if btz0.1 = 0 then ((spec_reader_one.f k s0_0 btz0.2 (([0, 17, wrap64 (a1_0 + 1)] : List Int))).bind fun btz1 => (some (btz1.1, a1_1, a1_2, l1_3, btz1.2))) else (if btz0.1 = 1 then (if 1 ≤ (l1_3.length : Int) then (some (a1_0, a1_1, a1_2, (l1_3.drop (1 : Int).toNat), btz0.2)) else none) else (if btz0.1 = 2 then ((spec_reader_one.f k s0_0 btz0.2 (([(-1), 256] : List Int))).bind fun btz2 => (if 0 < (l1_3.length : Int) then (some (a1_0, a1_1, a1_2, (l1_3.set (0 : Int).toNat btz2.1), btz2.2)) else none)) else (if btz0.1 = 3 then ((spec_reader_one.f k s0_0 btz0.2 ([0, 5] : List Int)).bind fun btz3 => (some (a1_0, a1_1, btz3.1, l1_3, btz3.2))) else (some (a1_0, a1_1, a1_2, l1_3, btz0.2))))))) = some (r1, r2, r3, r4, r5) := h
 clear h
 replace H := Option.bind_eq_some_iff.mp H
 obtain ⟨⟨tz0, tz1⟩, A30, H⟩ := H
 replace H : (if tz0 = 0 then ((spec_reader_one.f k s0_0 tz1 (([0, 17, wrap64 (a1_0 + 1)] : List Int))).bind fun btz1 => (some (btz1.1, a1_1, a1_2, l1_3, btz1.2))) else (if tz0 = 1 then (if 1 ≤ (l1_3.length : Int) then (some (a1_0, a1_1, a1_2, (l1_3.drop (1 : Int).toNat), tz1)) else none) else (if tz0 = 2 then ((spec_reader_one.f k s0_0 tz1 (([(-1), 256] : List Int))).bind fun btz2 => (if 0 < (l1_3.length : Int) then (some (a1_0, a1_1, a1_2, (l1_3.set (0 : Int).toNat btz2.1), btz2.2)) else none)) else (if tz0 = 3 then ((spec_reader_one.f k s0_0 tz1 ([0, 5] : List Int)).bind fun btz3 => (some (a1_0, a1_1, btz3.1, l1_3, btz3.2))) else (some (a1_0, a1_1, a1_2, l1_3, tz1)))))) = some (r1, r2, r3, r4, r5) := H
 have A3 := mk A30
 clear A30
 by_cases c4 : tz0 = 0
 ·rw [if_pos c4] at H
  have c4b0 : (tz0 == 0) = true := beq_iff_eq.mpr c4
  have c4b1 : (tz0 != 0) = false := bne_eq_false_iff_eq.mpr c4
  clear c4
  obtain ⟨yz2, hyz0⟩ : ∃ y_ : List Int, y_ = (([0, 17, wrap64 (a1_0 + 1)] : List Int)) := ⟨_, rfl⟩
  replace H : ((spec_reader_one.f k s0_0 tz1 yz2).bind fun btz1 => (some (btz1.1, a1_1, a1_2, l1_3, btz1.2))) = some (r1, r2, r3, r4, r5) := by (rw [hyz0]; with_reducible exact H)
  have Nyz1 := mk hyz0
  clear hyz0
  replace H := Option.bind_eq_some_iff.mp H
  obtain ⟨⟨tz3, tz6⟩, A50, H⟩ := H
  replace H : (some (tz3, a1_1, a1_2, l1_3, tz6)) = some (r1, r2, r3, r4, r5) := H
  have A5 := mk A50
  clear A50
  simp only [Option.some.injEq, Prod.mk.injEq] at H
  obtain ⟨rfl, rfl, rfl, rfl, rfl⟩ := H
  obtain ⟨Ao6, co6, eo6⟩ := Kd.R_slice HO1_3.out
  subst eo6
  go_enter Try.func136, Try.ntmps136
  go_wp2_with (first | ((with_reducible refine gate_dst (N := 3) rfl ?_); refine box_event (by rfl) (N := 3) (by rfl) (cs := #[.int .i64 a1_0, .int .i64 a1_1, .int .i64 a1_2, .slice Ao6 l1_3.length co6]) (t := 27) (by go_simp; done) ?_; intro gbz1 hg w7 hbox hb; have n0_ := mk (Kd.R_below HO1_3.out hb); have n1_ := mk (IsS144.below HI0.out hb); have n2_ := mk (Kept.below (S := (fun k_ => (P1_3_ k_) ∨ k_ = g)) HK.out hb); have n3_ := mk (below_step HB.out hb); have n4_ := mk (hbox); have n5_ := mk (by rw [hg]; exact HK.out.1 : w.heap.size ≤ gbz1); have n6_ := mk ((by rw [hg]; exact (below_size HB.out) : w0.heap.size ≤ gbz1)); have n7_ := mk ((by rw [hg]; exact Nat.ne_of_lt (IsS144.lt (show IsS144 w0 _ g s0_0 s0_1 from by exact HI0.out)) : g ≠ gbz1)); have n8_ := mk ((by rw [hg]; exact Nat.ne_of_gt (IsS144.lt (show IsS144 w0 _ g s0_0 s0_1 from by exact HI0.out)) : gbz1 ≠ g)); clear HO1_3; clear HI0; clear HK; clear HB; have HO1_3 := n0_; have HI0 := n1_; have HK := n2_; have HB := n3_; have BKz0 := n4_; have GWz1 := n5_; have GEz1 := n6_; have NBz5 := n7_; have NBz1 := n8_; clear n0_ n1_ n2_ n3_ n4_ n5_ n6_ n7_ n8_; clear hb hbox hg) | ((with_reducible refine gate_dst (N := 4) rfl ?_); refine box_event (by rfl) (N := 4) (by rfl) (cs := #[.int .i64 0, .int .i64 0, .int .i64 0, .slice none 0 0]) (t := 27) (by go_simp; done) ?_; intro gbz0 hg w8 hbox hb; have n0_ := mk (Kd.R_below HO1_3.out hb); have n1_ := mk (IsS144.below HI0.out hb); have n2_ := mk (blk_below BKz0.out hb); have n3_ := mk (Kept.below (S := (fun k_ => (P1_3_ k_) ∨ k_ = g)) HK.out hb); have n4_ := mk (below_step HB.out hb); have n5_ := mk (hbox); have n6_ := mk (by rw [hg]; exact HK.out.1 : w.heap.size ≤ gbz0); have n7_ := mk ((by rw [hg]; exact (below_size HB.out) : w0.heap.size ≤ gbz0)); have n8_ := mk ((by rw [hg]; exact Nat.ne_of_lt (blk_lt BKz0.out) : gbz1 ≠ gbz0)); have n9_ := mk ((by rw [hg]; exact Nat.ne_of_gt (blk_lt BKz0.out) : gbz0 ≠ gbz1)); have n10_ := mk ((by rw [hg]; exact Nat.ne_of_lt (IsS144.lt (show IsS144 w0 _ g s0_0 s0_1 from by exact HI0.out)) : g ≠ gbz0)); have n11_ := mk ((by rw [hg]; exact Nat.ne_of_gt (IsS144.lt (show IsS144 w0 _ g s0_0 s0_1 from by exact HI0.out)) : gbz0 ≠ g)); clear HO1_3; clear HI0; clear BKz0; clear HK; clear HB; have HO1_3 := n0_; have HI0 := n1_; have BKz0 := n2_; have HK := n3_; have HB := n4_; have BKz1 := n5_; have GWz0 := n6_; have GEz0 := n7_; have NBz3 := n8_; have NBz0 := n9_; have NBz4 := n10_; have NBz2 := n11_; clear n0_ n1_ n2_ n3_ n4_ n5_ n6_ n7_ n8_ n9_ n10_ n11_; clear hb hbox hg) | ((with_reducible refine gate_callee (f := 127) rfl ?_); refine goesL_ (some 6) rfl rfl Try.func127 (by kernel_rfl) rfl #[.pointer (some ⟨g, 0, none⟩), .int .i64 40] rfl (by (try simp only [bitvec_to_nat]); rfl) ?_; (with_reducible refine (spec_reader_pick.calls k g s0_0 s0_1 40 tz0 tz1 w0 _ ?side1 ?side2 A3.out).mono ?_); (case side1 => repeat (with_reducible exact HI0.out)); (case side2 => repeat (with_reducible exact HB.out)); rintro e w9 ⟨rfl, hi, hb, hk⟩; refine ⟨_, rfl, ?_⟩; have n0_ := mk (Kd.R_mono (Kd.R_keep (IsS144.apart (show IsS144 w0 _ g s0_0 s0_1 from by exact HI0.out) HO1_3.out (by decide)) hk (fun _ h => h.2)) (fun _ h => h.1)); have n1_ := mk (KeepBut.blk hk (g' := gbz1) (o := .cells #[.int .i64 a1_0, .int .i64 a1_1, .int .i64 a1_2, .slice Ao6 l1_3.length co6] 27 (0, 0)) BKz0.out NBz1.out (by simp)); have n2_ := mk (KeepBut.blk hk (g' := gbz0) (o := .cells #[.int .i64 0, .int .i64 0, .int .i64 0, .slice none 0 0] 27 (0, 0)) BKz1.out NBz2.out (by simp)); have n3_ := mk (Kept.of_keep (S := (fun k_ => (P1_3_ k_) ∨ k_ = g)) HK.out hk (.inl (.inr rfl))); have n4_ := mk (hb); have n5_ := mk (hi); clear HO1_3; clear BKz0; clear BKz1; clear HK; clear HB; clear HI0; have HO1_3 := n0_; have BKz0 := n1_; have BKz1 := n2_; have HK := n3_; have HB := n4_; have HI0 := n5_; clear n0_ n1_ n2_ n3_ n4_ n5_; (try clear hb); (try clear hk); (try clear hi); have hnb10 := NBz3.out; have hnc10 := NBz0.out; have hnb11 := NBz1.out; have hnc11 := NBz5.out; have hcz12_0 : w9.cell? ⟨gbz1, 0, none⟩ = some (.int .i64 a1_0) := (blk_cell BKz0.out 0).trans rfl; have hcz12_1 : w9.cell? ⟨gbz1, 1, none⟩ = some (.int .i64 a1_1) := (blk_cell BKz0.out 1).trans rfl; have hcz12_2 : w9.cell? ⟨gbz1, 2, none⟩ = some (.int .i64 a1_2) := (blk_cell BKz0.out 2).trans rfl; have hcz12_3 : w9.cell? ⟨gbz1, 3, none⟩ = some (.slice Ao6 l1_3.length co6) := (blk_cell BKz0.out 3).trans rfl; have hfz12_0 := blk_frozen BKz0.out 0; have hfz12_1 := blk_frozen BKz0.out 1; have hfz12_2 := blk_frozen BKz0.out 2; have hfz12_3 := blk_frozen BKz0.out 3) | ((with_reducible refine gate_dst (N := 13) rfl ?_); refine Kd.R_lit (Kd.int .i64) _ 3 ?hg (N := 13) ?hd (xs := ([0, 17, wrap64 (a1_0 + 1)] : List Int)) (inner := [.int .i64 0, .int .i64 17, .int .i64 (wrap64 (a1_0 + 1))]) (ok := fun _ => True) (okp := fun _ => True) ?hr ?hp (fun _ hk => hk) trivial (Below.refl _ _) (Nat.le_refl _) (by simp) ?_; (case hd => rfl); (case hg => rfl); (case hr => (go_simp; done)); (case hp => exact (Reps.one (show Kd.M (Kd.int .i64) _ _ _ 0 [.int .i64 0] from rfl) (Reps.one (show Kd.M (Kd.int .i64) _ _ _ 17 [.int .i64 17] from rfl) (Reps.one (show Kd.M (Kd.int .i64) _ _ _ (wrap64 (a1_0 + 1)) [.int .i64 (wrap64 (a1_0 + 1))] from rfl) (Reps.none _ _))))); intro vz0 w13 ho14 hb hg_ hnew_; clear hg_ hnew_; (rw [← Nyz1.out] at ho14); have n0_ := mk (Kd.R_elder' HO1_3.out (Kd.R_base ho14) hb); have n1_ := mk (Kd.R_lower (Kd.R_new' (Kd.R_newM (M := fun k_ => (P1_3_ k_ ∨ w.heap.size ≤ k_)) ho14 HK.out.1 (fun k_ h_ => .inr h_)) (Kd.R_lt HO1_3.out)) (below_size HB.out)); have n2_ := mk (IsS144.below HI0.out hb); have n3_ := mk (blk_below BKz0.out hb); have n4_ := mk (blk_below BKz1.out hb); have n5_ := mk (Kept.below (S := (fun k_ => (P1_3_ k_) ∨ k_ = g)) HK.out hb); have n6_ := mk (below_step HB.out hb); clear HO1_3; clear HI0; clear BKz0; clear BKz1; clear HK; clear HB; have HO1_3 := n0_; have HOz1 := n1_; have HI0 := n2_; have BKz0 := n3_; have BKz1 := n4_; have HK := n5_; have HB := n6_; clear n0_ n1_ n2_ n3_ n4_ n5_ n6_; clear hb ho14; obtain ⟨Ao15, co15, eo15⟩ := Kd.R_slice HOz1.out; subst eo15) | ((with_reducible refine gate_callee (f := 147) rfl ?_); refine goesL_ (some 14) rfl rfl Try.func147 (by kernel_rfl) rfl #[.pointer (some ⟨g, 0, none⟩), .slice Ao15 yz2.length co15] rfl (by (try simp only [bitvec_to_nat]); rfl) ?_; (with_reducible refine (spec_reader_one.calls k g s0_0 tz1 _ _ yz2 tz3 tz6 w0 _ ?side1 ?side2 ?side3 ?side4 ?side5 A5.out).mono ?_); (case side1 => repeat (with_reducible exact HI0.out)); (case side2 => repeat (with_reducible exact HB.out)); (case side3 => repeat (exact (Kd.R_reads' HOz1.out).2.2)); (case side4 => exact (Kd.R_reads' HOz1.out).2.1); (case side5 => exact far_slice (IsS144.own_ne HI0.out HOz1.out (by decide))); rintro e w16 ⟨rfl, hi, hb, hk⟩; refine ⟨_, rfl, ?_⟩; have n0_ := mk (Kd.R_mono (Kd.R_keep (IsS144.apart (show IsS144 w0 _ g s0_0 tz1 from by exact HI0.out) HO1_3.out (by decide)) hk (fun _ h => h.2)) (fun _ h => h.1)); have n1_ := mk (KeepBut.blk hk (g' := gbz1) (o := .cells #[.int .i64 a1_0, .int .i64 a1_1, .int .i64 a1_2, .slice Ao6 l1_3.length co6] 27 (0, 0)) BKz0.out NBz1.out (by simp)); have n2_ := mk (KeepBut.blk hk (g' := gbz0) (o := .cells #[.int .i64 0, .int .i64 0, .int .i64 0, .slice none 0 0] 27 (0, 0)) BKz1.out NBz2.out (by simp)); have n3_ := mk (Kd.R_mono (Kd.R_keep (IsS144.apart (show IsS144 w0 _ g s0_0 tz1 from by exact HI0.out) HOz1.out (by decide)) hk (fun _ h => h.2)) (fun _ h => h.1)); have n4_ := mk (Kept.of_keep (S := (fun k_ => (P1_3_ k_) ∨ k_ = g)) HK.out hk (.inl (.inr rfl))); have n5_ := mk (hb); have n6_ := mk (hi); clear HO1_3; clear BKz0; clear BKz1; clear HOz1; clear HK; clear HB; clear HI0; have HO1_3 := n0_; have BKz0 := n1_; have BKz1 := n2_; have HOz1 := n3_; have HK := n4_; have HB := n5_; have HI0 := n6_; clear n0_ n1_ n2_ n3_ n4_ n5_ n6_; (try clear hb); (try clear hk); (try clear hi); have hcz17_0 : w16.cell? ⟨gbz1, 0, none⟩ = some (.int .i64 a1_0) := (blk_cell BKz0.out 0).trans rfl; have hcz17_1 : w16.cell? ⟨gbz1, 1, none⟩ = some (.int .i64 a1_1) := (blk_cell BKz0.out 1).trans rfl; have hcz17_2 : w16.cell? ⟨gbz1, 2, none⟩ = some (.int .i64 a1_2) := (blk_cell BKz0.out 2).trans rfl; have hcz17_3 : w16.cell? ⟨gbz1, 3, none⟩ = some (.slice Ao6 l1_3.length co6) := (blk_cell BKz0.out 3).trans rfl; have hfz17_0 := blk_frozen BKz0.out 0; have hfz17_1 := blk_frozen BKz0.out 1; have hfz17_2 := blk_frozen BKz0.out 2; have hfz17_3 := blk_frozen BKz0.out 3; have hnb18 := NBz2.out; have hnc18 := NBz4.out; have hcz19_0 : w16.cell? ⟨gbz0, 0, none⟩ = some (.int .i64 0) := (blk_cell BKz1.out 0).trans rfl; have hcz19_1 : w16.cell? ⟨gbz0, 1, none⟩ = some (.int .i64 0) := (blk_cell BKz1.out 1).trans rfl; have hcz19_2 : w16.cell? ⟨gbz0, 2, none⟩ = some (.int .i64 0) := (blk_cell BKz1.out 2).trans rfl; have hcz19_3 : w16.cell? ⟨gbz0, 3, none⟩ = some (.slice none 0 0) := (blk_cell BKz1.out 3).trans rfl; have hfz19_0 := blk_frozen BKz1.out 0; have hfz19_1 := blk_frozen BKz1.out 1; have hfz19_2 := blk_frozen BKz1.out 2; have hfz19_3 := blk_frozen BKz1.out 3))
  refine bodyPost_ret (results_cell_row rfl _ _ gbz0 27 #[.int .i64 tz3, .int .i64 a1_1, .int .i64 a1_2, .slice Ao6 l1_3.length co6] (0, 0) _ rfl (by refine blk_put (cs := #[.int .i64 tz3, .int .i64 a1_1, .int .i64 a1_2, .slice none 0 0]) ?_ 3 _ rfl; refine blk_put (cs := #[.int .i64 tz3, .int .i64 a1_1, .int .i64 0, .slice none 0 0]) ?_ 2 _ rfl; refine blk_put (cs := #[.int .i64 tz3, .int .i64 0, .int .i64 0, .slice none 0 0]) ?_ 1 _ rfl; refine blk_put (cs := #[.int .i64 0, .int .i64 0, .int .i64 0, .slice none 0 0]) ?_ 0 _ rfl; refine blk_far ?_ NBz0.out _; exact BKz1.out) Try.underlying27 rfl (by kernel_rfl)) rfl ?_
  exact ⟨_, by rfl, Kd.Q_of_R (by exact Kd.R_mono (Kd.R_far (p := ⟨gbz0, 3, none⟩) (Kd.R_far (p := ⟨gbz0, 2, none⟩) (Kd.R_far (p := ⟨gbz0, 1, none⟩) (Kd.R_far (p := ⟨gbz0, 0, none⟩) (Kd.R_far (p := ⟨gbz1, 0, none⟩) (Kd.R_types (Kd.R_types HO1_3.out BKz0.out (by decide)) BKz1.out (by decide)) (fun _ hk => hk.1.2) (.int .i64 tz3)) (fun _ hk => hk.2) (.int .i64 tz3)) (fun _ hk => hk.2) (.int .i64 a1_1)) (fun _ hk => hk.2) (.int .i64 a1_2)) (fun _ hk => hk.2) (.slice Ao6 l1_3.length co6)) (fun _ hk => hk.1.1.1)), by repeat (with_reducible first | exact HI0.out | refine IsS144.far ?_ NBz5.out _ | refine IsS144.far ?_ NBz4.out _), by repeat (with_reducible first | exact HB.out | refine below_set ?_ GEz1.out | refine below_set ?_ GEz0.out), by repeat ((with_reducible first | exact HK.out | refine Kept.setCell ?_ (.inr GWz1.out) _ | refine Kept.setCell ?_ (.inr GWz0.out) _))⟩
 rw [if_neg c4] at H
 have c4b0 : (tz0 == 0) = false := beq_eq_false_iff_ne.mpr c4
 have c4b1 : (tz0 != 0) = true := bne_iff_ne.mpr c4
 by_cases c20 : tz0 = 1
 ·rw [if_pos c20] at H
  have c20b0 : (tz0 == 1) = true := beq_iff_eq.mpr c20
  have c20b1 : (tz0 != 1) = false := bne_eq_false_iff_eq.mpr c20
  clear c20
  by_cases c21 : 1 ≤ (l1_3.length : Int)
  ·rw [if_pos c21] at H
   have c21b0 := eq_true c21
   have c21b1 : decide (1 ≤ (l1_3.length : Int)) = true := decide_eq_true c21
   clear c21
   obtain ⟨yz0, hyz1⟩ : ∃ y_ : List Int, y_ = (l1_3.drop (1 : Int).toNat) := ⟨_, rfl⟩
   replace H : (some (a1_0, a1_1, a1_2, yz0, tz1)) = some (r1, r2, r3, r4, r5) := by (rw [hyz1]; with_reducible exact H)
   have Nyz0 := mk hyz1
   clear hyz1
   simp only [Option.some.injEq, Prod.mk.injEq] at H
   obtain ⟨rfl, rfl, rfl, rfl, rfl⟩ := H
   obtain ⟨Ao22, co22, eo22⟩ := Kd.R_slice HO1_3.out
   subst eo22
   go_enter Try.func136, Try.ntmps136
   go_wp2_with (first | ((with_reducible refine gate_dst (N := 3) rfl ?_); refine box_event (by rfl) (N := 3) (by rfl) (cs := #[.int .i64 a1_0, .int .i64 a1_1, .int .i64 a1_2, .slice Ao22 l1_3.length co22]) (t := 27) (by go_simp; done) ?_; intro gbz1 hg w23 hbox hb; have n0_ := mk (Kd.R_below HO1_3.out hb); have n1_ := mk (IsS144.below HI0.out hb); have n2_ := mk (Kept.below (S := (fun k_ => (P1_3_ k_) ∨ k_ = g)) HK.out hb); have n3_ := mk (below_step HB.out hb); have n4_ := mk (hbox); have n5_ := mk (by rw [hg]; exact HK.out.1 : w.heap.size ≤ gbz1); have n6_ := mk ((by rw [hg]; exact (below_size HB.out) : w0.heap.size ≤ gbz1)); have n7_ := mk ((by rw [hg]; exact Nat.ne_of_lt (IsS144.lt (show IsS144 w0 _ g s0_0 s0_1 from by exact HI0.out)) : g ≠ gbz1)); have n8_ := mk ((by rw [hg]; exact Nat.ne_of_gt (IsS144.lt (show IsS144 w0 _ g s0_0 s0_1 from by exact HI0.out)) : gbz1 ≠ g)); clear HO1_3; clear HI0; clear HK; clear HB; have HO1_3 := n0_; have HI0 := n1_; have HK := n2_; have HB := n3_; have BKz0 := n4_; have GWz1 := n5_; have GEz1 := n6_; have NBz5 := n7_; have NBz1 := n8_; clear n0_ n1_ n2_ n3_ n4_ n5_ n6_ n7_ n8_; clear hb hbox hg) | ((with_reducible refine gate_dst (N := 4) rfl ?_); refine box_event (by rfl) (N := 4) (by rfl) (cs := #[.int .i64 0, .int .i64 0, .int .i64 0, .slice none 0 0]) (t := 27) (by go_simp; done) ?_; intro gbz0 hg w24 hbox hb; have n0_ := mk (Kd.R_below HO1_3.out hb); have n1_ := mk (IsS144.below HI0.out hb); have n2_ := mk (blk_below BKz0.out hb); have n3_ := mk (Kept.below (S := (fun k_ => (P1_3_ k_) ∨ k_ = g)) HK.out hb); have n4_ := mk (below_step HB.out hb); have n5_ := mk (hbox); have n6_ := mk (by rw [hg]; exact HK.out.1 : w.heap.size ≤ gbz0); have n7_ := mk ((by rw [hg]; exact (below_size HB.out) : w0.heap.size ≤ gbz0)); have n8_ := mk ((by rw [hg]; exact Nat.ne_of_lt (blk_lt BKz0.out) : gbz1 ≠ gbz0)); have n9_ := mk ((by rw [hg]; exact Nat.ne_of_gt (blk_lt BKz0.out) : gbz0 ≠ gbz1)); have n10_ := mk ((by rw [hg]; exact Nat.ne_of_lt (IsS144.lt (show IsS144 w0 _ g s0_0 s0_1 from by exact HI0.out)) : g ≠ gbz0)); have n11_ := mk ((by rw [hg]; exact Nat.ne_of_gt (IsS144.lt (show IsS144 w0 _ g s0_0 s0_1 from by exact HI0.out)) : gbz0 ≠ g)); clear HO1_3; clear HI0; clear BKz0; clear HK; clear HB; have HO1_3 := n0_; have HI0 := n1_; have BKz0 := n2_; have HK := n3_; have HB := n4_; have BKz1 := n5_; have GWz0 := n6_; have GEz0 := n7_; have NBz3 := n8_; have NBz0 := n9_; have NBz4 := n10_; have NBz2 := n11_; clear n0_ n1_ n2_ n3_ n4_ n5_ n6_ n7_ n8_ n9_ n10_ n11_; clear hb hbox hg) | ((with_reducible refine gate_callee (f := 127) rfl ?_); refine goesL_ (some 6) rfl rfl Try.func127 (by kernel_rfl) rfl #[.pointer (some ⟨g, 0, none⟩), .int .i64 40] rfl (by (try simp only [bitvec_to_nat]); rfl) ?_; (with_reducible refine (spec_reader_pick.calls k g s0_0 s0_1 40 tz0 tz1 w0 _ ?side1 ?side2 A3.out).mono ?_); (case side1 => repeat (with_reducible exact HI0.out)); (case side2 => repeat (with_reducible exact HB.out)); rintro e w25 ⟨rfl, hi, hb, hk⟩; refine ⟨_, rfl, ?_⟩; have n0_ := mk (Kd.R_mono (Kd.R_keep (IsS144.apart (show IsS144 w0 _ g s0_0 s0_1 from by exact HI0.out) HO1_3.out (by decide)) hk (fun _ h => h.2)) (fun _ h => h.1)); have n1_ := mk (KeepBut.blk hk (g' := gbz1) (o := .cells #[.int .i64 a1_0, .int .i64 a1_1, .int .i64 a1_2, .slice Ao22 l1_3.length co22] 27 (0, 0)) BKz0.out NBz1.out (by simp)); have n2_ := mk (KeepBut.blk hk (g' := gbz0) (o := .cells #[.int .i64 0, .int .i64 0, .int .i64 0, .slice none 0 0] 27 (0, 0)) BKz1.out NBz2.out (by simp)); have n3_ := mk (Kept.of_keep (S := (fun k_ => (P1_3_ k_) ∨ k_ = g)) HK.out hk (.inl (.inr rfl))); have n4_ := mk (hb); have n5_ := mk (hi); clear HO1_3; clear BKz0; clear BKz1; clear HK; clear HB; clear HI0; have HO1_3 := n0_; have BKz0 := n1_; have BKz1 := n2_; have HK := n3_; have HB := n4_; have HI0 := n5_; clear n0_ n1_ n2_ n3_ n4_ n5_; (try clear hb); (try clear hk); (try clear hi); have hnb26 := NBz3.out; have hnc26 := NBz0.out; have hnb27 := NBz1.out; have hnc27 := NBz5.out; have hcz28_0 : w25.cell? ⟨gbz1, 0, none⟩ = some (.int .i64 a1_0) := (blk_cell BKz0.out 0).trans rfl; have hcz28_1 : w25.cell? ⟨gbz1, 1, none⟩ = some (.int .i64 a1_1) := (blk_cell BKz0.out 1).trans rfl; have hcz28_2 : w25.cell? ⟨gbz1, 2, none⟩ = some (.int .i64 a1_2) := (blk_cell BKz0.out 2).trans rfl; have hcz28_3 : w25.cell? ⟨gbz1, 3, none⟩ = some (.slice Ao22 l1_3.length co22) := (blk_cell BKz0.out 3).trans rfl; have hfz28_0 := blk_frozen BKz0.out 0; have hfz28_1 := blk_frozen BKz0.out 1; have hfz28_2 := blk_frozen BKz0.out 2; have hfz28_3 := blk_frozen BKz0.out 3; have q29 : (1 : Int) ≤ ((l1_3.length : Int) : Int) := of_decide_eq_true (by (with_reducible assumption)); obtain ⟨i029, hi029, _, hsz29, _⟩ := info_parts info3; have hcut29 := cut_from (P := Try.prog) 22 3 .i64 Try.underlying22 hi029 1 hsz29 Ao22 l1_3.length co22 1 (by omega) q29; have hr29 := Kd.Q_drop (k := (1 : Int).toNat) (Kd.Q_of_R HO1_3.out) (by omega); obtain ⟨A29, hA29⟩ : ∃ A1, A1 = (if co22 = (1 : Int).toNat then Ao22 else (Ao22 : Option Addr).map (·.add ((1 : Int).toNat * 1))) := ⟨_, rfl⟩; obtain ⟨c29, hc29⟩ : ∃ c1, c1 = co22 - (1 : Int).toNat := ⟨_, rfl⟩; have hy29 : yz0.length = l1_3.length - (1 : Int).toNat := (by rw [Nyz0.out, List.length_drop]); rw [← Nyz0.out] at hr29; rw [← hy29, ← hA29, ← hc29] at hcut29; replace hr29 : Kd.Q (Kd.int .i64) 3 w25 w0.heap.size (fun k_ => (P1_3_ k_ ∨ w.heap.size ≤ k_)) (.slice A29 yz0.length c29) yz0 := (by rw [hA29, hc29, hy29]; exact hr29); have HE29 : Aside0 ((Value.slice A29 yz0.length c29).ownBlock = (.slice Ao22 l1_3.length co22 : Value).ownBlock) := ⟨by rw [hA29]; split <;> (cases (Ao22 : Option Addr) <;> rfl)⟩; clear hy29 hi029 hsz29 HO1_3 hA29 hc29; have HOz3 := mk hr29; clear hr29; replace q29 := eq_true q29; have hnb30 := NBz2.out; have hnc30 := NBz4.out; have hcz31_0 : w25.cell? ⟨gbz0, 0, none⟩ = some (.int .i64 0) := (blk_cell BKz1.out 0).trans rfl; have hcz31_1 : w25.cell? ⟨gbz0, 1, none⟩ = some (.int .i64 0) := (blk_cell BKz1.out 1).trans rfl; have hcz31_2 : w25.cell? ⟨gbz0, 2, none⟩ = some (.int .i64 0) := (blk_cell BKz1.out 2).trans rfl; have hcz31_3 : w25.cell? ⟨gbz0, 3, none⟩ = some (.slice none 0 0) := (blk_cell BKz1.out 3).trans rfl; have hfz31_0 := blk_frozen BKz1.out 0; have hfz31_1 := blk_frozen BKz1.out 1; have hfz31_2 := blk_frozen BKz1.out 2; have hfz31_3 := blk_frozen BKz1.out 3))
   refine bodyPost_ret (results_cell_row rfl _ _ gbz0 27 #[.int .i64 a1_0, .int .i64 a1_1, .int .i64 a1_2, .slice A29 yz0.length c29] (0, 0) _ rfl (by refine blk_put (cs := #[.int .i64 a1_0, .int .i64 a1_1, .int .i64 a1_2, .slice none 0 0]) ?_ 3 _ rfl; refine blk_put (cs := #[.int .i64 a1_0, .int .i64 a1_1, .int .i64 0, .slice none 0 0]) ?_ 2 _ rfl; refine blk_put (cs := #[.int .i64 a1_0, .int .i64 0, .int .i64 0, .slice none 0 0]) ?_ 1 _ rfl; refine blk_put (cs := #[.int .i64 0, .int .i64 0, .int .i64 0, .slice none 0 0]) ?_ 0 _ rfl; refine blk_far ?_ NBz0.out _; exact BKz1.out) Try.underlying27 rfl (by kernel_rfl)) rfl ?_
   exact ⟨_, by rfl, by exact Kd.Q_mono (Kd.Q_far (p := ⟨gbz0, 3, none⟩) (Kd.Q_far (p := ⟨gbz0, 2, none⟩) (Kd.Q_far (p := ⟨gbz0, 1, none⟩) (Kd.Q_far (p := ⟨gbz0, 0, none⟩) (Kd.Q_far (p := ⟨gbz1, 3, none⟩) (Kd.Q_types (Kd.Q_types HOz3.out BKz0.out (by decide)) BKz1.out (by decide)) (fun _ hk => hk.1.2) (.slice A29 yz0.length c29)) (fun _ hk => hk.2) (.int .i64 a1_0)) (fun _ hk => hk.2) (.int .i64 a1_1)) (fun _ hk => hk.2) (.int .i64 a1_2)) (fun _ hk => hk.2) (.slice A29 yz0.length c29)) (fun _ hk => hk.1.1), by repeat (with_reducible first | exact HI0.out | refine IsS144.far ?_ NBz5.out _ | refine IsS144.far ?_ NBz4.out _), by repeat (with_reducible first | exact HB.out | refine below_set ?_ GEz1.out | refine below_set ?_ GEz0.out), by repeat ((with_reducible first | exact HK.out | refine Kept.setCell ?_ (.inr GWz1.out) _ | refine Kept.setCell ?_ (.inr GWz0.out) _))⟩
  rw [if_neg c21] at H
  exact absurd H (by simp)
 rw [if_neg c20] at H
 have c20b0 : (tz0 == 1) = false := beq_eq_false_iff_ne.mpr c20
 have c20b1 : (tz0 != 1) = true := bne_iff_ne.mpr c20
 by_cases c32 : tz0 = 2
 ·rw [if_pos c32] at H
  have c32b0 : (tz0 == 2) = true := beq_iff_eq.mpr c32
  have c32b1 : (tz0 != 2) = false := bne_eq_false_iff_eq.mpr c32
  clear c32
  obtain ⟨yz1, hyz2⟩ : ∃ y_ : List Int, y_ = (([(-1), 256] : List Int)) := ⟨_, rfl⟩
  replace H : ((spec_reader_one.f k s0_0 tz1 yz1).bind fun btz2 => (if 0 < (l1_3.length : Int) then (some (a1_0, a1_1, a1_2, (l1_3.set (0 : Int).toNat btz2.1), btz2.2)) else none)) = some (r1, r2, r3, r4, r5) := by (rw [hyz2]; with_reducible exact H)
  have Nyz2 := mk hyz2
  clear hyz2
  replace H := Option.bind_eq_some_iff.mp H
  obtain ⟨⟨tz2, tz5⟩, A330, H⟩ := H
  replace H : (if 0 < (l1_3.length : Int) then (some (a1_0, a1_1, a1_2, (l1_3.set (0 : Int).toNat tz2), tz5)) else none) = some (r1, r2, r3, r4, r5) := H
  have A33 := mk A330
  clear A330
  by_cases c34 : 0 < (l1_3.length : Int)
  ·rw [if_pos c34] at H
   have c34b0 : decide (0 < (l1_3.length : Int)) = true := decide_eq_true c34
   have c34b1 : decide (0 < l1_3.length) = true := decide_eq_true (by omega)
   clear c34
   obtain ⟨yz4, hyz3⟩ : ∃ y_ : List Int, y_ = (l1_3.set (0 : Int).toNat tz2) := ⟨_, rfl⟩
   replace H : (some (a1_0, a1_1, a1_2, yz4, tz5)) = some (r1, r2, r3, r4, r5) := by (rw [hyz3]; with_reducible exact H)
   have Nyz3 := mk hyz3
   clear hyz3
   simp only [Option.some.injEq, Prod.mk.injEq] at H
   obtain ⟨rfl, rfl, rfl, rfl, rfl⟩ := H
   obtain ⟨Ao36, co36, eo36⟩ := Kd.R_slice HO1_3.out
   subst eo36
   go_enter Try.func136, Try.ntmps136
   try go_wp2_with (first | ((with_reducible refine gate_dst (N := 3) rfl ?_); refine box_event (by rfl) (N := 3) (by rfl) (cs := #[.int .i64 a1_0, .int .i64 a1_1, .int .i64 a1_2, .slice Ao36 l1_3.length co36]) (t := 27) (by go_simp; done) ?_; intro gbz1 hg w37 hbox hb; have n0_ := mk (Kd.R_below HO1_3.out hb); have n1_ := mk (IsS144.below HI0.out hb); have n2_ := mk (Kept.below (S := (fun k_ => (P1_3_ k_) ∨ k_ = g)) HK.out hb); have n3_ := mk (below_step HB.out hb); have n4_ := mk (hbox); have n5_ := mk (by rw [hg]; exact HK.out.1 : w.heap.size ≤ gbz1); have n6_ := mk ((by rw [hg]; exact (below_size HB.out) : w0.heap.size ≤ gbz1)); have n7_ := mk ((by rw [hg]; exact Nat.ne_of_lt (IsS144.lt (show IsS144 w0 _ g s0_0 s0_1 from by exact HI0.out)) : g ≠ gbz1)); have n8_ := mk ((by rw [hg]; exact Nat.ne_of_gt (IsS144.lt (show IsS144 w0 _ g s0_0 s0_1 from by exact HI0.out)) : gbz1 ≠ g)); clear HO1_3; clear HI0; clear HK; clear HB; have HO1_3 := n0_; have HI0 := n1_; have HK := n2_; have HB := n3_; have BKz0 := n4_; have GWz1 := n5_; have GEz1 := n6_; have NBz5 := n7_; have NBz1 := n8_; clear n0_ n1_ n2_ n3_ n4_ n5_ n6_ n7_ n8_; clear hb hbox hg) | ((with_reducible refine gate_dst (N := 4) rfl ?_); refine box_event (by rfl) (N := 4) (by rfl) (cs := #[.int .i64 0, .int .i64 0, .int .i64 0, .slice none 0 0]) (t := 27) (by go_simp; done) ?_; intro gbz0 hg w38 hbox hb; have n0_ := mk (Kd.R_below HO1_3.out hb); have n1_ := mk (IsS144.below HI0.out hb); have n2_ := mk (blk_below BKz0.out hb); have n3_ := mk (Kept.below (S := (fun k_ => (P1_3_ k_) ∨ k_ = g)) HK.out hb); have n4_ := mk (below_step HB.out hb); have n5_ := mk (hbox); have n6_ := mk (by rw [hg]; exact HK.out.1 : w.heap.size ≤ gbz0); have n7_ := mk ((by rw [hg]; exact (below_size HB.out) : w0.heap.size ≤ gbz0)); have n8_ := mk ((by rw [hg]; exact Nat.ne_of_lt (blk_lt BKz0.out) : gbz1 ≠ gbz0)); have n9_ := mk ((by rw [hg]; exact Nat.ne_of_gt (blk_lt BKz0.out) : gbz0 ≠ gbz1)); have n10_ := mk ((by rw [hg]; exact Nat.ne_of_lt (IsS144.lt (show IsS144 w0 _ g s0_0 s0_1 from by exact HI0.out)) : g ≠ gbz0)); have n11_ := mk ((by rw [hg]; exact Nat.ne_of_gt (IsS144.lt (show IsS144 w0 _ g s0_0 s0_1 from by exact HI0.out)) : gbz0 ≠ g)); clear HO1_3; clear HI0; clear BKz0; clear HK; clear HB; have HO1_3 := n0_; have HI0 := n1_; have BKz0 := n2_; have HK := n3_; have HB := n4_; have BKz1 := n5_; have GWz0 := n6_; have GEz0 := n7_; have NBz3 := n8_; have NBz0 := n9_; have NBz4 := n10_; have NBz2 := n11_; clear n0_ n1_ n2_ n3_ n4_ n5_ n6_ n7_ n8_ n9_ n10_ n11_; clear hb hbox hg) | ((with_reducible refine gate_callee (f := 127) rfl ?_); refine goesL_ (some 6) rfl rfl Try.func127 (by kernel_rfl) rfl #[.pointer (some ⟨g, 0, none⟩), .int .i64 40] rfl (by (try simp only [bitvec_to_nat]); rfl) ?_; (with_reducible refine (spec_reader_pick.calls k g s0_0 s0_1 40 tz0 tz1 w0 _ ?side1 ?side2 A3.out).mono ?_); (case side1 => repeat (with_reducible exact HI0.out)); (case side2 => repeat (with_reducible exact HB.out)); rintro e w39 ⟨rfl, hi, hb, hk⟩; refine ⟨_, rfl, ?_⟩; have n0_ := mk (Kd.R_mono (Kd.R_keep (IsS144.apart (show IsS144 w0 _ g s0_0 s0_1 from by exact HI0.out) HO1_3.out (by decide)) hk (fun _ h => h.2)) (fun _ h => h.1)); have n1_ := mk (KeepBut.blk hk (g' := gbz1) (o := .cells #[.int .i64 a1_0, .int .i64 a1_1, .int .i64 a1_2, .slice Ao36 l1_3.length co36] 27 (0, 0)) BKz0.out NBz1.out (by simp)); have n2_ := mk (KeepBut.blk hk (g' := gbz0) (o := .cells #[.int .i64 0, .int .i64 0, .int .i64 0, .slice none 0 0] 27 (0, 0)) BKz1.out NBz2.out (by simp)); have n3_ := mk (Kept.of_keep (S := (fun k_ => (P1_3_ k_) ∨ k_ = g)) HK.out hk (.inl (.inr rfl))); have n4_ := mk (hb); have n5_ := mk (hi); clear HO1_3; clear BKz0; clear BKz1; clear HK; clear HB; clear HI0; have HO1_3 := n0_; have BKz0 := n1_; have BKz1 := n2_; have HK := n3_; have HB := n4_; have HI0 := n5_; clear n0_ n1_ n2_ n3_ n4_ n5_; (try clear hb); (try clear hk); (try clear hi)))
   replace HO1_3 := mk (Kd.R_drew HO1_3.out)
   replace BKz0 := mk (blk_drew BKz0.out)
   replace BKz1 := mk (blk_drew BKz1.out)
   replace HI0 := mk (IsS144.drew HI0.out)
   replace HK := mk (Kept.drew HK.out)
   replace HB := mk (below_drew1 HB.out)
   refine start_ (n := 7) (S := fun w' => w'.cell? ⟨gbz1, 0, none⟩ = some (.int .i64 a1_0) ∧ w'.cell? ⟨gbz1, 1, none⟩ = some (.int .i64 a1_1) ∧ w'.cell? ⟨gbz1, 2, none⟩ = some (.int .i64 a1_2) ∧ w'.cell? ⟨gbz1, 3, none⟩ = some (.slice Ao36 l1_3.length co36)) (ds := [6]) #[false, false, false, false, false, false, false] (by kernel_rfl) rfl rfl ⟨blk_cell BKz0.out 0, blk_cell BKz0.out 1, blk_cell BKz0.out 2, blk_cell BKz0.out 3⟩ (fun hHeld => ?_)
   generalize w39.drew = w40 at HO1_3 BKz0 BKz1 HI0 HK HB hHeld ⊢
   refine pu 0 24 ?_ ?_ rfl rfl (by kernel_rfl) (Or.inl ⟨by rfl, ?_⟩) ?_ ?_
   rotate_left 2
   ·intro w'
    go_simp
    with_reducible rfl
   ·simp only [seval]
    rfl
   refine pu 2 26 ?_ ?_ rfl rfl (by kernel_rfl) (Or.inl ⟨by rfl, ?_⟩) ?_ ?_
   rotate_left 2
   ·intro w'
    go_simp
    with_reducible rfl
   ·simp only [seval]
    rfl
   refine tk 1 25 ?_ ?_ rfl rfl (by kernel_rfl) (Or.inl ⟨by rfl, ?_⟩) hHeld ?_ ?_
   rotate_left 2
   ·rintro w' ⟨s0, s1, s2, s3⟩
    go_simp
    with_reducible rfl
   ·simp only [seval]
    rfl
   refine one_ (i := 3) (N := some 27) #[true, true, true, true, false, false, false] rfl rfl (by kernel_rfl) (by decide) (fun K hK => ?_)
   refine Kd.R_lit_step (Kd.int .i64) _ 3 ?hg (N := 27) ?hd (xs := ([(-1), 256] : List Int)) (inner := [.int .i64 (-1), .int .i64 256]) (ok := fun _ => True) (okp := fun _ => True) ?hr ?hp (fun _ hk => hk) trivial (Below.refl _ _) (Nat.le_refl _) (by simp) ?_; (case hd => rfl); (case hg => rfl); (case hr => (go_simp; done)); (case hp => exact (Reps.one (show Kd.M (Kd.int .i64) _ _ _ (-1) [.int .i64 (-1)] from rfl) (Reps.one (show Kd.M (Kd.int .i64) _ _ _ 256 [.int .i64 256] from rfl) (Reps.none _ _))))
   intro vz1 w41 ho42 hb hg_ hnew_
   clear hg_ hnew_
   (rw [← Nyz2.out] at ho42)
   have HOz0 := mk (Kd.R_lower (Kd.R_new' (Kd.R_newM (M := fun k_ => (P1_3_ k_ ∨ w.heap.size ≤ k_)) ho42 HK.out.1 (fun k_ h_ => .inr h_)) (Kd.R_lt HO1_3.out)) (below_size HB.out))
   replace HO1_3 := mk (Kd.R_elder' HO1_3.out (Kd.R_base ho42) hb)
   replace HI0 := mk (IsS144.below HI0.out hb)
   replace BKz0 := mk (blk_below BKz0.out hb)
   replace BKz1 := mk (blk_below BKz1.out hb)
   replace HK := mk (Kept.below (S := (fun k_ => (P1_3_ k_) ∨ k_ = g)) HK.out hb)
   replace HB := mk (below_step HB.out hb)
   clear hb ho42
   obtain ⟨Ao43, co43, eo43⟩ := Kd.R_slice HOz0.out
   (subst eo43)
   refine hK.out _ _ ⟨blk_cell BKz0.out 0, blk_cell BKz0.out 1, blk_cell BKz0.out 2, blk_cell BKz0.out 3⟩ (fun hHeld => ?_)
   clear hK K
   refine norm_ (a' := ?_) ?_ ?_
   rotate_left
   ·show Act.put _ (some 27) _ = _
    simp only [seval]
    rfl
   refine one_ (i := 4) (N := some 28) #[true, true, true, true, true, false, false] rfl rfl (by kernel_rfl) (by decide) (fun K hK => ?_)
   refine goes_ Try.func147 (by kernel_rfl) rfl #[.pointer (some ⟨g, 0, none⟩), .slice Ao43 yz1.length co43] (by rfl) rfl rfl (by (try simp only [bitvec_to_nat]); rfl) ?_
   with_reducible refine (spec_reader_one.calls k g s0_0 tz1 _ _ yz1 tz2 tz5 w0 _ ?side1 ?side2 ?side3 ?side4 ?side5 A33.out).mono ?_
   (case side1 => repeat (with_reducible exact HI0.out))
   (case side2 => repeat (with_reducible exact HB.out))
   (case side3 => repeat (exact (Kd.R_reads' HOz0.out).2.2))
   (case side4 => exact (Kd.R_reads' HOz0.out).2.1)
   (case side5 => exact far_slice (IsS144.own_ne HI0.out HOz0.out (by decide)))
   rintro e w44 ⟨rfl, hi, hb, hk⟩
   refine ⟨_, rfl, ?_⟩
   replace HO1_3 := mk (Kd.R_mono (Kd.R_keep (IsS144.apart (show IsS144 w0 _ g s0_0 tz1 from by exact HI0.out) HO1_3.out (by decide)) hk (fun _ h => h.2)) (fun _ h => h.1))
   replace BKz0 := mk (KeepBut.blk hk (g' := gbz1) (o := .cells #[.int .i64 a1_0, .int .i64 a1_1, .int .i64 a1_2, .slice Ao36 l1_3.length co36] 27 (0, 0)) BKz0.out NBz1.out (by simp))
   replace BKz1 := mk (KeepBut.blk hk (g' := gbz0) (o := .cells #[.int .i64 0, .int .i64 0, .int .i64 0, .slice none 0 0] 27 (0, 0)) BKz1.out NBz2.out (by simp))
   replace HOz0 := mk (Kd.R_mono (Kd.R_keep (IsS144.apart (show IsS144 w0 _ g s0_0 tz1 from by exact HI0.out) HOz0.out (by decide)) hk (fun _ h => h.2)) (fun _ h => h.1))
   replace HK := mk (Kept.of_keep (S := (fun k_ => (P1_3_ k_) ∨ k_ = g)) HK.out hk (.inl (.inr rfl)))
   replace HB := mk (hb)
   replace HI0 := mk (hi)
   (try clear hb)
   (try clear hk)
   (try clear hi)
   have p35 : 0 ≤ (0 : Int) := (by omega)
   have q35 : (0 : Int) < ((l1_3.length : Int) : Int) := of_decide_eq_true (by (with_reducible assumption))
   have qi35 : (0 < l1_3.length) = True := eq_true (by omega)
   obtain ⟨go35, co35, eo35, gb35, gl35, cl35, HG35⟩ := Kd.R_form HO1_3.out (by omega)
   (cases eo35)
   have GB35 := mk gb35
   have GG35 := mk HG35
   clear gb35 gl35 HG35
   have HMgo35 := mk (show (P1_3_ go35 ∨ w.heap.size ≤ go35) from (HO1_3.out.1 _ rfl).1)
   obtain ⟨hx35_0, hf35_0⟩ := Kd.R_celln 0 HO1_3.out (0 : Int) p35 q35
   (try rw [show (0 : Int).toNat = 0 from rfl] at hx35_0)
   (try rw [show (0 : Int).toNat = 0 from rfl] at hf35_0)
   replace p35 := eq_true p35
   replace q35 := eq_true q35
   have HN0_go35 := mk (show g ≠ go35 from by have h_ := IsS144.own_ne HI0.out HO1_3.out (by decide); intro e_; exact h_ (by rw [e_]; rfl))
   have HP45 := Kd.R_putn HO1_3.out (0 : Int) tz2
   rw [← Nyz3.out] at HP45
   have HQ45 := mk HP45
   clear HP45
   refine hK.out _ _ ⟨blk_cell BKz0.out 0, blk_cell BKz0.out 1, blk_cell BKz0.out 2, blk_cell BKz0.out 3⟩ (fun hHeld => ?_)
   clear hK K
   refine norm_ (a' := ?_) ?_ ?_
   rotate_left
   ·show Act.put _ (some 28) _ = _
    simp only [seval]
    rfl
   refine pu 5 29 ?_ ?_ rfl rfl (by kernel_rfl) (Or.inl ⟨by rfl, ?_⟩) ?_ ?_
   rotate_left 2
   ·intro w'
    go_simp
    with_reducible rfl
   ·simp only [seval]
    rfl
   refine last_ (i := 6) (N := none) #[true, true, true, true, true, true, true] rfl rfl (by kernel_rfl) (by decide) (fun K hK => ?_)
   refine skip_ (w1 := ?_) (by rfl) rfl ?_ ?_
   rotate_left
   ·go_simp
    rfl
   refine hK.out _ _ ?_
   clear hK K
   refine done_ (by kernel_rfl) ?_
   have n0_ : Aside0 (Kd.R (Kd.int .i64) 3 (w44.setCell ⟨go35, 0, none⟩ (.int .i64 tz2)) w0.heap.size (fun k_ => (P1_3_ k_ ∨ w.heap.size ≤ k_) ∧ some k_ ≠ (.slice Ao43 yz1.length co43 : Value).ownBlock) (.slice (some ⟨go35, 0, none⟩) l1_3.length co36) yz4) := HQ45
   have n1_ : Aside0 (Kd.R (Kd.int .i64) 3 (w44.setCell ⟨go35, 0, none⟩ (.int .i64 tz2)) w0.heap.size (fun k_ => (P1_3_ k_ ∨ w.heap.size ≤ k_) ∧ some k_ ≠ (.slice (some ⟨go35, 0, none⟩) l1_3.length co36 : Value).ownBlock) (.slice Ao43 yz1.length co43) yz1) := ⟨by exact Kd.R_mono (Kd.R_far (p := ⟨go35, 0, none⟩) (Kd.R_mono HOz0.out (fun k_ hk => (⟨hk, fun e_ => hk.2 (by rw [e_]; rfl)⟩ : _ ∧ k_ ≠ go35))) (fun _ hk => hk.2) (.int .i64 tz2)) (fun _ hk => ⟨hk.1.1.1, hk.1.2⟩)⟩
   have n2_ : Aside0 ((w44.setCell ⟨go35, 0, none⟩ (.int .i64 tz2)).heap[gbz1]? = some (.cells #[.int .i64 a1_0, .int .i64 a1_1, .int .i64 a1_2, .slice (some ⟨go35, 0, none⟩) l1_3.length co36] 27 (0, 0))) := ⟨by refine blk_far ?_ (by have h_ := Kd.R_ne HO1_3.out BKz0.out (by decide); intro e_; exact h_ (by rw [e_]; rfl)) _; exact BKz0.out⟩
   have n3_ : Aside0 ((w44.setCell ⟨go35, 0, none⟩ (.int .i64 tz2)).heap[gbz0]? = some (.cells #[.int .i64 0, .int .i64 0, .int .i64 0, .slice none 0 0] 27 (0, 0))) := ⟨by refine blk_far ?_ (by have h_ := Kd.R_ne HO1_3.out BKz1.out (by decide); intro e_; exact h_ (by rw [e_]; rfl)) _; exact BKz1.out⟩
   have n4_ : Aside0 (IsS144 w0 (w44.setCell ⟨go35, 0, none⟩ (.int .i64 tz2)) g s0_0 tz5) := ⟨by repeat (with_reducible first | exact HI0.out | refine IsS144.far ?_ HN0_go35.out _)⟩
   have n5_ : Aside0 (Kept w (w44.setCell ⟨go35, 0, none⟩ (.int .i64 tz2)) (fun k_ => (P1_3_ k_) ∨ k_ = g)) := ⟨by repeat ((with_reducible first | exact HK.out | refine Kept.setCell ?_ (Or.imp_left Or.inl HMgo35.out) _))⟩
   have n6_ : Aside0 (Below w0.heap.size w0 (w44.setCell ⟨go35, 0, none⟩ (.int .i64 tz2))) := ⟨by repeat (with_reducible first | exact HB.out | refine below_set ?_ GB35.out)⟩
   (try clear HO1_3)
   (try clear HOz0)
   (try clear BKz0)
   (try clear BKz1)
   (try clear HI0)
   (try clear HK)
   (try clear HB)
   generalize (w44.setCell ⟨go35, 0, none⟩ (.int .i64 tz2)) = w46 at n0_ n1_ n2_ n3_ n4_ n5_ n6_ ⊢
   revert n0_ n1_ n2_ n3_ n4_ n5_ n6_; intro HO1_3 HOz0 BKz0 BKz1 HI0 HK HB
   have hnb47 := NBz3.out
   have hnc47 := NBz0.out
   have hnb48 := NBz1.out
   have hnc48 := NBz5.out
   have hcz49_0 : w46.cell? ⟨gbz1, 0, none⟩ = some (.int .i64 a1_0) := (blk_cell BKz0.out 0).trans rfl
   have hcz49_1 : w46.cell? ⟨gbz1, 1, none⟩ = some (.int .i64 a1_1) := (blk_cell BKz0.out 1).trans rfl
   have hcz49_2 : w46.cell? ⟨gbz1, 2, none⟩ = some (.int .i64 a1_2) := (blk_cell BKz0.out 2).trans rfl
   have hcz49_3 : w46.cell? ⟨gbz1, 3, none⟩ = some (.slice (some ⟨go35, 0, none⟩) l1_3.length co36) := (blk_cell BKz0.out 3).trans rfl
   have hfz49_0 := blk_frozen BKz0.out 0
   have hfz49_1 := blk_frozen BKz0.out 1
   have hfz49_2 := blk_frozen BKz0.out 2
   have hfz49_3 := blk_frozen BKz0.out 3
   have hnb50 := NBz2.out
   have hnc50 := NBz4.out
   have hcz51_0 : w46.cell? ⟨gbz0, 0, none⟩ = some (.int .i64 0) := (blk_cell BKz1.out 0).trans rfl
   have hcz51_1 : w46.cell? ⟨gbz0, 1, none⟩ = some (.int .i64 0) := (blk_cell BKz1.out 1).trans rfl
   have hcz51_2 : w46.cell? ⟨gbz0, 2, none⟩ = some (.int .i64 0) := (blk_cell BKz1.out 2).trans rfl
   have hcz51_3 : w46.cell? ⟨gbz0, 3, none⟩ = some (.slice none 0 0) := (blk_cell BKz1.out 3).trans rfl
   have hfz51_0 := blk_frozen BKz1.out 0
   have hfz51_1 := blk_frozen BKz1.out 1
   have hfz51_2 := blk_frozen BKz1.out 2
   have hfz51_3 := blk_frozen BKz1.out 3
   try go_wp2
   refine bodyPost_ret (results_cell_row rfl _ _ gbz0 27 #[.int .i64 a1_0, .int .i64 a1_1, .int .i64 a1_2, .slice (some ⟨go35, 0, none⟩) l1_3.length co36] (0, 0) _ rfl (by refine blk_put (cs := #[.int .i64 a1_0, .int .i64 a1_1, .int .i64 a1_2, .slice none 0 0]) ?_ 3 _ rfl; refine blk_put (cs := #[.int .i64 a1_0, .int .i64 a1_1, .int .i64 0, .slice none 0 0]) ?_ 2 _ rfl; refine blk_put (cs := #[.int .i64 a1_0, .int .i64 0, .int .i64 0, .slice none 0 0]) ?_ 1 _ rfl; refine blk_put (cs := #[.int .i64 0, .int .i64 0, .int .i64 0, .slice none 0 0]) ?_ 0 _ rfl; exact BKz1.out) Try.underlying27 rfl (by kernel_rfl)) rfl ?_
   exact ⟨_, by rfl, Kd.Q_of_R (by exact Kd.R_mono (Kd.R_far (p := ⟨gbz0, 3, none⟩) (Kd.R_far (p := ⟨gbz0, 2, none⟩) (Kd.R_far (p := ⟨gbz0, 1, none⟩) (Kd.R_far (p := ⟨gbz0, 0, none⟩) (Kd.R_types HO1_3.out BKz1.out (by decide)) (fun _ hk => hk.2) (.int .i64 a1_0)) (fun _ hk => hk.2) (.int .i64 a1_1)) (fun _ hk => hk.2) (.int .i64 a1_2)) (fun _ hk => hk.2) (.slice (some ⟨go35, 0, none⟩) l1_3.length co36)) (fun _ hk => hk.1.1)), by repeat (with_reducible first | exact HI0.out | refine IsS144.far ?_ NBz4.out _), by repeat (with_reducible first | exact HB.out | refine below_set ?_ GEz0.out), by repeat ((with_reducible first | exact HK.out | refine Kept.setCell ?_ (.inr GWz0.out) _))⟩
  rw [if_neg c34] at H
  exact absurd H (by simp)
 rw [if_neg c32] at H
 have c32b0 : (tz0 == 2) = false := beq_eq_false_iff_ne.mpr c32
 have c32b1 : (tz0 != 2) = true := bne_iff_ne.mpr c32
 by_cases c52 : tz0 = 3
 ·rw [if_pos c52] at H
  have c52b0 : (tz0 == 3) = true := beq_iff_eq.mpr c52
  have c52b1 : (tz0 != 3) = false := bne_eq_false_iff_eq.mpr c52
  clear c52
  obtain ⟨yz3, hyz4⟩ : ∃ y_ : List Int, y_ = ([0, 5] : List Int) := ⟨_, rfl⟩
  replace H : ((spec_reader_one.f k s0_0 tz1 yz3).bind fun btz3 => (some (a1_0, a1_1, btz3.1, l1_3, btz3.2))) = some (r1, r2, r3, r4, r5) := by (rw [hyz4]; with_reducible exact H)
  have Nyz4 := mk hyz4
  clear hyz4
  replace H := Option.bind_eq_some_iff.mp H
  obtain ⟨⟨tz4, tz7⟩, A530, H⟩ := H
  replace H : (some (a1_0, a1_1, tz4, l1_3, tz7)) = some (r1, r2, r3, r4, r5) := H
  have A53 := mk A530
  clear A530
  simp only [Option.some.injEq, Prod.mk.injEq] at H
  obtain ⟨rfl, rfl, rfl, rfl, rfl⟩ := H
  obtain ⟨Ao54, co54, eo54⟩ := Kd.R_slice HO1_3.out
  subst eo54
  go_enter Try.func136, Try.ntmps136
  go_wp2_with (first | ((with_reducible refine gate_dst (N := 3) rfl ?_); refine box_event (by rfl) (N := 3) (by rfl) (cs := #[.int .i64 a1_0, .int .i64 a1_1, .int .i64 a1_2, .slice Ao54 l1_3.length co54]) (t := 27) (by go_simp; done) ?_; intro gbz1 hg w55 hbox hb; have n0_ := mk (Kd.R_below HO1_3.out hb); have n1_ := mk (IsS144.below HI0.out hb); have n2_ := mk (Kept.below (S := (fun k_ => (P1_3_ k_) ∨ k_ = g)) HK.out hb); have n3_ := mk (below_step HB.out hb); have n4_ := mk (hbox); have n5_ := mk (by rw [hg]; exact HK.out.1 : w.heap.size ≤ gbz1); have n6_ := mk ((by rw [hg]; exact (below_size HB.out) : w0.heap.size ≤ gbz1)); have n7_ := mk ((by rw [hg]; exact Nat.ne_of_lt (IsS144.lt (show IsS144 w0 _ g s0_0 s0_1 from by exact HI0.out)) : g ≠ gbz1)); have n8_ := mk ((by rw [hg]; exact Nat.ne_of_gt (IsS144.lt (show IsS144 w0 _ g s0_0 s0_1 from by exact HI0.out)) : gbz1 ≠ g)); clear HO1_3; clear HI0; clear HK; clear HB; have HO1_3 := n0_; have HI0 := n1_; have HK := n2_; have HB := n3_; have BKz0 := n4_; have GWz1 := n5_; have GEz1 := n6_; have NBz5 := n7_; have NBz1 := n8_; clear n0_ n1_ n2_ n3_ n4_ n5_ n6_ n7_ n8_; clear hb hbox hg) | ((with_reducible refine gate_dst (N := 4) rfl ?_); refine box_event (by rfl) (N := 4) (by rfl) (cs := #[.int .i64 0, .int .i64 0, .int .i64 0, .slice none 0 0]) (t := 27) (by go_simp; done) ?_; intro gbz0 hg w56 hbox hb; have n0_ := mk (Kd.R_below HO1_3.out hb); have n1_ := mk (IsS144.below HI0.out hb); have n2_ := mk (blk_below BKz0.out hb); have n3_ := mk (Kept.below (S := (fun k_ => (P1_3_ k_) ∨ k_ = g)) HK.out hb); have n4_ := mk (below_step HB.out hb); have n5_ := mk (hbox); have n6_ := mk (by rw [hg]; exact HK.out.1 : w.heap.size ≤ gbz0); have n7_ := mk ((by rw [hg]; exact (below_size HB.out) : w0.heap.size ≤ gbz0)); have n8_ := mk ((by rw [hg]; exact Nat.ne_of_lt (blk_lt BKz0.out) : gbz1 ≠ gbz0)); have n9_ := mk ((by rw [hg]; exact Nat.ne_of_gt (blk_lt BKz0.out) : gbz0 ≠ gbz1)); have n10_ := mk ((by rw [hg]; exact Nat.ne_of_lt (IsS144.lt (show IsS144 w0 _ g s0_0 s0_1 from by exact HI0.out)) : g ≠ gbz0)); have n11_ := mk ((by rw [hg]; exact Nat.ne_of_gt (IsS144.lt (show IsS144 w0 _ g s0_0 s0_1 from by exact HI0.out)) : gbz0 ≠ g)); clear HO1_3; clear HI0; clear BKz0; clear HK; clear HB; have HO1_3 := n0_; have HI0 := n1_; have BKz0 := n2_; have HK := n3_; have HB := n4_; have BKz1 := n5_; have GWz0 := n6_; have GEz0 := n7_; have NBz3 := n8_; have NBz0 := n9_; have NBz4 := n10_; have NBz2 := n11_; clear n0_ n1_ n2_ n3_ n4_ n5_ n6_ n7_ n8_ n9_ n10_ n11_; clear hb hbox hg) | ((with_reducible refine gate_callee (f := 127) rfl ?_); refine goesL_ (some 6) rfl rfl Try.func127 (by kernel_rfl) rfl #[.pointer (some ⟨g, 0, none⟩), .int .i64 40] rfl (by (try simp only [bitvec_to_nat]); rfl) ?_; (with_reducible refine (spec_reader_pick.calls k g s0_0 s0_1 40 tz0 tz1 w0 _ ?side1 ?side2 A3.out).mono ?_); (case side1 => repeat (with_reducible exact HI0.out)); (case side2 => repeat (with_reducible exact HB.out)); rintro e w57 ⟨rfl, hi, hb, hk⟩; refine ⟨_, rfl, ?_⟩; have n0_ := mk (Kd.R_mono (Kd.R_keep (IsS144.apart (show IsS144 w0 _ g s0_0 s0_1 from by exact HI0.out) HO1_3.out (by decide)) hk (fun _ h => h.2)) (fun _ h => h.1)); have n1_ := mk (KeepBut.blk hk (g' := gbz1) (o := .cells #[.int .i64 a1_0, .int .i64 a1_1, .int .i64 a1_2, .slice Ao54 l1_3.length co54] 27 (0, 0)) BKz0.out NBz1.out (by simp)); have n2_ := mk (KeepBut.blk hk (g' := gbz0) (o := .cells #[.int .i64 0, .int .i64 0, .int .i64 0, .slice none 0 0] 27 (0, 0)) BKz1.out NBz2.out (by simp)); have n3_ := mk (Kept.of_keep (S := (fun k_ => (P1_3_ k_) ∨ k_ = g)) HK.out hk (.inl (.inr rfl))); have n4_ := mk (hb); have n5_ := mk (hi); clear HO1_3; clear BKz0; clear BKz1; clear HK; clear HB; clear HI0; have HO1_3 := n0_; have BKz0 := n1_; have BKz1 := n2_; have HK := n3_; have HB := n4_; have HI0 := n5_; clear n0_ n1_ n2_ n3_ n4_ n5_; (try clear hb); (try clear hk); (try clear hi)) | ((with_reducible refine gate_dst (N := 33) rfl ?_); refine Kd.R_lit (Kd.int .i64) _ 3 ?hg (N := 33) ?hd (xs := ([0, 5] : List Int)) (inner := [.int .i64 0, .int .i64 5]) (ok := fun _ => True) (okp := fun _ => True) ?hr ?hp (fun _ hk => hk) trivial (Below.refl _ _) (Nat.le_refl _) (by simp) ?_; (case hd => rfl); (case hg => rfl); (case hr => (go_simp; done)); (case hp => exact (Reps.one (show Kd.M (Kd.int .i64) _ _ _ 0 [.int .i64 0] from rfl) (Reps.one (show Kd.M (Kd.int .i64) _ _ _ 5 [.int .i64 5] from rfl) (Reps.none _ _)))); intro vz2 w58 ho59 hb hg_ hnew_; clear hg_ hnew_; (rw [← Nyz4.out] at ho59); have n0_ := mk (Kd.R_elder' HO1_3.out (Kd.R_base ho59) hb); have n1_ := mk (Kd.R_lower (Kd.R_new' (Kd.R_newM (M := fun k_ => (P1_3_ k_ ∨ w.heap.size ≤ k_)) ho59 HK.out.1 (fun k_ h_ => .inr h_)) (Kd.R_lt HO1_3.out)) (below_size HB.out)); have n2_ := mk (IsS144.below HI0.out hb); have n3_ := mk (blk_below BKz0.out hb); have n4_ := mk (blk_below BKz1.out hb); have n5_ := mk (Kept.below (S := (fun k_ => (P1_3_ k_) ∨ k_ = g)) HK.out hb); have n6_ := mk (below_step HB.out hb); clear HO1_3; clear HI0; clear BKz0; clear BKz1; clear HK; clear HB; have HO1_3 := n0_; have HOz2 := n1_; have HI0 := n2_; have BKz0 := n3_; have BKz1 := n4_; have HK := n5_; have HB := n6_; clear n0_ n1_ n2_ n3_ n4_ n5_ n6_; clear hb ho59; obtain ⟨Ao60, co60, eo60⟩ := Kd.R_slice HOz2.out; subst eo60) | ((with_reducible refine gate_callee (f := 147) rfl ?_); refine goesL_ (some 34) rfl rfl Try.func147 (by kernel_rfl) rfl #[.pointer (some ⟨g, 0, none⟩), .slice Ao60 yz3.length co60] rfl (by (try simp only [bitvec_to_nat]); rfl) ?_; (with_reducible refine (spec_reader_one.calls k g s0_0 tz1 _ _ yz3 tz4 tz7 w0 _ ?side1 ?side2 ?side3 ?side4 ?side5 A53.out).mono ?_); (case side1 => repeat (with_reducible exact HI0.out)); (case side2 => repeat (with_reducible exact HB.out)); (case side3 => repeat (exact (Kd.R_reads' HOz2.out).2.2)); (case side4 => exact (Kd.R_reads' HOz2.out).2.1); (case side5 => exact far_slice (IsS144.own_ne HI0.out HOz2.out (by decide))); rintro e w61 ⟨rfl, hi, hb, hk⟩; refine ⟨_, rfl, ?_⟩; have n0_ := mk (Kd.R_mono (Kd.R_keep (IsS144.apart (show IsS144 w0 _ g s0_0 tz1 from by exact HI0.out) HO1_3.out (by decide)) hk (fun _ h => h.2)) (fun _ h => h.1)); have n1_ := mk (KeepBut.blk hk (g' := gbz1) (o := .cells #[.int .i64 a1_0, .int .i64 a1_1, .int .i64 a1_2, .slice Ao54 l1_3.length co54] 27 (0, 0)) BKz0.out NBz1.out (by simp)); have n2_ := mk (KeepBut.blk hk (g' := gbz0) (o := .cells #[.int .i64 0, .int .i64 0, .int .i64 0, .slice none 0 0] 27 (0, 0)) BKz1.out NBz2.out (by simp)); have n3_ := mk (Kd.R_mono (Kd.R_keep (IsS144.apart (show IsS144 w0 _ g s0_0 tz1 from by exact HI0.out) HOz2.out (by decide)) hk (fun _ h => h.2)) (fun _ h => h.1)); have n4_ := mk (Kept.of_keep (S := (fun k_ => (P1_3_ k_) ∨ k_ = g)) HK.out hk (.inl (.inr rfl))); have n5_ := mk (hb); have n6_ := mk (hi); clear HO1_3; clear BKz0; clear BKz1; clear HOz2; clear HK; clear HB; clear HI0; have HO1_3 := n0_; have BKz0 := n1_; have BKz1 := n2_; have HOz2 := n3_; have HK := n4_; have HB := n5_; have HI0 := n6_; clear n0_ n1_ n2_ n3_ n4_ n5_ n6_; (try clear hb); (try clear hk); (try clear hi); have hnb62 := NBz3.out; have hnc62 := NBz0.out; have hnb63 := NBz1.out; have hnc63 := NBz5.out; have hcz64_0 : w61.cell? ⟨gbz1, 0, none⟩ = some (.int .i64 a1_0) := (blk_cell BKz0.out 0).trans rfl; have hcz64_1 : w61.cell? ⟨gbz1, 1, none⟩ = some (.int .i64 a1_1) := (blk_cell BKz0.out 1).trans rfl; have hcz64_2 : w61.cell? ⟨gbz1, 2, none⟩ = some (.int .i64 a1_2) := (blk_cell BKz0.out 2).trans rfl; have hcz64_3 : w61.cell? ⟨gbz1, 3, none⟩ = some (.slice Ao54 l1_3.length co54) := (blk_cell BKz0.out 3).trans rfl; have hfz64_0 := blk_frozen BKz0.out 0; have hfz64_1 := blk_frozen BKz0.out 1; have hfz64_2 := blk_frozen BKz0.out 2; have hfz64_3 := blk_frozen BKz0.out 3; have hnb65 := NBz2.out; have hnc65 := NBz4.out; have hcz66_0 : w61.cell? ⟨gbz0, 0, none⟩ = some (.int .i64 0) := (blk_cell BKz1.out 0).trans rfl; have hcz66_1 : w61.cell? ⟨gbz0, 1, none⟩ = some (.int .i64 0) := (blk_cell BKz1.out 1).trans rfl; have hcz66_2 : w61.cell? ⟨gbz0, 2, none⟩ = some (.int .i64 0) := (blk_cell BKz1.out 2).trans rfl; have hcz66_3 : w61.cell? ⟨gbz0, 3, none⟩ = some (.slice none 0 0) := (blk_cell BKz1.out 3).trans rfl; have hfz66_0 := blk_frozen BKz1.out 0; have hfz66_1 := blk_frozen BKz1.out 1; have hfz66_2 := blk_frozen BKz1.out 2; have hfz66_3 := blk_frozen BKz1.out 3))
  refine bodyPost_ret (results_cell_row rfl _ _ gbz0 27 #[.int .i64 a1_0, .int .i64 a1_1, .int .i64 tz4, .slice Ao54 l1_3.length co54] (0, 0) _ rfl (by refine blk_put (cs := #[.int .i64 a1_0, .int .i64 a1_1, .int .i64 tz4, .slice none 0 0]) ?_ 3 _ rfl; refine blk_put (cs := #[.int .i64 a1_0, .int .i64 a1_1, .int .i64 0, .slice none 0 0]) ?_ 2 _ rfl; refine blk_put (cs := #[.int .i64 a1_0, .int .i64 0, .int .i64 0, .slice none 0 0]) ?_ 1 _ rfl; refine blk_put (cs := #[.int .i64 0, .int .i64 0, .int .i64 0, .slice none 0 0]) ?_ 0 _ rfl; refine blk_far ?_ NBz0.out _; exact BKz1.out) Try.underlying27 rfl (by kernel_rfl)) rfl ?_
  exact ⟨_, by rfl, Kd.Q_of_R (by exact Kd.R_mono (Kd.R_far (p := ⟨gbz0, 3, none⟩) (Kd.R_far (p := ⟨gbz0, 2, none⟩) (Kd.R_far (p := ⟨gbz0, 1, none⟩) (Kd.R_far (p := ⟨gbz0, 0, none⟩) (Kd.R_far (p := ⟨gbz1, 2, none⟩) (Kd.R_types (Kd.R_types HO1_3.out BKz0.out (by decide)) BKz1.out (by decide)) (fun _ hk => hk.1.2) (.int .i64 tz4)) (fun _ hk => hk.2) (.int .i64 a1_0)) (fun _ hk => hk.2) (.int .i64 a1_1)) (fun _ hk => hk.2) (.int .i64 tz4)) (fun _ hk => hk.2) (.slice Ao54 l1_3.length co54)) (fun _ hk => hk.1.1.1)), by repeat (with_reducible first | exact HI0.out | refine IsS144.far ?_ NBz5.out _ | refine IsS144.far ?_ NBz4.out _), by repeat (with_reducible first | exact HB.out | refine below_set ?_ GEz1.out | refine below_set ?_ GEz0.out), by repeat ((with_reducible first | exact HK.out | refine Kept.setCell ?_ (.inr GWz1.out) _ | refine Kept.setCell ?_ (.inr GWz0.out) _))⟩
 rw [if_neg c52] at H
 have c52b0 : (tz0 == 3) = false := beq_eq_false_iff_ne.mpr c52
 have c52b1 : (tz0 != 3) = true := bne_iff_ne.mpr c52
 simp only [Option.some.injEq, Prod.mk.injEq] at H
 obtain ⟨rfl, rfl, rfl, rfl, rfl⟩ := H
 obtain ⟨Ao67, co67, eo67⟩ := Kd.R_slice HO1_3.out
 subst eo67
 go_enter Try.func136, Try.ntmps136
 go_wp2_with (first | ((with_reducible refine gate_dst (N := 3) rfl ?_); refine box_event (by rfl) (N := 3) (by rfl) (cs := #[.int .i64 a1_0, .int .i64 a1_1, .int .i64 a1_2, .slice Ao67 l1_3.length co67]) (t := 27) (by go_simp; done) ?_; intro gbz1 hg w68 hbox hb; have n0_ := mk (Kd.R_below HO1_3.out hb); have n1_ := mk (IsS144.below HI0.out hb); have n2_ := mk (Kept.below (S := (fun k_ => (P1_3_ k_) ∨ k_ = g)) HK.out hb); have n3_ := mk (below_step HB.out hb); have n4_ := mk (hbox); have n5_ := mk (by rw [hg]; exact HK.out.1 : w.heap.size ≤ gbz1); have n6_ := mk ((by rw [hg]; exact (below_size HB.out) : w0.heap.size ≤ gbz1)); have n7_ := mk ((by rw [hg]; exact Nat.ne_of_lt (IsS144.lt (show IsS144 w0 _ g s0_0 s0_1 from by exact HI0.out)) : g ≠ gbz1)); have n8_ := mk ((by rw [hg]; exact Nat.ne_of_gt (IsS144.lt (show IsS144 w0 _ g s0_0 s0_1 from by exact HI0.out)) : gbz1 ≠ g)); clear HO1_3; clear HI0; clear HK; clear HB; have HO1_3 := n0_; have HI0 := n1_; have HK := n2_; have HB := n3_; have BKz0 := n4_; have GWz1 := n5_; have GEz1 := n6_; have NBz5 := n7_; have NBz1 := n8_; clear n0_ n1_ n2_ n3_ n4_ n5_ n6_ n7_ n8_; clear hb hbox hg) | ((with_reducible refine gate_dst (N := 4) rfl ?_); refine box_event (by rfl) (N := 4) (by rfl) (cs := #[.int .i64 0, .int .i64 0, .int .i64 0, .slice none 0 0]) (t := 27) (by go_simp; done) ?_; intro gbz0 hg w69 hbox hb; have n0_ := mk (Kd.R_below HO1_3.out hb); have n1_ := mk (IsS144.below HI0.out hb); have n2_ := mk (blk_below BKz0.out hb); have n3_ := mk (Kept.below (S := (fun k_ => (P1_3_ k_) ∨ k_ = g)) HK.out hb); have n4_ := mk (below_step HB.out hb); have n5_ := mk (hbox); have n6_ := mk (by rw [hg]; exact HK.out.1 : w.heap.size ≤ gbz0); have n7_ := mk ((by rw [hg]; exact (below_size HB.out) : w0.heap.size ≤ gbz0)); have n8_ := mk ((by rw [hg]; exact Nat.ne_of_lt (blk_lt BKz0.out) : gbz1 ≠ gbz0)); have n9_ := mk ((by rw [hg]; exact Nat.ne_of_gt (blk_lt BKz0.out) : gbz0 ≠ gbz1)); have n10_ := mk ((by rw [hg]; exact Nat.ne_of_lt (IsS144.lt (show IsS144 w0 _ g s0_0 s0_1 from by exact HI0.out)) : g ≠ gbz0)); have n11_ := mk ((by rw [hg]; exact Nat.ne_of_gt (IsS144.lt (show IsS144 w0 _ g s0_0 s0_1 from by exact HI0.out)) : gbz0 ≠ g)); clear HO1_3; clear HI0; clear BKz0; clear HK; clear HB; have HO1_3 := n0_; have HI0 := n1_; have BKz0 := n2_; have HK := n3_; have HB := n4_; have BKz1 := n5_; have GWz0 := n6_; have GEz0 := n7_; have NBz3 := n8_; have NBz0 := n9_; have NBz4 := n10_; have NBz2 := n11_; clear n0_ n1_ n2_ n3_ n4_ n5_ n6_ n7_ n8_ n9_ n10_ n11_; clear hb hbox hg) | ((with_reducible refine gate_callee (f := 127) rfl ?_); refine goesL_ (some 6) rfl rfl Try.func127 (by kernel_rfl) rfl #[.pointer (some ⟨g, 0, none⟩), .int .i64 40] rfl (by (try simp only [bitvec_to_nat]); rfl) ?_; (with_reducible refine (spec_reader_pick.calls k g s0_0 s0_1 40 tz0 tz1 w0 _ ?side1 ?side2 A3.out).mono ?_); (case side1 => repeat (with_reducible exact HI0.out)); (case side2 => repeat (with_reducible exact HB.out)); rintro e w70 ⟨rfl, hi, hb, hk⟩; refine ⟨_, rfl, ?_⟩; have n0_ := mk (Kd.R_mono (Kd.R_keep (IsS144.apart (show IsS144 w0 _ g s0_0 s0_1 from by exact HI0.out) HO1_3.out (by decide)) hk (fun _ h => h.2)) (fun _ h => h.1)); have n1_ := mk (KeepBut.blk hk (g' := gbz1) (o := .cells #[.int .i64 a1_0, .int .i64 a1_1, .int .i64 a1_2, .slice Ao67 l1_3.length co67] 27 (0, 0)) BKz0.out NBz1.out (by simp)); have n2_ := mk (KeepBut.blk hk (g' := gbz0) (o := .cells #[.int .i64 0, .int .i64 0, .int .i64 0, .slice none 0 0] 27 (0, 0)) BKz1.out NBz2.out (by simp)); have n3_ := mk (Kept.of_keep (S := (fun k_ => (P1_3_ k_) ∨ k_ = g)) HK.out hk (.inl (.inr rfl))); have n4_ := mk (hb); have n5_ := mk (hi); clear HO1_3; clear BKz0; clear BKz1; clear HK; clear HB; clear HI0; have HO1_3 := n0_; have BKz0 := n1_; have BKz1 := n2_; have HK := n3_; have HB := n4_; have HI0 := n5_; clear n0_ n1_ n2_ n3_ n4_ n5_; (try clear hb); (try clear hk); (try clear hi); have hnb71 := NBz3.out; have hnc71 := NBz0.out; have hnb72 := NBz1.out; have hnc72 := NBz5.out; have hcz73_0 : w70.cell? ⟨gbz1, 0, none⟩ = some (.int .i64 a1_0) := (blk_cell BKz0.out 0).trans rfl; have hcz73_1 : w70.cell? ⟨gbz1, 1, none⟩ = some (.int .i64 a1_1) := (blk_cell BKz0.out 1).trans rfl; have hcz73_2 : w70.cell? ⟨gbz1, 2, none⟩ = some (.int .i64 a1_2) := (blk_cell BKz0.out 2).trans rfl; have hcz73_3 : w70.cell? ⟨gbz1, 3, none⟩ = some (.slice Ao67 l1_3.length co67) := (blk_cell BKz0.out 3).trans rfl; have hfz73_0 := blk_frozen BKz0.out 0; have hfz73_1 := blk_frozen BKz0.out 1; have hfz73_2 := blk_frozen BKz0.out 2; have hfz73_3 := blk_frozen BKz0.out 3; have hnb74 := NBz2.out; have hnc74 := NBz4.out; have hcz75_0 : w70.cell? ⟨gbz0, 0, none⟩ = some (.int .i64 0) := (blk_cell BKz1.out 0).trans rfl; have hcz75_1 : w70.cell? ⟨gbz0, 1, none⟩ = some (.int .i64 0) := (blk_cell BKz1.out 1).trans rfl; have hcz75_2 : w70.cell? ⟨gbz0, 2, none⟩ = some (.int .i64 0) := (blk_cell BKz1.out 2).trans rfl; have hcz75_3 : w70.cell? ⟨gbz0, 3, none⟩ = some (.slice none 0 0) := (blk_cell BKz1.out 3).trans rfl; have hfz75_0 := blk_frozen BKz1.out 0; have hfz75_1 := blk_frozen BKz1.out 1; have hfz75_2 := blk_frozen BKz1.out 2; have hfz75_3 := blk_frozen BKz1.out 3))
 refine bodyPost_ret (results_cell_row rfl _ _ gbz0 27 #[.int .i64 a1_0, .int .i64 a1_1, .int .i64 a1_2, .slice Ao67 l1_3.length co67] (0, 0) _ rfl (by refine blk_put (cs := #[.int .i64 a1_0, .int .i64 a1_1, .int .i64 a1_2, .slice none 0 0]) ?_ 3 _ rfl; refine blk_put (cs := #[.int .i64 a1_0, .int .i64 a1_1, .int .i64 0, .slice none 0 0]) ?_ 2 _ rfl; refine blk_put (cs := #[.int .i64 a1_0, .int .i64 0, .int .i64 0, .slice none 0 0]) ?_ 1 _ rfl; refine blk_put (cs := #[.int .i64 0, .int .i64 0, .int .i64 0, .slice none 0 0]) ?_ 0 _ rfl; exact BKz1.out) Try.underlying27 rfl (by kernel_rfl)) rfl ?_
 exact ⟨_, by rfl, Kd.Q_of_R (by exact Kd.R_mono (Kd.R_far (p := ⟨gbz0, 3, none⟩) (Kd.R_far (p := ⟨gbz0, 2, none⟩) (Kd.R_far (p := ⟨gbz0, 1, none⟩) (Kd.R_far (p := ⟨gbz0, 0, none⟩) (Kd.R_types HO1_3.out BKz1.out (by decide)) (fun _ hk => hk.2) (.int .i64 a1_0)) (fun _ hk => hk.2) (.int .i64 a1_1)) (fun _ hk => hk.2) (.int .i64 a1_2)) (fun _ hk => hk.2) (.slice Ao67 l1_3.length co67)) (fun _ hk => hk.1)), by repeat (with_reducible first | exact HI0.out | refine IsS144.far ?_ NBz4.out _), by repeat (with_reducible first | exact HB.out | refine below_set ?_ GEz0.out), by repeat ((with_reducible first | exact HK.out | refine Kept.setCell ?_ (.inr GWz0.out) _))⟩


def spec_randomImage.l0 : Nat → Int → Int → Int → List Int → Int → Int → Int → Int → List Int → Option (Int × Int × Int × List Int × Int)
 | 0, _, _, _, _, _, _, _, _, _ => none
 | k + 1, x6, x7, x8, x1000, x1001, xz2, xz3, xz4, xz1 => if x8 < (xz1.length : Int) then (if x6 = 0 then ((spec_reader_pick.f k x1000 x1001 256).bind fun btz5 => (if 0 ≤ x8 then (spec_randomImage.l0 k x6 btz5.1 (wrap64 (x8 + 1)) x1000 btz5.2 xz2 xz3 xz4 (xz1.set (x8 : Int).toNat btz5.1)) else none)) else (if x6 = 1 then ((spec_reader_pick.f k x1000 x1001 5).bind fun btz6 => (if 0 ≤ x8 then (spec_randomImage.l0 k x6 (Int.tmod (wrap64 ((wrap64 (x7 + btz6.1)) + 254)) 256) (wrap64 (x8 + 1)) x1000 btz6.2 xz2 xz3 xz4 (xz1.set (x8 : Int).toNat (Int.tmod (wrap64 ((wrap64 (x7 + btz6.1)) + 254)) 256))) else none)) else (if x6 = 2 then ((spec_reader_pick.f k x1000 x1001 4).bind fun btz7 => (if 0 ≤ x8 then (spec_randomImage.l0 k x6 (wrap64 (60 * btz7.1)) (wrap64 (x8 + 1)) x1000 btz7.2 xz2 xz3 xz4 (xz1.set (x8 : Int).toNat (wrap64 (60 * btz7.1)))) else none)) else (if 0 ≤ x8 then (spec_randomImage.l0 k x6 x7 (wrap64 (x8 + 1)) x1000 x1001 xz2 xz3 xz4 (xz1.set (x8 : Int).toNat x7)) else none)))) else (some (xz2, xz3, xz4, xz1, x1001))
def spec_randomImage.f (k : Nat) (s0_0 : List Int) (s0_1 : Int) (a1 : Int) : Option (Int × Int × Int × List Int × Int) := (spec_reader_one.f k s0_0 s0_1 ([3, 4, 2, 5, 1, 8, 6] : List Int)).bind fun btz4 => ((spec_reader_one.f k s0_0 btz4.2 ([3, 2, 4, 1, 5, 8] : List Int)).bind fun btz3 => ((spec_newImage.f btz4.1 btz3.1 a1).bind fun btz0 => ((spec_reader_pick.f k s0_0 btz3.2 4).bind fun btz2 => ((spec_reader_pick.f k s0_0 btz2.2 256).bind fun btz1 => (spec_randomImage.l0 k btz2.1 btz1.1 0 s0_0 btz1.2 btz0.1 btz0.2.1 btz0.2.2.1 btz0.2.2.2)))))
theorem spec_randomImage.calls (k : Nat) (g : Nat) (s0_0 : List Int) (s0_1 : Int) (a1 : Int) (r1 : Int) (r2 : Int) (r3 : Int) (r4 : List Int) (r5 : Int) (w0 w : World) (hI : IsS144 w0 w g s0_0 s0_1) (hB : Below w0.heap.size w0 w) (h : spec_randomImage.f k s0_0 s0_1 a1 = some (r1, r2, r3, r4, r5)) :
  Calls Try.prog 137 #[.pointer (some ⟨g, 0, none⟩), .int .i64 a1] w fun e w' => ∃ v3_ : Value, e = .returned (.agg #[.int .i64 r1, .int .i64 r2, .int .i64 r3, v3_]) ∧ Kd.R (Kd.int .i64) 3 w' w.heap.size (fun _ => True) v3_ r4 ∧ IsS144 w0 w' g s0_0 r5 ∧ Below w0.heap.size w0 w' ∧ KeepBut w w' g none := by
 have hu27 := Try.underlying27
 have HI0 := mk hI
 have HK := mk (KeepBut.refl w g none)
 have HL := mk hB.size
 clear hI
 have HW0 := mk hB.size
 have HB := mk hB
 clear hB
 have H : ((spec_reader_one.f k s0_0 s0_1 ([3, 4, 2, 5, 1, 8, 6] : List Int)).bind fun btz4 => ((spec_reader_one.f k s0_0 btz4.2 ([3, 2, 4, 1, 5, 8] : List Int)).bind fun btz3 => ((spec_newImage.f btz4.1 btz3.1 a1).bind fun btz0 => ((spec_reader_pick.f k s0_0 btz3.2 4).bind fun btz2 => ((spec_reader_pick.f k s0_0 btz2.2 256).bind fun btz1 => (spec_randomImage.l0 k btz2.1 btz1.1 0 s0_0 btz1.2 btz0.1 btz0.2.1 btz0.2.2.1 btz0.2.2.2)))))) = some (r1, r2, r3, r4, r5) := h
 clear h
 obtain ⟨yz0, hyz0⟩ : ∃ y_ : List Int, y_ = ([3, 4, 2, 5, 1, 8, 6] : List Int) := ⟨_, rfl⟩
 replace H : ((spec_reader_one.f k s0_0 s0_1 yz0).bind fun btz4 => ((spec_reader_one.f k s0_0 btz4.2 ([3, 2, 4, 1, 5, 8] : List Int)).bind fun btz3 => ((spec_newImage.f btz4.1 btz3.1 a1).bind fun btz0 => ((spec_reader_pick.f k s0_0 btz3.2 4).bind fun btz2 => ((spec_reader_pick.f k s0_0 btz2.2 256).bind fun btz1 => (spec_randomImage.l0 k btz2.1 btz1.1 0 s0_0 btz1.2 btz0.1 btz0.2.1 btz0.2.2.1 btz0.2.2.2)))))) = some (r1, r2, r3, r4, r5) := by (rw [hyz0]; with_reducible exact H)
 have Nyz0 := mk hyz0
 clear hyz0
 replace H := Option.bind_eq_some_iff.mp H
 obtain ⟨⟨tz9, tz10⟩, A30, H⟩ := H
 replace H : ((spec_reader_one.f k s0_0 tz10 ([3, 2, 4, 1, 5, 8] : List Int)).bind fun btz3 => ((spec_newImage.f tz9 btz3.1 a1).bind fun btz0 => ((spec_reader_pick.f k s0_0 btz3.2 4).bind fun btz2 => ((spec_reader_pick.f k s0_0 btz2.2 256).bind fun btz1 => (spec_randomImage.l0 k btz2.1 btz1.1 0 s0_0 btz1.2 btz0.1 btz0.2.1 btz0.2.2.1 btz0.2.2.2))))) = some (r1, r2, r3, r4, r5) := H
 have A3 := mk A30
 clear A30
 obtain ⟨yz1, hyz1⟩ : ∃ y_ : List Int, y_ = ([3, 2, 4, 1, 5, 8] : List Int) := ⟨_, rfl⟩
 replace H : ((spec_reader_one.f k s0_0 tz10 yz1).bind fun btz3 => ((spec_newImage.f tz9 btz3.1 a1).bind fun btz0 => ((spec_reader_pick.f k s0_0 btz3.2 4).bind fun btz2 => ((spec_reader_pick.f k s0_0 btz2.2 256).bind fun btz1 => (spec_randomImage.l0 k btz2.1 btz1.1 0 s0_0 btz1.2 btz0.1 btz0.2.1 btz0.2.2.1 btz0.2.2.2))))) = some (r1, r2, r3, r4, r5) := by (rw [hyz1]; with_reducible exact H)
 have Nyz1 := mk hyz1
 clear hyz1
 replace H := Option.bind_eq_some_iff.mp H
 obtain ⟨⟨tz12, tz5⟩, A40, H⟩ := H
 replace H : ((spec_newImage.f tz9 tz12 a1).bind fun btz0 => ((spec_reader_pick.f k s0_0 tz5 4).bind fun btz2 => ((spec_reader_pick.f k s0_0 btz2.2 256).bind fun btz1 => (spec_randomImage.l0 k btz2.1 btz1.1 0 s0_0 btz1.2 btz0.1 btz0.2.1 btz0.2.2.1 btz0.2.2.2)))) = some (r1, r2, r3, r4, r5) := H
 have A4 := mk A40
 clear A40
 replace H := Option.bind_eq_some_iff.mp H
 obtain ⟨⟨tz0, tz1, tz2, tz4⟩, A50, H⟩ := H
 replace H : ((spec_reader_pick.f k s0_0 tz5 4).bind fun btz2 => ((spec_reader_pick.f k s0_0 btz2.2 256).bind fun btz1 => (spec_randomImage.l0 k btz2.1 btz1.1 0 s0_0 btz1.2 tz0 tz1 tz2 tz4))) = some (r1, r2, r3, r4, r5) := H
 have A5 := mk A50
 clear A50
 replace H := Option.bind_eq_some_iff.mp H
 obtain ⟨⟨tz3, tz11⟩, A60, H⟩ := H
 replace H : ((spec_reader_pick.f k s0_0 tz11 256).bind fun btz1 => (spec_randomImage.l0 k tz3 btz1.1 0 s0_0 btz1.2 tz0 tz1 tz2 tz4)) = some (r1, r2, r3, r4, r5) := H
 have A6 := mk A60
 clear A60
 replace H := Option.bind_eq_some_iff.mp H
 obtain ⟨⟨tz16, tz17⟩, A70, H⟩ := H
 replace H : (spec_randomImage.l0 k tz3 tz16 0 s0_0 tz17 tz0 tz1 tz2 tz4) = some (r1, r2, r3, r4, r5) := H
 have A7 := mk A70
 clear A70
 have H' := mk H
 clear H
 go_enter Try.func137, Try.ntmps137
 go_wp2_with (first | ((with_reducible refine gate_dst (N := 4) rfl ?_); refine box_event (by rfl) (N := 4) (by rfl) (cs := #[.int .i64 0, .int .i64 0, .int .i64 0, .slice none 0 0]) (t := 27) (by go_simp; done) ?_; intro gbz1 hg w8 hbox hb; have n0_ := mk (IsS144.below HI0.out hb); have n1_ := mk (KeepBut.trans HK.out (KeepBut.of_below hb g none) (.inl rfl)); have n2_ := mk (below_step HB.out hb); have n3_ := mk (hbox); have n4_ := mk ((by rw [hg]; exact (keep_size (w := w) (g := g) (row := none) HK.out) : w.heap.size ≤ gbz1)); have n5_ := mk ((Nat.le_trans HW0.out (by rw [hg]; exact (keep_size (w := w) (g := g) (row := none) HK.out) : w.heap.size ≤ gbz1) : w0.heap.size ≤ gbz1)); have n6_ := mk ((by rw [hg]; exact Nat.ne_of_lt (IsS144.lt (show IsS144 w0 _ g s0_0 s0_1 from by exact HI0.out)) : g ≠ gbz1)); have n7_ := mk ((by rw [hg]; exact Nat.ne_of_gt (IsS144.lt (show IsS144 w0 _ g s0_0 s0_1 from by exact HI0.out)) : gbz1 ≠ g)); clear HI0; clear HK; clear HB; have HI0 := n0_; have HK := n1_; have HB := n2_; have BKz1 := n3_; have GWz0 := n4_; have GEz0 := n5_; have NBz5 := n6_; have NBz4 := n7_; clear n0_ n1_ n2_ n3_ n4_ n5_ n6_ n7_; clear hb hbox hg) | ((with_reducible refine gate_dst (N := 10) rfl ?_); refine Kd.R_lit (Kd.int .i64) _ 3 ?hg (N := 10) ?hd (xs := ([3, 4, 2, 5, 1, 8, 6] : List Int)) (inner := [.int .i64 3, .int .i64 4, .int .i64 2, .int .i64 5, .int .i64 1, .int .i64 8, .int .i64 6]) (ok := fun _ => True) (okp := fun _ => True) ?hr ?hp (fun _ hk => hk) trivial (Below.refl _ _) (Nat.le_refl _) (by simp) ?_; (case hd => rfl); (case hg => rfl); (case hr => (go_simp; done)); (case hp => exact (Reps.one (show Kd.M (Kd.int .i64) _ _ _ 3 [.int .i64 3] from rfl) (Reps.one (show Kd.M (Kd.int .i64) _ _ _ 4 [.int .i64 4] from rfl) (Reps.one (show Kd.M (Kd.int .i64) _ _ _ 2 [.int .i64 2] from rfl) (Reps.one (show Kd.M (Kd.int .i64) _ _ _ 5 [.int .i64 5] from rfl) (Reps.one (show Kd.M (Kd.int .i64) _ _ _ 1 [.int .i64 1] from rfl) (Reps.one (show Kd.M (Kd.int .i64) _ _ _ 8 [.int .i64 8] from rfl) (Reps.one (show Kd.M (Kd.int .i64) _ _ _ 6 [.int .i64 6] from rfl) (Reps.none _ _))))))))); intro vz0 w9 ho10 hb hg_ hnew_; clear hg_ hnew_; (rw [← Nyz0.out] at ho10); have n0_ := mk (Kd.R_lower ho10 (keep_size (w := w) (g := g) (row := none) HK.out)); have n1_ := mk (IsS144.below HI0.out hb); have n2_ := mk (blk_below BKz1.out hb); have n3_ := mk (KeepBut.trans HK.out (KeepBut.of_below hb g none) (.inl rfl)); have n4_ := mk (below_step HB.out hb); clear HI0; clear BKz1; clear HK; clear HB; have HOz1 := n0_; have HI0 := n1_; have BKz1 := n2_; have HK := n3_; have HB := n4_; clear n0_ n1_ n2_ n3_ n4_; clear hb ho10; obtain ⟨Ao11, co11, eo11⟩ := Kd.R_slice HOz1.out; subst eo11) | ((with_reducible refine gate_callee (f := 147) rfl ?_); refine goesL_ (some 11) rfl rfl Try.func147 (by kernel_rfl) rfl #[.pointer (some ⟨g, 0, none⟩), .slice Ao11 yz0.length co11] rfl (by (try simp only [bitvec_to_nat]); rfl) ?_; (with_reducible refine (spec_reader_one.calls k g s0_0 s0_1 _ _ yz0 tz9 tz10 w0 _ ?side1 ?side2 ?side3 ?side4 ?side5 A3.out).mono ?_); (case side1 => repeat (with_reducible exact HI0.out)); (case side2 => repeat (with_reducible exact HB.out)); (case side3 => repeat (exact (Kd.R_reads' HOz1.out).2.2)); (case side4 => exact (Kd.R_reads' HOz1.out).2.1); (case side5 => exact far_slice (IsS144.own_ne HI0.out HOz1.out (by decide))); rintro e w12 ⟨rfl, hi, hb, hk⟩; refine ⟨_, rfl, ?_⟩; have n0_ := mk (KeepBut.blk hk (g' := gbz1) (o := .cells #[.int .i64 0, .int .i64 0, .int .i64 0, .slice none 0 0] 27 (0, 0)) BKz1.out NBz4.out (by simp)); have n1_ := mk (Kd.R_mono (Kd.R_keep (IsS144.apart (show IsS144 w0 _ g s0_0 s0_1 from by exact HI0.out) HOz1.out (by decide)) hk (fun _ h => h.2)) (fun _ h => h.1)); have n2_ := mk (KeepBut.trans HK.out hk (.inl rfl)); have n3_ := mk (hb); have n4_ := mk (hi); clear BKz1; clear HOz1; clear HK; clear HB; clear HI0; have BKz1 := n0_; have HOz1 := n1_; have HK := n2_; have HB := n3_; have HI0 := n4_; clear n0_ n1_ n2_ n3_ n4_; (try clear hb); (try clear hk); (try clear hi)) | ((with_reducible refine gate_dst (N := 13) rfl ?_); refine Kd.R_lit (Kd.int .i64) _ 3 ?hg (N := 13) ?hd (xs := ([3, 2, 4, 1, 5, 8] : List Int)) (inner := [.int .i64 3, .int .i64 2, .int .i64 4, .int .i64 1, .int .i64 5, .int .i64 8]) (ok := fun _ => True) (okp := fun _ => True) ?hr ?hp (fun _ hk => hk) trivial (Below.refl _ _) (Nat.le_refl _) (by simp) ?_; (case hd => rfl); (case hg => rfl); (case hr => (go_simp; done)); (case hp => exact (Reps.one (show Kd.M (Kd.int .i64) _ _ _ 3 [.int .i64 3] from rfl) (Reps.one (show Kd.M (Kd.int .i64) _ _ _ 2 [.int .i64 2] from rfl) (Reps.one (show Kd.M (Kd.int .i64) _ _ _ 4 [.int .i64 4] from rfl) (Reps.one (show Kd.M (Kd.int .i64) _ _ _ 1 [.int .i64 1] from rfl) (Reps.one (show Kd.M (Kd.int .i64) _ _ _ 5 [.int .i64 5] from rfl) (Reps.one (show Kd.M (Kd.int .i64) _ _ _ 8 [.int .i64 8] from rfl) (Reps.none _ _)))))))); intro vz1 w13 ho14 hb hg_ hnew_; clear hg_ hnew_; (rw [← Nyz1.out] at ho14); have n0_ := mk (Kd.R_elder' HOz1.out (Kd.R_base ho14) hb); have n1_ := mk (Kd.R_lower (Kd.R_new' ho14 (Kd.R_lt HOz1.out)) (keep_size (w := w) (g := g) (row := none) HK.out)); have n2_ := mk (IsS144.below HI0.out hb); have n3_ := mk (blk_below BKz1.out hb); have n4_ := mk (KeepBut.trans HK.out (KeepBut.of_below hb g none) (.inl rfl)); have n5_ := mk (below_step HB.out hb); clear HOz1; clear HI0; clear BKz1; clear HK; clear HB; have HOz1 := n0_; have HOz2 := n1_; have HI0 := n2_; have BKz1 := n3_; have HK := n4_; have HB := n5_; clear n0_ n1_ n2_ n3_ n4_ n5_; clear hb ho14; obtain ⟨Ao15, co15, eo15⟩ := Kd.R_slice HOz2.out; subst eo15) | ((with_reducible refine gate_callee (f := 147) rfl ?_); refine goesL_ (some 14) rfl rfl Try.func147 (by kernel_rfl) rfl #[.pointer (some ⟨g, 0, none⟩), .slice Ao15 yz1.length co15] rfl (by (try simp only [bitvec_to_nat]); rfl) ?_; (with_reducible refine (spec_reader_one.calls k g s0_0 tz10 _ _ yz1 tz12 tz5 w0 _ ?side1 ?side2 ?side3 ?side4 ?side5 A4.out).mono ?_); (case side1 => repeat (with_reducible exact HI0.out)); (case side2 => repeat (with_reducible exact HB.out)); (case side3 => repeat (exact (Kd.R_reads' HOz2.out).2.2)); (case side4 => exact (Kd.R_reads' HOz2.out).2.1); (case side5 => exact far_slice (IsS144.own_ne HI0.out HOz2.out (by decide))); rintro e w16 ⟨rfl, hi, hb, hk⟩; refine ⟨_, rfl, ?_⟩; have n0_ := mk (KeepBut.blk hk (g' := gbz1) (o := .cells #[.int .i64 0, .int .i64 0, .int .i64 0, .slice none 0 0] 27 (0, 0)) BKz1.out NBz4.out (by simp)); have n1_ := mk (Kd.R_mono (Kd.R_keep (IsS144.apart (show IsS144 w0 _ g s0_0 tz10 from by exact HI0.out) HOz1.out (by decide)) hk (fun _ h => h.2)) (fun _ h => h.1)); have n2_ := mk (Kd.R_mono (Kd.R_keep (IsS144.apart (show IsS144 w0 _ g s0_0 tz10 from by exact HI0.out) HOz2.out (by decide)) hk (fun _ h => h.2)) (fun _ h => h.1)); have n3_ := mk (KeepBut.trans HK.out hk (.inl rfl)); have n4_ := mk (hb); have n5_ := mk (hi); clear BKz1; clear HOz1; clear HOz2; clear HK; clear HB; clear HI0; have BKz1 := n0_; have HOz1 := n1_; have HOz2 := n2_; have HK := n3_; have HB := n4_; have HI0 := n5_; clear n0_ n1_ n2_ n3_ n4_ n5_; (try clear hb); (try clear hk); (try clear hi)) | ((with_reducible refine gate_callee (f := 111) rfl ?_); refine goesL_ (some 16) rfl rfl Try.func111 (by kernel_rfl) rfl #[.int .i64 tz9, .int .i64 tz12, .int .i64 a1] rfl (by (try simp only [bitvec_to_nat]); rfl) ?_; (with_reducible refine (spec_newImage.calls tz9 tz12 a1 tz0 tz1 tz2 tz4 _ A5.out).mono ?_); rintro e w17 ⟨vz2, rfl, ho0, hb⟩; refine ⟨_, rfl, ?_⟩; have n0_ := mk (Kd.R_elder' HOz1.out (Kd.R_base ho0) hb); have n1_ := mk (Kd.R_elder' HOz2.out (Kd.R_base ho0) hb); have n2_ := mk (Kd.R_lower (Kd.R_new' (Kd.R_new' ho0 (Kd.R_lt HOz1.out)) (Kd.R_lt HOz2.out)) (keep_size (w := w) (g := g) (row := none) HK.out)); have n3_ := mk (IsS144.below HI0.out hb); have n4_ := mk (blk_below BKz1.out hb); have n5_ := mk (KeepBut.trans HK.out (KeepBut.of_below hb g none) (.inl rfl)); have n6_ := mk (below_step HB.out hb); clear HOz1; clear HOz2; clear HI0; clear BKz1; clear HK; clear HB; have HOz1 := n0_; have HOz2 := n1_; have HOz3 := n2_; have HI0 := n3_; have BKz1 := n4_; have HK := n5_; have HB := n6_; clear n0_ n1_ n2_ n3_ n4_ n5_ n6_; (try clear hb); (try clear ho0)) | ((with_reducible refine gate_dst (N := 5) rfl ?_); refine box_event (by rfl) (N := 5) (by rfl) (cs := #[.int .i64 0, .int .i64 0, .int .i64 0, .slice none 0 0]) (t := 27) (by go_simp; done) ?_; intro gbz0 hg w18 hbox hb; have n0_ := mk (Kd.R_below HOz1.out hb); have n1_ := mk (Kd.R_below HOz2.out hb); have n2_ := mk (Kd.R_below HOz3.out hb); have n3_ := mk (IsS144.below HI0.out hb); have n4_ := mk (blk_below BKz1.out hb); have n5_ := mk (KeepBut.trans HK.out (KeepBut.of_below hb g none) (.inl rfl)); have n6_ := mk (below_step HB.out hb); have n7_ := mk (hbox); have n8_ := mk ((by rw [hg]; exact (keep_size (w := w) (g := g) (row := none) HK.out) : w.heap.size ≤ gbz0)); have n9_ := mk ((Nat.le_trans HW0.out (by rw [hg]; exact (keep_size (w := w) (g := g) (row := none) HK.out) : w.heap.size ≤ gbz0) : w0.heap.size ≤ gbz0)); have n10_ := mk ((by rw [hg]; exact Nat.ne_of_lt (blk_lt BKz1.out) : gbz1 ≠ gbz0)); have n11_ := mk ((by rw [hg]; exact Nat.ne_of_gt (blk_lt BKz1.out) : gbz0 ≠ gbz1)); have n12_ := mk ((by rw [hg]; exact Nat.ne_of_lt (IsS144.lt (show IsS144 w0 _ g s0_0 tz5 from by exact HI0.out)) : g ≠ gbz0)); have n13_ := mk ((by rw [hg]; exact Nat.ne_of_gt (IsS144.lt (show IsS144 w0 _ g s0_0 tz5 from by exact HI0.out)) : gbz0 ≠ g)); clear HOz1; clear HOz2; clear HOz3; clear HI0; clear BKz1; clear HK; clear HB; have HOz1 := n0_; have HOz2 := n1_; have HOz3 := n2_; have HI0 := n3_; have BKz1 := n4_; have HK := n5_; have HB := n6_; have BKz0 := n7_; have GWz1 := n8_; have GEz1 := n9_; have NBz0 := n10_; have NBz3 := n11_; have NBz2 := n12_; have NBz1 := n13_; clear n0_ n1_ n2_ n3_ n4_ n5_ n6_ n7_ n8_ n9_ n10_ n11_ n12_ n13_; clear hb hbox hg; have hnb19 := NBz3.out; have hnc19 := NBz0.out; have hnb20 := NBz1.out; have hnc20 := NBz2.out; obtain ⟨hcz21_0, hcz21_1, hcz21_2, hcz21_3, hfz21_0, hfz21_1, hfz21_2, hfz21_3⟩ := c4 BKz0.out; obtain ⟨Ao22, co22, eo22⟩ := Kd.R_slice HOz3.out; subst eo22) | ((with_reducible refine gate_callee (f := 127) rfl ?_); refine goesL_ (some 18) rfl rfl Try.func127 (by kernel_rfl) rfl #[.pointer (some ⟨g, 0, none⟩), .int .i64 4] rfl (by (try simp only [bitvec_to_nat]); rfl) ?_; (with_reducible refine (spec_reader_pick.calls k g s0_0 tz5 4 tz3 tz11 w0 _ ?side1 ?side2 A6.out).mono ?_); (case side1 => repeat (with_reducible first | exact HI0.out | refine IsS144.far ?_ NBz2.out _)); (case side2 => repeat (with_reducible first | exact HB.out | refine below_set ?_ GEz1.out)); rintro e w23 ⟨rfl, hi, hb, hk⟩; refine ⟨_, rfl, ?_⟩; have n0_ := mk (KeepBut.blk hk (g' := gbz1) (o := .cells #[.int .i64 0, .int .i64 0, .int .i64 0, .slice none 0 0] 27 (0, 0)) (by refine blk_far ?_ NBz0.out _; refine blk_far ?_ NBz0.out _; refine blk_far ?_ NBz0.out _; refine blk_far ?_ NBz0.out _; exact BKz1.out) NBz4.out (by simp)); have n1_ := mk (Kd.R_mono (Kd.R_keep (IsS144.apart (show IsS144 w0 _ g s0_0 tz5 from by repeat (with_reducible first | exact HI0.out | refine IsS144.far ?_ NBz2.out _)) (by exact (Kd.R_mono (Kd.R_far (p := ⟨gbz0, 3, none⟩) (Kd.R_far (p := ⟨gbz0, 2, none⟩) (Kd.R_far (p := ⟨gbz0, 1, none⟩) (Kd.R_far (p := ⟨gbz0, 0, none⟩) (Kd.R_types HOz1.out BKz0.out (by decide)) (fun _ hk => hk.2) (.int .i64 tz0)) (fun _ hk => hk.2) (.int .i64 tz1)) (fun _ hk => hk.2) (.int .i64 tz2)) (fun _ hk => hk.2) (.slice Ao22 tz4.length co22)) (fun _ h_ => h_.1))) (by decide)) hk (fun _ h => h.2)) (fun _ h => h.1)); have n2_ := mk (Kd.R_mono (Kd.R_keep (IsS144.apart (show IsS144 w0 _ g s0_0 tz5 from by repeat (with_reducible first | exact HI0.out | refine IsS144.far ?_ NBz2.out _)) (by exact (Kd.R_mono (Kd.R_far (p := ⟨gbz0, 3, none⟩) (Kd.R_far (p := ⟨gbz0, 2, none⟩) (Kd.R_far (p := ⟨gbz0, 1, none⟩) (Kd.R_far (p := ⟨gbz0, 0, none⟩) (Kd.R_types HOz2.out BKz0.out (by decide)) (fun _ hk => hk.2) (.int .i64 tz0)) (fun _ hk => hk.2) (.int .i64 tz1)) (fun _ hk => hk.2) (.int .i64 tz2)) (fun _ hk => hk.2) (.slice Ao22 tz4.length co22)) (fun _ h_ => h_.1))) (by decide)) hk (fun _ h => h.2)) (fun _ h => h.1)); have n3_ := mk (Kd.R_mono (Kd.R_keep (IsS144.apart (show IsS144 w0 _ g s0_0 tz5 from by repeat (with_reducible first | exact HI0.out | refine IsS144.far ?_ NBz2.out _)) (by exact (Kd.R_mono (Kd.R_far (p := ⟨gbz0, 3, none⟩) (Kd.R_far (p := ⟨gbz0, 2, none⟩) (Kd.R_far (p := ⟨gbz0, 1, none⟩) (Kd.R_far (p := ⟨gbz0, 0, none⟩) (Kd.R_types HOz3.out BKz0.out (by decide)) (fun _ hk => hk.2) (.int .i64 tz0)) (fun _ hk => hk.2) (.int .i64 tz1)) (fun _ hk => hk.2) (.int .i64 tz2)) (fun _ hk => hk.2) (.slice Ao22 tz4.length co22)) (fun _ h_ => h_.1))) (by decide)) hk (fun _ h => h.2)) (fun _ h => h.1)); have n4_ := mk (KeepBut.blk hk (g' := gbz0) (o := .cells #[.int .i64 tz0, .int .i64 tz1, .int .i64 tz2, .slice Ao22 tz4.length co22] 27 (0, 0)) (by refine blk_put (cs := #[.int .i64 tz0, .int .i64 tz1, .int .i64 tz2, .slice none 0 0]) ?_ 3 _ rfl; refine blk_put (cs := #[.int .i64 tz0, .int .i64 tz1, .int .i64 0, .slice none 0 0]) ?_ 2 _ rfl; refine blk_put (cs := #[.int .i64 tz0, .int .i64 0, .int .i64 0, .slice none 0 0]) ?_ 1 _ rfl; refine blk_put (cs := #[.int .i64 0, .int .i64 0, .int .i64 0, .slice none 0 0]) ?_ 0 _ rfl; exact BKz0.out) NBz1.out (by simp)); have n5_ := mk (KeepBut.trans (by repeat (with_reducible first | exact HK.out | refine keep_far ?_ GWz1.out _)) hk (.inl rfl)); have n6_ := mk (hb); have n7_ := mk (hi); clear BKz1; clear HOz1; clear HOz2; clear HOz3; clear BKz0; clear HK; clear HB; clear HI0; have BKz1 := n0_; have HOz1 := n1_; have HOz2 := n2_; have HOz3 := n3_; have BKz0 := n4_; have HK := n5_; have HB := n6_; have HI0 := n7_; clear n0_ n1_ n2_ n3_ n4_ n5_ n6_ n7_; (try clear hb); (try clear hk); (try clear hi)) | ((with_reducible refine gate_callee (f := 127) rfl ?_); refine goesL_ (some 20) rfl rfl Try.func127 (by kernel_rfl) rfl #[.pointer (some ⟨g, 0, none⟩), .int .i64 256] rfl (by (try simp only [bitvec_to_nat]); rfl) ?_; (with_reducible refine (spec_reader_pick.calls k g s0_0 tz11 256 tz16 tz17 w0 _ ?side1 ?side2 A7.out).mono ?_); (case side1 => repeat (with_reducible exact HI0.out)); (case side2 => repeat (with_reducible exact HB.out)); rintro e w24 ⟨rfl, hi, hb, hk⟩; refine ⟨_, rfl, ?_⟩; have n0_ := mk (KeepBut.blk hk (g' := gbz1) (o := .cells #[.int .i64 0, .int .i64 0, .int .i64 0, .slice none 0 0] 27 (0, 0)) BKz1.out NBz4.out (by simp)); have n1_ := mk (Kd.R_mono (Kd.R_keep (IsS144.apart (show IsS144 w0 _ g s0_0 tz11 from by exact HI0.out) HOz1.out (by decide)) hk (fun _ h => h.2)) (fun _ h => h.1)); have n2_ := mk (Kd.R_mono (Kd.R_keep (IsS144.apart (show IsS144 w0 _ g s0_0 tz11 from by exact HI0.out) HOz2.out (by decide)) hk (fun _ h => h.2)) (fun _ h => h.1)); have n3_ := mk (Kd.R_mono (Kd.R_keep (IsS144.apart (show IsS144 w0 _ g s0_0 tz11 from by exact HI0.out) HOz3.out (by decide)) hk (fun _ h => h.2)) (fun _ h => h.1)); have n4_ := mk (KeepBut.blk hk (g' := gbz0) (o := .cells #[.int .i64 tz0, .int .i64 tz1, .int .i64 tz2, .slice Ao22 tz4.length co22] 27 (0, 0)) BKz0.out NBz1.out (by simp)); have n5_ := mk (KeepBut.trans HK.out hk (.inl rfl)); have n6_ := mk (hb); have n7_ := mk (hi); clear BKz1; clear HOz1; clear HOz2; clear HOz3; clear BKz0; clear HK; clear HB; clear HI0; have BKz1 := n0_; have HOz1 := n1_; have HOz2 := n2_; have HOz3 := n3_; have BKz0 := n4_; have HK := n5_; have HB := n6_; have HI0 := n7_; clear n0_ n1_ n2_ n3_ n4_ n5_ n6_ n7_; (try clear hb); (try clear hk); (try clear hi)))
 go_loopg [7, 8] k (fun kq v7 v8 w' => ∃ (x7_1 : Int) (x8_1 : Int) (x1001_1 : Int) (xz0 : List Int) (u138019003 : Value), v7 = .int .i64 x7_1 ∧ v8 = .int .i64 x8_1 ∧ Aside0 (spec_randomImage.l0 kq tz3 x7_1 x8_1 s0_0 x1001_1 tz0 tz1 tz2 xz0 = some (r1, r2, r3, r4, r5)) ∧ Aside0 (kq ≤ k) ∧ Aside0 (Kd.R (Kd.int .i64) 3 w' w.heap.size (fun _ => True) u138019003 xz0) ∧ Aside0 (w'.heap[gbz1]? = some (.cells #[.int .i64 0, .int .i64 0, .int .i64 0, (.slice none 0 0)] 27 (0, 0))) ∧ Aside0 (w'.heap[gbz0]? = some (.cells #[.int .i64 tz0, .int .i64 tz1, .int .i64 tz2, u138019003] 27 (0, 0))) ∧ Aside0 (IsS144 w0 w' g s0_0 x1001_1) ∧ Aside0 (KeepBut w w' g none) ∧ Aside0 (Below w0.heap.size w0 w'))
 case atStart => exact ⟨(tz16), (0), (tz17), (tz4), (.slice Ao22 tz4.length co22), (by rfl), (by rfl), H', ⟨Nat.le_refl _⟩, ⟨by exact Kd.R_mono HOz3.out (fun _ hk => trivial)⟩, BKz1, BKz0, HI0, HK, HB⟩
 case round =>
  clear H'
  obtain ⟨x7_1, x8_1, x1001_1, xz0, u138019003, rfl, rfl, HA, HK1, HOz0, BKz1, BKz0, HI0, HK, HB⟩ := hrel
  cases gk with
  | zero => exact absurd HA.out (by simp [spec_randomImage.l0])
  | succ k1 =>
   have H := HA.out
   clear HA
   simp only [spec_randomImage.l0] at H
   by_cases c25 : x8_1 < (xz0.length : Int)
   ·rw [if_pos c25] at H
    have c25b0 : decide (x8_1 < (xz0.length : Int)) = true := decide_eq_true c25
    clear c25
    by_cases c26 : tz3 = 0
    ·rw [if_pos c26] at H
     have c26b0 : (tz3 == 0) = true := beq_iff_eq.mpr c26
     have c26b1 : (tz3 != 0) = false := bne_eq_false_iff_eq.mpr c26
     clear c26
     replace H := Option.bind_eq_some_iff.mp H
     obtain ⟨⟨tz6, tz13⟩, A270, H⟩ := H
     replace H : (if 0 ≤ x8_1 then (spec_randomImage.l0 k1 tz3 tz6 (wrap64 (x8_1 + 1)) s0_0 tz13 tz0 tz1 tz2 (xz0.set (x8_1 : Int).toNat tz6)) else none) = some (r1, r2, r3, r4, r5) := H
     have A27 := mk A270
     clear A270
     by_cases c28 : 0 ≤ x8_1
     ·rw [if_pos c28] at H
      have c28b0 : decide (0 ≤ x8_1) = true := decide_eq_true c28
      clear c28
      obtain ⟨yz2, hyz2⟩ : ∃ y_ : List Int, y_ = (xz0.set (x8_1 : Int).toNat tz6) := ⟨_, rfl⟩
      replace H : (spec_randomImage.l0 k1 tz3 tz6 (wrap64 (x8_1 + 1)) s0_0 tz13 tz0 tz1 tz2 yz2) = some (r1, r2, r3, r4, r5) := by (rw [hyz2]; with_reducible exact H)
      have Nyz2 := mk hyz2
      clear hyz2
      have H' := mk H
      clear H
      have hnb30 := NBz3.out
      have hnc30 := NBz0.out
      have hnb31 := NBz1.out
      have hnc31 := NBz2.out
      obtain ⟨hcz32_0, hcz32_1, hcz32_2, -⟩ := c4 BKz0.out
      have hcz32_3 : wr.cell? ⟨gbz0, 3, none⟩ = some u138019003 := (blk_cell BKz0.out 3).trans rfl
      obtain ⟨-, -, -, -, hfz32_0, hfz32_1, hfz32_2, hfz32_3⟩ := c4 BKz0.out
      obtain ⟨Ao33, co33, eo33⟩ := Kd.R_slice HOz0.out
      subst eo33
      go_wp2_with (first | ((with_reducible refine gate_callee (f := 127) rfl ?_); refine goesL_ (some 32) rfl rfl Try.func127 (by kernel_rfl) rfl #[.pointer (some ⟨g, 0, none⟩), .int .i64 256] rfl (by (try simp only [bitvec_to_nat]); rfl) ?_; (with_reducible refine (spec_reader_pick.calls k1 g s0_0 x1001_1 256 tz6 tz13 w0 _ ?side1 ?side2 A27.out).mono ?_); (case side1 => repeat (with_reducible exact HI0.out)); (case side2 => repeat (with_reducible exact HB.out)); rintro e w34 ⟨rfl, hi, hb, hk⟩; refine ⟨_, rfl, ?_⟩; have n0_ := mk (Kd.R_mono (Kd.R_keep (IsS144.apart (show IsS144 w0 _ g s0_0 x1001_1 from by exact HI0.out) HOz0.out (by decide)) hk (fun _ h => h.2)) (fun _ h => h.1)); have n1_ := mk (KeepBut.blk hk (g' := gbz1) (o := .cells #[.int .i64 0, .int .i64 0, .int .i64 0, .slice none 0 0] 27 (0, 0)) BKz1.out NBz4.out (by simp)); have n2_ := mk (KeepBut.blk hk (g' := gbz0) (o := .cells #[.int .i64 tz0, .int .i64 tz1, .int .i64 tz2, .slice Ao33 xz0.length co33] 27 (0, 0)) BKz0.out NBz1.out (by simp)); have n3_ := mk (KeepBut.trans HK.out hk (.inl rfl)); have n4_ := mk (hb); have n5_ := mk (hi); clear HOz0; clear BKz1; clear BKz0; clear HK; clear HB; clear HI0; have HOz0 := n0_; have BKz1 := n1_; have BKz0 := n2_; have HK := n3_; have HB := n4_; have HI0 := n5_; clear n0_ n1_ n2_ n3_ n4_ n5_; (try clear hb); (try clear hk); (try clear hi); obtain ⟨hcz35_0, hcz35_1, hcz35_2, hcz35_3, hfz35_0, hfz35_1, hfz35_2, hfz35_3⟩ := c4 BKz0.out; have p29 : 0 ≤ (x8_1 : Int) := of_decide_eq_true (by (with_reducible assumption)); have q29 : (x8_1 : Int) < ((xz0.length : Int) : Int) := of_decide_eq_true (by (with_reducible assumption)); obtain ⟨go29, co29, eo29, gb29, gl29, cl29, HG29⟩ := Kd.R_form HOz0.out (by omega); (cases eo29); have GB29 := mk gb29; have GG29 := mk HG29; clear gb29 gl29 HG29; obtain ⟨hx29_0, hf29_0⟩ := Kd.R_celln 0 HOz0.out (x8_1 : Int) p29 q29; replace p29 := eq_true p29; replace q29 := eq_true q29; obtain ⟨hy36_, hz36_⟩ := Kd.R_celln 0 HOz0.out (x8_1 : Int) (of_decide_eq_true (by (with_reducible assumption))) (of_decide_eq_true (by (with_reducible assumption))); have HP36 := Kd.R_putg HOz0.out (x8_1 : Int) tz6) | ((with_reducible refine gate_store (t := 3) (p := 50) rfl ?_); refine store_event (t := 3) (p := 50) (v := ?vo_w37) (w1 := (w34.setCell ⟨go29, (x8_1 : Int).toNat, none⟩ (.int .i64 tz6))) ?hg ?ho ?hn ?hr ?_; (case ho => rfl); (case hg => rfl); (case hn => rfl); (case hr => (go_simp; done)); intro w37 hw; have hg : w34.grownBy w37 (some go29) := (by rw [hw]; exact HP36.2); have hp_ : Kd.R (Kd.int .i64) 3 w37 w.heap.size (fun _ => True) (.slice (some ⟨go29, 0, none⟩) xz0.length co33) yz2 := (by rw [hw, Nyz2.out]; exact HP36.1); clear HP36; have n0_ := mk (hp_); have n1_ := mk (blk_grown (g := gbz1) (o := .cells #[.int .i64 0, .int .i64 0, .int .i64 0, .slice none 0 0] 27 (0, 0)) BKz1.out hg (Kd.R_ne HOz0.out BKz1.out (by decide))); have n2_ := mk (blk_grown (g := gbz0) (o := .cells #[.int .i64 tz0, .int .i64 tz1, .int .i64 tz2, .slice (some ⟨go29, 0, none⟩) xz0.length co33] 27 (0, 0)) BKz0.out hg (Kd.R_ne HOz0.out BKz0.out (by decide))); have n3_ := mk (IsS144.grown HI0.out hg (IsS144.own_ne HI0.out HOz0.out (by decide))); have n4_ := mk ((by rw [hw]; exact below_set HB.out (Nat.le_trans HL.out GB29.out) : Below w0.heap.size w0 w37)); have n5_ := mk (KeepBut.trans HK.out (KeepBut.of_grown hg g) (Kd.R_base2 HOz0.out)); clear HOz0; clear BKz1; clear BKz0; clear HI0; clear HB; clear HK; have HOz0 := n0_; have BKz1 := n1_; have BKz0 := n2_; have HI0 := n3_; have HB := n4_; have HK := n5_; clear n0_ n1_ n2_ n3_ n4_ n5_; clear hg hw hp_))
      go_roundg k1
      case measure => have := HK1.out; omega
      case rel => exact ⟨(tz6), (wrap64 (x8_1 + 1)), (tz13), (yz2), (.slice (some ⟨go29, 0, none⟩) xz0.length co33), (by rfl), (by rfl), H', ⟨by have := HK1.out; omega⟩, HOz0, BKz1, BKz0, HI0, HK, HB⟩
     rw [if_neg c28] at H
     exact absurd H (by simp)
    rw [if_neg c26] at H
    have c26b0 : (tz3 == 0) = false := beq_eq_false_iff_ne.mpr c26
    have c26b1 : (tz3 != 0) = true := bne_iff_ne.mpr c26
    by_cases c38 : tz3 = 1
    ·rw [if_pos c38] at H
     have c38b0 : (tz3 == 1) = true := beq_iff_eq.mpr c38
     have c38b1 : (tz3 != 1) = false := bne_eq_false_iff_eq.mpr c38
     clear c38
     replace H := Option.bind_eq_some_iff.mp H
     obtain ⟨⟨tz7, tz14⟩, A390, H⟩ := H
     replace H : (if 0 ≤ x8_1 then (spec_randomImage.l0 k1 tz3 (Int.tmod (wrap64 ((wrap64 (x7_1 + tz7)) + 254)) 256) (wrap64 (x8_1 + 1)) s0_0 tz14 tz0 tz1 tz2 (xz0.set (x8_1 : Int).toNat (Int.tmod (wrap64 ((wrap64 (x7_1 + tz7)) + 254)) 256))) else none) = some (r1, r2, r3, r4, r5) := H
     have A39 := mk A390
     clear A390
     by_cases c40 : 0 ≤ x8_1
     ·rw [if_pos c40] at H
      have c40b0 : decide (0 ≤ x8_1) = true := decide_eq_true c40
      clear c40
      obtain ⟨yz3, hyz3⟩ : ∃ y_ : List Int, y_ = (xz0.set (x8_1 : Int).toNat (Int.tmod (wrap64 ((wrap64 (x7_1 + tz7)) + 254)) 256)) := ⟨_, rfl⟩
      replace H : (spec_randomImage.l0 k1 tz3 (Int.tmod (wrap64 ((wrap64 (x7_1 + tz7)) + 254)) 256) (wrap64 (x8_1 + 1)) s0_0 tz14 tz0 tz1 tz2 yz3) = some (r1, r2, r3, r4, r5) := by (rw [hyz3]; with_reducible exact H)
      have Nyz3 := mk hyz3
      clear hyz3
      have H' := mk H
      clear H
      have hnb42 := NBz3.out
      have hnc42 := NBz0.out
      have hnb43 := NBz1.out
      have hnc43 := NBz2.out
      obtain ⟨hcz44_0, hcz44_1, hcz44_2, -⟩ := c4 BKz0.out
      have hcz44_3 : wr.cell? ⟨gbz0, 3, none⟩ = some u138019003 := (blk_cell BKz0.out 3).trans rfl
      obtain ⟨-, -, -, -, hfz44_0, hfz44_1, hfz44_2, hfz44_3⟩ := c4 BKz0.out
      obtain ⟨Ao45, co45, eo45⟩ := Kd.R_slice HOz0.out
      subst eo45
      go_wp2_with (first | ((with_reducible refine gate_callee (f := 127) rfl ?_); refine goesL_ (some 37) rfl rfl Try.func127 (by kernel_rfl) rfl #[.pointer (some ⟨g, 0, none⟩), .int .i64 5] rfl (by (try simp only [bitvec_to_nat]); rfl) ?_; (with_reducible refine (spec_reader_pick.calls k1 g s0_0 x1001_1 5 tz7 tz14 w0 _ ?side1 ?side2 A39.out).mono ?_); (case side1 => repeat (with_reducible exact HI0.out)); (case side2 => repeat (with_reducible exact HB.out)); rintro e w46 ⟨rfl, hi, hb, hk⟩; refine ⟨_, rfl, ?_⟩; have n0_ := mk (Kd.R_mono (Kd.R_keep (IsS144.apart (show IsS144 w0 _ g s0_0 x1001_1 from by exact HI0.out) HOz0.out (by decide)) hk (fun _ h => h.2)) (fun _ h => h.1)); have n1_ := mk (KeepBut.blk hk (g' := gbz1) (o := .cells #[.int .i64 0, .int .i64 0, .int .i64 0, .slice none 0 0] 27 (0, 0)) BKz1.out NBz4.out (by simp)); have n2_ := mk (KeepBut.blk hk (g' := gbz0) (o := .cells #[.int .i64 tz0, .int .i64 tz1, .int .i64 tz2, .slice Ao45 xz0.length co45] 27 (0, 0)) BKz0.out NBz1.out (by simp)); have n3_ := mk (KeepBut.trans HK.out hk (.inl rfl)); have n4_ := mk (hb); have n5_ := mk (hi); clear HOz0; clear BKz1; clear BKz0; clear HK; clear HB; clear HI0; have HOz0 := n0_; have BKz1 := n1_; have BKz0 := n2_; have HK := n3_; have HB := n4_; have HI0 := n5_; clear n0_ n1_ n2_ n3_ n4_ n5_; (try clear hb); (try clear hk); (try clear hi); obtain ⟨hcz47_0, hcz47_1, hcz47_2, hcz47_3, hfz47_0, hfz47_1, hfz47_2, hfz47_3⟩ := c4 BKz0.out; have p41 : 0 ≤ (x8_1 : Int) := of_decide_eq_true (by (with_reducible assumption)); have q41 : (x8_1 : Int) < ((xz0.length : Int) : Int) := of_decide_eq_true (by (with_reducible assumption)); obtain ⟨go41, co41, eo41, gb41, gl41, cl41, HG41⟩ := Kd.R_form HOz0.out (by omega); (cases eo41); have GB41 := mk gb41; have GG41 := mk HG41; clear gb41 gl41 HG41; obtain ⟨hx41_0, hf41_0⟩ := Kd.R_celln 0 HOz0.out (x8_1 : Int) p41 q41; replace p41 := eq_true p41; replace q41 := eq_true q41; obtain ⟨hy48_, hz48_⟩ := Kd.R_celln 0 HOz0.out (x8_1 : Int) (of_decide_eq_true (by (with_reducible assumption))) (of_decide_eq_true (by (with_reducible assumption))); have HP48 := Kd.R_putg HOz0.out (x8_1 : Int) (Int.tmod (wrap64 ((wrap64 (x7_1 + tz7)) + 254)) 256)) | ((with_reducible refine gate_store (t := 3) (p := 50) rfl ?_); refine store_event (t := 3) (p := 50) (v := ?vo_w49) (w1 := (w46.setCell ⟨go41, (x8_1 : Int).toNat, none⟩ (.int .i64 (Int.tmod (wrap64 ((wrap64 (x7_1 + tz7)) + 254)) 256)))) ?hg ?ho ?hn ?hr ?_; (case ho => rfl); (case hg => rfl); (case hn => rfl); (case hr => (go_simp; done)); intro w49 hw; have hg : w46.grownBy w49 (some go41) := (by rw [hw]; exact HP48.2); have hp_ : Kd.R (Kd.int .i64) 3 w49 w.heap.size (fun _ => True) (.slice (some ⟨go41, 0, none⟩) xz0.length co45) yz3 := (by rw [hw, Nyz3.out]; exact HP48.1); clear HP48; have n0_ := mk (hp_); have n1_ := mk (blk_grown (g := gbz1) (o := .cells #[.int .i64 0, .int .i64 0, .int .i64 0, .slice none 0 0] 27 (0, 0)) BKz1.out hg (Kd.R_ne HOz0.out BKz1.out (by decide))); have n2_ := mk (blk_grown (g := gbz0) (o := .cells #[.int .i64 tz0, .int .i64 tz1, .int .i64 tz2, .slice (some ⟨go41, 0, none⟩) xz0.length co45] 27 (0, 0)) BKz0.out hg (Kd.R_ne HOz0.out BKz0.out (by decide))); have n3_ := mk (IsS144.grown HI0.out hg (IsS144.own_ne HI0.out HOz0.out (by decide))); have n4_ := mk ((by rw [hw]; exact below_set HB.out (Nat.le_trans HL.out GB41.out) : Below w0.heap.size w0 w49)); have n5_ := mk (KeepBut.trans HK.out (KeepBut.of_grown hg g) (Kd.R_base2 HOz0.out)); clear HOz0; clear BKz1; clear BKz0; clear HI0; clear HB; clear HK; have HOz0 := n0_; have BKz1 := n1_; have BKz0 := n2_; have HI0 := n3_; have HB := n4_; have HK := n5_; clear n0_ n1_ n2_ n3_ n4_ n5_; clear hg hw hp_))
      go_roundg k1
      case measure => have := HK1.out; omega
      case rel => exact ⟨(Int.tmod (wrap64 ((wrap64 (x7_1 + tz7)) + 254)) 256), (wrap64 (x8_1 + 1)), (tz14), (yz3), (.slice (some ⟨go41, 0, none⟩) xz0.length co45), (by rfl), (by rfl), H', ⟨by have := HK1.out; omega⟩, HOz0, BKz1, BKz0, HI0, HK, HB⟩
     rw [if_neg c40] at H
     exact absurd H (by simp)
    rw [if_neg c38] at H
    have c38b0 : (tz3 == 1) = false := beq_eq_false_iff_ne.mpr c38
    have c38b1 : (tz3 != 1) = true := bne_iff_ne.mpr c38
    by_cases c50 : tz3 = 2
    ·rw [if_pos c50] at H
     have c50b0 : (tz3 == 2) = true := beq_iff_eq.mpr c50
     have c50b1 : (tz3 != 2) = false := bne_eq_false_iff_eq.mpr c50
     clear c50
     replace H := Option.bind_eq_some_iff.mp H
     obtain ⟨⟨tz8, tz15⟩, A510, H⟩ := H
     replace H : (if 0 ≤ x8_1 then (spec_randomImage.l0 k1 tz3 (wrap64 (60 * tz8)) (wrap64 (x8_1 + 1)) s0_0 tz15 tz0 tz1 tz2 (xz0.set (x8_1 : Int).toNat (wrap64 (60 * tz8)))) else none) = some (r1, r2, r3, r4, r5) := H
     have A51 := mk A510
     clear A510
     by_cases c52 : 0 ≤ x8_1
     ·rw [if_pos c52] at H
      have c52b0 : decide (0 ≤ x8_1) = true := decide_eq_true c52
      clear c52
      obtain ⟨yz4, hyz4⟩ : ∃ y_ : List Int, y_ = (xz0.set (x8_1 : Int).toNat (wrap64 (60 * tz8))) := ⟨_, rfl⟩
      replace H : (spec_randomImage.l0 k1 tz3 (wrap64 (60 * tz8)) (wrap64 (x8_1 + 1)) s0_0 tz15 tz0 tz1 tz2 yz4) = some (r1, r2, r3, r4, r5) := by (rw [hyz4]; with_reducible exact H)
      have Nyz4 := mk hyz4
      clear hyz4
      have H' := mk H
      clear H
      have hnb54 := NBz3.out
      have hnc54 := NBz0.out
      have hnb55 := NBz1.out
      have hnc55 := NBz2.out
      obtain ⟨hcz56_0, hcz56_1, hcz56_2, -⟩ := c4 BKz0.out
      have hcz56_3 : wr.cell? ⟨gbz0, 3, none⟩ = some u138019003 := (blk_cell BKz0.out 3).trans rfl
      obtain ⟨-, -, -, -, hfz56_0, hfz56_1, hfz56_2, hfz56_3⟩ := c4 BKz0.out
      obtain ⟨Ao57, co57, eo57⟩ := Kd.R_slice HOz0.out
      subst eo57
      go_wp2_with (first | ((with_reducible refine gate_callee (f := 127) rfl ?_); refine goesL_ (some 44) rfl rfl Try.func127 (by kernel_rfl) rfl #[.pointer (some ⟨g, 0, none⟩), .int .i64 4] rfl (by (try simp only [bitvec_to_nat]); rfl) ?_; (with_reducible refine (spec_reader_pick.calls k1 g s0_0 x1001_1 4 tz8 tz15 w0 _ ?side1 ?side2 A51.out).mono ?_); (case side1 => repeat (with_reducible exact HI0.out)); (case side2 => repeat (with_reducible exact HB.out)); rintro e w58 ⟨rfl, hi, hb, hk⟩; refine ⟨_, rfl, ?_⟩; have n0_ := mk (Kd.R_mono (Kd.R_keep (IsS144.apart (show IsS144 w0 _ g s0_0 x1001_1 from by exact HI0.out) HOz0.out (by decide)) hk (fun _ h => h.2)) (fun _ h => h.1)); have n1_ := mk (KeepBut.blk hk (g' := gbz1) (o := .cells #[.int .i64 0, .int .i64 0, .int .i64 0, .slice none 0 0] 27 (0, 0)) BKz1.out NBz4.out (by simp)); have n2_ := mk (KeepBut.blk hk (g' := gbz0) (o := .cells #[.int .i64 tz0, .int .i64 tz1, .int .i64 tz2, .slice Ao57 xz0.length co57] 27 (0, 0)) BKz0.out NBz1.out (by simp)); have n3_ := mk (KeepBut.trans HK.out hk (.inl rfl)); have n4_ := mk (hb); have n5_ := mk (hi); clear HOz0; clear BKz1; clear BKz0; clear HK; clear HB; clear HI0; have HOz0 := n0_; have BKz1 := n1_; have BKz0 := n2_; have HK := n3_; have HB := n4_; have HI0 := n5_; clear n0_ n1_ n2_ n3_ n4_ n5_; (try clear hb); (try clear hk); (try clear hi); obtain ⟨hcz59_0, hcz59_1, hcz59_2, hcz59_3, hfz59_0, hfz59_1, hfz59_2, hfz59_3⟩ := c4 BKz0.out; have p53 : 0 ≤ (x8_1 : Int) := of_decide_eq_true (by (with_reducible assumption)); have q53 : (x8_1 : Int) < ((xz0.length : Int) : Int) := of_decide_eq_true (by (with_reducible assumption)); obtain ⟨go53, co53, eo53, gb53, gl53, cl53, HG53⟩ := Kd.R_form HOz0.out (by omega); (cases eo53); have GB53 := mk gb53; have GG53 := mk HG53; clear gb53 gl53 HG53; obtain ⟨hx53_0, hf53_0⟩ := Kd.R_celln 0 HOz0.out (x8_1 : Int) p53 q53; replace p53 := eq_true p53; replace q53 := eq_true q53; obtain ⟨hy60_, hz60_⟩ := Kd.R_celln 0 HOz0.out (x8_1 : Int) (of_decide_eq_true (by (with_reducible assumption))) (of_decide_eq_true (by (with_reducible assumption))); have HP60 := Kd.R_putg HOz0.out (x8_1 : Int) (wrap64 (60 * tz8))) | ((with_reducible refine gate_store (t := 3) (p := 50) rfl ?_); refine store_event (t := 3) (p := 50) (v := ?vo_w61) (w1 := (w58.setCell ⟨go53, (x8_1 : Int).toNat, none⟩ (.int .i64 (wrap64 (60 * tz8))))) ?hg ?ho ?hn ?hr ?_; (case ho => rfl); (case hg => rfl); (case hn => rfl); (case hr => (go_simp; done)); intro w61 hw; have hg : w58.grownBy w61 (some go53) := (by rw [hw]; exact HP60.2); have hp_ : Kd.R (Kd.int .i64) 3 w61 w.heap.size (fun _ => True) (.slice (some ⟨go53, 0, none⟩) xz0.length co57) yz4 := (by rw [hw, Nyz4.out]; exact HP60.1); clear HP60; have n0_ := mk (hp_); have n1_ := mk (blk_grown (g := gbz1) (o := .cells #[.int .i64 0, .int .i64 0, .int .i64 0, .slice none 0 0] 27 (0, 0)) BKz1.out hg (Kd.R_ne HOz0.out BKz1.out (by decide))); have n2_ := mk (blk_grown (g := gbz0) (o := .cells #[.int .i64 tz0, .int .i64 tz1, .int .i64 tz2, .slice (some ⟨go53, 0, none⟩) xz0.length co57] 27 (0, 0)) BKz0.out hg (Kd.R_ne HOz0.out BKz0.out (by decide))); have n3_ := mk (IsS144.grown HI0.out hg (IsS144.own_ne HI0.out HOz0.out (by decide))); have n4_ := mk ((by rw [hw]; exact below_set HB.out (Nat.le_trans HL.out GB53.out) : Below w0.heap.size w0 w61)); have n5_ := mk (KeepBut.trans HK.out (KeepBut.of_grown hg g) (Kd.R_base2 HOz0.out)); clear HOz0; clear BKz1; clear BKz0; clear HI0; clear HB; clear HK; have HOz0 := n0_; have BKz1 := n1_; have BKz0 := n2_; have HI0 := n3_; have HB := n4_; have HK := n5_; clear n0_ n1_ n2_ n3_ n4_ n5_; clear hg hw hp_))
      go_roundg k1
      case measure => have := HK1.out; omega
      case rel => exact ⟨(wrap64 (60 * tz8)), (wrap64 (x8_1 + 1)), (tz15), (yz4), (.slice (some ⟨go53, 0, none⟩) xz0.length co57), (by rfl), (by rfl), H', ⟨by have := HK1.out; omega⟩, HOz0, BKz1, BKz0, HI0, HK, HB⟩
     rw [if_neg c52] at H
     exact absurd H (by simp)
    rw [if_neg c50] at H
    have c50b0 : (tz3 == 2) = false := beq_eq_false_iff_ne.mpr c50
    have c50b1 : (tz3 != 2) = true := bne_iff_ne.mpr c50
    by_cases c62 : 0 ≤ x8_1
    ·rw [if_pos c62] at H
     have c62b0 : decide (0 ≤ x8_1) = true := decide_eq_true c62
     clear c62
     obtain ⟨yz5, hyz5⟩ : ∃ y_ : List Int, y_ = (xz0.set (x8_1 : Int).toNat x7_1) := ⟨_, rfl⟩
     replace H : (spec_randomImage.l0 k1 tz3 x7_1 (wrap64 (x8_1 + 1)) s0_0 x1001_1 tz0 tz1 tz2 yz5) = some (r1, r2, r3, r4, r5) := by (rw [hyz5]; with_reducible exact H)
     have Nyz5 := mk hyz5
     clear hyz5
     have H' := mk H
     clear H
     have hnb64 := NBz3.out
     have hnc64 := NBz0.out
     have hnb65 := NBz1.out
     have hnc65 := NBz2.out
     obtain ⟨hcz66_0, hcz66_1, hcz66_2, -⟩ := c4 BKz0.out
     have hcz66_3 : wr.cell? ⟨gbz0, 3, none⟩ = some u138019003 := (blk_cell BKz0.out 3).trans rfl
     obtain ⟨-, -, -, -, hfz66_0, hfz66_1, hfz66_2, hfz66_3⟩ := c4 BKz0.out
     obtain ⟨Ao67, co67, eo67⟩ := Kd.R_slice HOz0.out
     subst eo67
     have p63 : 0 ≤ (x8_1 : Int) := of_decide_eq_true (by (with_reducible assumption))
     have q63 : (x8_1 : Int) < ((xz0.length : Int) : Int) := of_decide_eq_true (by (with_reducible assumption))
     obtain ⟨go63, co63, eo63, gb63, gl63, cl63, HG63⟩ := Kd.R_form HOz0.out (by omega)
     (cases eo63)
     have GB63 := mk gb63
     have GG63 := mk HG63
     clear gb63 gl63 HG63
     obtain ⟨hx63_0, hf63_0⟩ := Kd.R_celln 0 HOz0.out (x8_1 : Int) p63 q63
     replace p63 := eq_true p63
     replace q63 := eq_true q63
     have HP68 := Kd.R_putg HOz0.out (x8_1 : Int) x7_1
     go_wp2_with (first | ((with_reducible refine gate_store (t := 3) (p := 50) rfl ?_); refine store_event (t := 3) (p := 50) (v := ?vo_w69) (w1 := (wr.setCell ⟨go63, (x8_1 : Int).toNat, none⟩ (.int .i64 x7_1))) ?hg ?ho ?hn ?hr ?_; (case ho => rfl); (case hg => rfl); (case hn => rfl); (case hr => (go_simp; done)); intro w69 hw; have hg : wr.grownBy w69 (some go63) := (by rw [hw]; exact HP68.2); have hp_ : Kd.R (Kd.int .i64) 3 w69 w.heap.size (fun _ => True) (.slice (some ⟨go63, 0, none⟩) xz0.length co67) yz5 := (by rw [hw, Nyz5.out]; exact HP68.1); clear HP68; have n0_ := mk (hp_); have n1_ := mk (blk_grown (g := gbz1) (o := .cells #[.int .i64 0, .int .i64 0, .int .i64 0, .slice none 0 0] 27 (0, 0)) BKz1.out hg (Kd.R_ne HOz0.out BKz1.out (by decide))); have n2_ := mk (blk_grown (g := gbz0) (o := .cells #[.int .i64 tz0, .int .i64 tz1, .int .i64 tz2, .slice (some ⟨go63, 0, none⟩) xz0.length co67] 27 (0, 0)) BKz0.out hg (Kd.R_ne HOz0.out BKz0.out (by decide))); have n3_ := mk (IsS144.grown HI0.out hg (IsS144.own_ne HI0.out HOz0.out (by decide))); have n4_ := mk ((by rw [hw]; exact below_set HB.out (Nat.le_trans HL.out GB63.out) : Below w0.heap.size w0 w69)); have n5_ := mk (KeepBut.trans HK.out (KeepBut.of_grown hg g) (Kd.R_base2 HOz0.out)); clear HOz0; clear BKz1; clear BKz0; clear HI0; clear HB; clear HK; have HOz0 := n0_; have BKz1 := n1_; have BKz0 := n2_; have HI0 := n3_; have HB := n4_; have HK := n5_; clear n0_ n1_ n2_ n3_ n4_ n5_; clear hg hw hp_))
     go_roundg k1
     case measure => have := HK1.out; omega
     case rel => exact ⟨(x7_1), (wrap64 (x8_1 + 1)), (x1001_1), (yz5), (.slice (some ⟨go63, 0, none⟩) xz0.length co67), (by rfl), (by rfl), H', ⟨by have := HK1.out; omega⟩, HOz0, BKz1, BKz0, HI0, HK, HB⟩
    rw [if_neg c62] at H
    exact absurd H (by simp)
   rw [if_neg c25] at H
   have c25b0 : decide (x8_1 < (xz0.length : Int)) = false := decide_eq_false c25
   clear c25
   simp only [Option.some.injEq, Prod.mk.injEq] at H
   obtain ⟨rfl, rfl, rfl, rfl, rfl⟩ := H
   have hnb70 := NBz3.out
   have hnc70 := NBz0.out
   have hnb71 := NBz1.out
   have hnc71 := NBz2.out
   obtain ⟨hcz72_0, hcz72_1, hcz72_2, -⟩ := c4 BKz0.out
   have hcz72_3 : wr.cell? ⟨gbz0, 3, none⟩ = some u138019003 := (blk_cell BKz0.out 3).trans rfl
   obtain ⟨-, -, -, -, hfz72_0, hfz72_1, hfz72_2, hfz72_3⟩ := c4 BKz0.out
   obtain ⟨Ao73, co73, eo73⟩ := Kd.R_slice HOz0.out
   subst eo73
   have hnb74 := NBz4.out
   have hnc74 := NBz5.out
   obtain ⟨hcz75_0, hcz75_1, hcz75_2, hcz75_3, hfz75_0, hfz75_1, hfz75_2, hfz75_3⟩ := c4 BKz1.out
   go_wp2
   refine bodyPost_ret (results_cell_row rfl _ _ gbz1 27 #[.int .i64 tz0, .int .i64 tz1, .int .i64 tz2, .slice Ao73 xz0.length co73] (0, 0) _ rfl (by refine blk_put (cs := #[.int .i64 tz0, .int .i64 tz1, .int .i64 tz2, .slice none 0 0]) ?_ 3 _ rfl; refine blk_put (cs := #[.int .i64 tz0, .int .i64 tz1, .int .i64 0, .slice none 0 0]) ?_ 2 _ rfl; refine blk_put (cs := #[.int .i64 tz0, .int .i64 0, .int .i64 0, .slice none 0 0]) ?_ 1 _ rfl; refine blk_put (cs := #[.int .i64 0, .int .i64 0, .int .i64 0, .slice none 0 0]) ?_ 0 _ rfl; exact BKz1.out) Try.underlying27 rfl (by kernel_rfl)) rfl ?_
   exact ⟨_, by rfl, by exact Kd.R_mono (Kd.R_far (p := ⟨gbz1, 3, none⟩) (Kd.R_far (p := ⟨gbz1, 2, none⟩) (Kd.R_far (p := ⟨gbz1, 1, none⟩) (Kd.R_far (p := ⟨gbz1, 0, none⟩) (Kd.R_types HOz0.out BKz1.out (by decide)) (fun _ hk => hk.2) (.int .i64 tz0)) (fun _ hk => hk.2) (.int .i64 tz1)) (fun _ hk => hk.2) (.int .i64 tz2)) (fun _ hk => hk.2) (.slice Ao73 xz0.length co73)) (fun _ hk => trivial), by repeat (with_reducible first | exact HI0.out | refine IsS144.far ?_ NBz5.out _), by repeat (with_reducible first | exact HB.out | refine below_set ?_ GEz0.out), by repeat (with_reducible first | exact HK.out | refine keep_far ?_ GWz0.out _)⟩


def spec_anyPlanes.f (k : Nat) (s0_0 : List Int) (s0_1 : Int) : Option (Int × Int) := (spec_reader_one.f k s0_0 s0_1 (([1, 3, 1, 4, 2] : List Int))).bind fun bt139004 => (some (bt139004.1, bt139004.2))
theorem spec_anyPlanes.calls (k : Nat) (g : Nat) (s0_0 : List Int) (s0_1 : Int) (r1 : Int) (r2 : Int) (w0 w : World) (hI : IsS144 w0 w g s0_0 s0_1) (hB : Below w0.heap.size w0 w) (h : spec_anyPlanes.f k s0_0 s0_1 = some (r1, r2)) :
  Calls Try.prog 138 #[.pointer (some ⟨g, 0, none⟩)] w fun e w' => e = .returned (.int .i64 r1) ∧ IsS144 w0 w' g s0_0 r2 ∧ Below w0.heap.size w0 w' ∧ KeepBut w w' g none := by
 have HI0 := mk hI
 have HK := mk (KeepBut.refl w g none)
 have HL := mk hB.size
 clear hI
 have HW0 := mk hB.size
 have HB := mk hB
 clear hB
 have H : ((spec_reader_one.f k s0_0 s0_1 (([1, 3, 1, 4, 2] : List Int))).bind fun bt139004 => (some (bt139004.1, bt139004.2))) = some (r1, r2) := h
 clear h
 obtain ⟨y139001, hy139001⟩ : ∃ y_ : List Int, y_ = (([1, 3, 1, 4, 2] : List Int)) := ⟨_, rfl⟩
 replace H : ((spec_reader_one.f k s0_0 s0_1 y139001).bind fun bt139004 => (some (bt139004.1, bt139004.2))) = some (r1, r2) := by first | (rw [hy139001]; with_reducible exact H) | (have H2_ := (Option.bind_some _ _).symm.trans H; rw [hy139001]; with_reducible exact H2_) | (have H2_ := (Option.bind_some _ _).symm.trans H; with_reducible exact H2_) | with_reducible exact H | (rw [hy139001]; exact H) | exact H
 have Ny139001 := mk hy139001
 clear hy139001
 replace H := Option.bind_eq_some_iff.mp H
 obtain ⟨⟨t139004, t139005⟩, A20, H⟩ := H
 replace H : (some (t139004, t139005)) = some (r1, r2) := H
 have A2 := mk A20
 clear A20
 simp only [Option.some.injEq, Prod.mk.injEq] at H
 obtain ⟨rfl, rfl⟩ := H
 go_enter Try.func138, Try.ntmps138
 go_wp2_with (first | ((with_reducible refine gate_dst (N := 4) rfl ?_); refine Kd.R_lit (Kd.int .i64) _ 3 ?hg (N := 4) ?hd (xs := ([1, 3, 1, 4, 2] : List Int)) (inner := [.int .i64 1, .int .i64 3, .int .i64 1, .int .i64 4, .int .i64 2]) (ok := fun _ => True) (okp := fun _ => True) ?hr ?hp (fun _ hk => hk) trivial (Below.refl _ _) (Nat.le_refl _) (by simp) ?_; (case hd => rfl); (case hg => rfl); (case hr => first | (go_simp; done) | (go_simp; rfl)); (case hp => exact (Reps.one (show Kd.M (Kd.int .i64) _ _ _ 1 [.int .i64 1] from rfl) (Reps.one (show Kd.M (Kd.int .i64) _ _ _ 3 [.int .i64 3] from rfl) (Reps.one (show Kd.M (Kd.int .i64) _ _ _ 1 [.int .i64 1] from rfl) (Reps.one (show Kd.M (Kd.int .i64) _ _ _ 4 [.int .i64 4] from rfl) (Reps.one (show Kd.M (Kd.int .i64) _ _ _ 2 [.int .i64 2] from rfl) (Reps.none _ _))))))); intro v139002 w3 ho4 hb hg_ hnew_; clear hg_ hnew_; (first | rw [← Ny139001.out] at ho4 | (simp only [Int.reduceToNat] at ho4; rw [← Ny139001.out] at ho4)); have n0_ := mk (Kd.R_lower ho4 (keep_size (w := w) (g := g) (row := none) (by repeat (first | (with_reducible first | exact HK.out | apply KeepBut.set_ | apply keep_drewN | apply keep_drew | apply keep_alloc) | exact HK.out)))); have n1_ := mk (IsS144.below (by repeat (first | (with_reducible first | exact HI0.out | apply IsS144.alloc | apply IsS144.drewN | apply IsS144.drew | apply IsS144.set_1) | exact HI0.out)) hb); have n2_ := mk (KeepBut.trans (by repeat (first | (with_reducible first | exact HK.out | apply KeepBut.set_ | apply keep_drewN | apply keep_drew | apply keep_alloc) | exact HK.out)) (KeepBut.of_below hb g none) (.inl rfl)); have n3_ := mk (below_step (by repeat (first | (with_reducible first | exact HB.out | apply below_alloc | apply pw_below_drewN | apply below_drew1 | refine below_set ?_ (IsS144.ge HI0.out)) | exact HB.out)) hb); clear HI0; clear HK; clear HB; have HO139003 := n0_; have HI0 := n1_; have HK := n2_; have HB := n3_; clear n0_ n1_ n2_ n3_; clear hb ho4; obtain ⟨Ao5, co5, eo5⟩ := Kd.R_slice HO139003.out; subst eo5) | ((with_reducible refine gate_callee (f := 147) rfl ?_); refine goesL_ (some 5) rfl rfl Try.func147 (by kernel_rfl) rfl #[.pointer (some ⟨g, 0, none⟩), .slice Ao5 y139001.length co5] rfl (by (try simp only [List.map_toArray, List.map_cons, List.map_nil]); first | done | rfl | (simp only [List.length_drop, List.length_take]; rfl)) ?_; (with_reducible refine (spec_reader_one.calls k g s0_0 s0_1 _ _ y139001 t139004 t139005 w0 _ ?side1 ?side2 ?side3 ?side4 ?side5 A2.out).mono ?_); (case side1 => repeat (first | (with_reducible first | exact HI0.out | apply IsS144.alloc | apply IsS144.drewN | apply IsS144.drew | apply IsS144.set_1) | exact HI0.out)); (case side2 => repeat (first | (with_reducible first | exact HB.out | apply below_alloc | apply pw_below_drewN | apply below_drew1 | refine below_set ?_ (IsS144.ge HI0.out)) | exact HB.out)); (case side3 => repeat (first | exact (Kd.R_reads' HO139003.out).2.2 | (with_reducible refine Kd.C_alloc ?_ _) | (with_reducible refine Kd.C_drewN ?_ _) | (with_reducible refine Kd.C_drew ?_))); (case side4 => exact (Kd.R_reads' HO139003.out).2.1); (case side5 => exact far_slice (IsS144.own_ne HI0.out HO139003.out (by decide))); rintro e w6 ⟨rfl, hi, hb, hk⟩; refine ⟨_, rfl, ?_⟩; have n0_ := mk (Kd.R_mono (Kd.R_keep (IsS144.apart (show IsS144 w0 _ g s0_0 s0_1 from by repeat (first | (with_reducible first | exact HI0.out | apply IsS144.alloc | apply IsS144.drewN | apply IsS144.drew | apply IsS144.set_1) | exact HI0.out)) (by (with_reducible repeat (first | apply Kd.R_alloc | apply Kd.R_drewN | apply Kd.R_drew)); exact HO139003.out) (by decide)) hk (fun _ h => h.2)) (fun _ h => h.1)); have n1_ := mk (KeepBut.trans (by repeat (first | (with_reducible first | exact HK.out | apply KeepBut.set_ | apply keep_drewN | apply keep_drew | apply keep_alloc) | exact HK.out)) hk (.inl rfl)); have n2_ := mk (hb); have n3_ := mk (hi); clear HO139003; clear HK; clear HB; clear HI0; have HO139003 := n0_; have HK := n1_; have HB := n2_; have HI0 := n3_; clear n0_ n1_ n2_ n3_; (try clear hb); (try clear hb2); (try clear hk); (try clear hi)))
 go_ret
 exact ⟨by first | rfl | (simp [errW_none, errW_some] <;> rfl) | (simp [*, errW_none, errW_some] <;> rfl), by repeat (first | (with_reducible first | exact HI0.out | apply IsS144.alloc | apply IsS144.drewN | apply IsS144.drew | apply IsS144.set_1) | exact HI0.out), by repeat (first | (with_reducible first | exact HB.out | apply below_alloc | apply pw_below_drewN | apply below_drew1 | refine below_set ?_ (IsS144.ge HI0.out)) | exact HB.out), by repeat (first | (with_reducible first | exact HK.out | apply KeepBut.set_ | apply keep_drewN | apply keep_drew | apply keep_alloc) | exact HK.out)⟩


/- A row that may begin inside its block, and whose block is younger than was told. -/

theorem qraise {α : Type} {d : Kd α} {e : Nat} {W : World} {b b' : Nat} {ok : Nat → Prop} {v : Value} {xs : List α} (hM : ∀ w ok x cs, d.M w b ok x cs → d.M w b' ok x cs) (h : d.Q e W b ok v xs) (hb : ∀ k, v.ownBlock = some k → b' ≤ k) : d.Q e W b' ok v xs := by
  obtain ⟨h0, inner, ho, hr⟩ := h
  refine ⟨h0, inner, ?_, hr.imp_ (fun _ _ hp => hM _ _ _ _ hp)⟩
  obtain ⟨h1, h2⟩ := ho
  refine ⟨h1, ?_⟩
  rcases h2 with ⟨hz, A, rfl, hA⟩ | ⟨g, off, cap, cur, rfl, _, r⟩
  · refine .inl ⟨hz, A, rfl, fun a ha => ⟨?_, (hA a ha).2⟩⟩
    subst ha
    exact hb a.block (by simp [Value.ownBlock])
  · exact .inr ⟨g, off, cap, cur, rfl, hb g (by simp [Value.ownBlock]), r⟩

def spec_anyImage.f (k : Nat) (s0_0 : List Int) (s0_1 : Int) : Option (Int × Int × Int × List Int × Int) := (spec_anyPlanes.f k s0_0 s0_1).bind fun btz2 => ((spec_randomImage.f k s0_0 btz2.2 btz2.1).bind fun btz1 => ((spec_spoilImage.f k s0_0 btz1.2.2.2.2 btz1.1 btz1.2.1 btz1.2.2.1 btz1.2.2.2.1).bind fun btz0 => (some (btz0.1, btz0.2.1, btz0.2.2.1, btz0.2.2.2.1, btz0.2.2.2.2))))
theorem spec_anyImage.calls (k : Nat) (g : Nat) (s0_0 : List Int) (s0_1 : Int) (r1 : Int) (r2 : Int) (r3 : Int) (r4 : List Int) (r5 : Int) (w0 w : World) (hI : IsS144 w0 w g s0_0 s0_1) (hB : Below w0.heap.size w0 w) (h : spec_anyImage.f k s0_0 s0_1 = some (r1, r2, r3, r4, r5)) :
  Calls Try.prog 94 #[.pointer (some ⟨g, 0, none⟩)] w fun e w' => ∃ v3_ : Value, e = .returned (.agg #[.int .i64 r1, .int .i64 r2, .int .i64 r3, v3_]) ∧ Kd.Q (Kd.int .i64) 3 w' w.heap.size (fun _ => True) v3_ r4 ∧ IsS144 w0 w' g s0_0 r5 ∧ Below w0.heap.size w0 w' ∧ KeepBut w w' g none := by
 have hu27 := Try.underlying27
 have HI0 := mk hI
 have HK := mk (KeepBut.refl w g none)
 have HL := mk hB.size
 clear hI
 have HW0 := mk hB.size
 have HB := mk hB
 clear hB
 have H : ((spec_anyPlanes.f k s0_0 s0_1).bind fun btz2 => ((spec_randomImage.f k s0_0 btz2.2 btz2.1).bind fun btz1 => ((spec_spoilImage.f k s0_0 btz1.2.2.2.2 btz1.1 btz1.2.1 btz1.2.2.1 btz1.2.2.2.1).bind fun btz0 => (some (btz0.1, btz0.2.1, btz0.2.2.1, btz0.2.2.2.1, btz0.2.2.2.2))))) = some (r1, r2, r3, r4, r5) := h
 clear h
 replace H := Option.bind_eq_some_iff.mp H
 obtain ⟨⟨tz4, tz9⟩, A20, H⟩ := H
 replace H : ((spec_randomImage.f k s0_0 tz9 tz4).bind fun btz1 => ((spec_spoilImage.f k s0_0 btz1.2.2.2.2 btz1.1 btz1.2.1 btz1.2.2.1 btz1.2.2.2.1).bind fun btz0 => (some (btz0.1, btz0.2.1, btz0.2.2.1, btz0.2.2.2.1, btz0.2.2.2.2)))) = some (r1, r2, r3, r4, r5) := H
 have A2 := mk A20
 clear A20
 replace H := Option.bind_eq_some_iff.mp H
 obtain ⟨⟨tz5, tz6, tz7, tz1, tz10⟩, A30, H⟩ := H
 replace H : ((spec_spoilImage.f k s0_0 tz10 tz5 tz6 tz7 tz1).bind fun btz0 => (some (btz0.1, btz0.2.1, btz0.2.2.1, btz0.2.2.2.1, btz0.2.2.2.2))) = some (r1, r2, r3, r4, r5) := H
 have A3 := mk A30
 clear A30
 replace H := Option.bind_eq_some_iff.mp H
 obtain ⟨⟨tz0, tz2, tz3, tz8, tz11⟩, A40, H⟩ := H
 replace H : (some (tz0, tz2, tz3, tz8, tz11)) = some (r1, r2, r3, r4, r5) := H
 have A4 := mk A40
 clear A40
 simp only [Option.some.injEq, Prod.mk.injEq] at H
 obtain ⟨rfl, rfl, rfl, rfl, rfl⟩ := H
 go_enter Try.func94, Try.ntmps94
 go_wp2_with (first | ((with_reducible refine gate_dst (N := 2) rfl ?_); refine box_event (by rfl) (N := 2) (by rfl) (cs := #[.int .i64 0, .int .i64 0, .int .i64 0, .slice none 0 0]) (t := 27) (by go_simp; done) ?_; intro gbz0 hg w5 hbox hb; replace HB := mk (below_step HB.out hb); have BKz0 := mk (hbox); have GWz0 := mk ((by rw [hg]; exact (keep_size (w := w) (g := g) (row := none) HK.out) : w.heap.size ≤ gbz0)); have GEz0 := mk ((Nat.le_trans HW0.out (by rw [hg]; exact (keep_size (w := w) (g := g) (row := none) HK.out) : w.heap.size ≤ gbz0) : w0.heap.size ≤ gbz0)); replace HK := mk (KeepBut.trans HK.out (KeepBut.of_below hb g none) (.inl rfl)); have NBz1 := mk ((by rw [hg]; exact Nat.ne_of_lt (IsS144.lt (show IsS144 w0 _ g s0_0 s0_1 from by exact HI0.out)) : g ≠ gbz0)); have NBz0 := mk ((by rw [hg]; exact Nat.ne_of_gt (IsS144.lt (show IsS144 w0 _ g s0_0 s0_1 from by exact HI0.out)) : gbz0 ≠ g)); replace HI0 := mk (IsS144.below HI0.out hb); clear hb hbox hg) | ((with_reducible refine gate_callee (f := 138) rfl ?_); refine goesL_ (some 6) rfl rfl Try.func138 (by kernel_rfl) rfl #[.pointer (some ⟨g, 0, none⟩)] rfl (by (try simp only [bitvec_to_nat]); rfl) ?_; (with_reducible refine (spec_anyPlanes.calls k g s0_0 s0_1 tz4 tz9 w0 _ ?side1 ?side2 A2.out).mono ?_); (case side1 => repeat (with_reducible exact HI0.out)); (case side2 => repeat (with_reducible exact HB.out)); rintro e w6 ⟨rfl, hi, hb, hk⟩; refine ⟨_, rfl, ?_⟩; replace BKz0 := mk (KeepBut.blk hk (g' := gbz0) (o := .cells #[.int .i64 0, .int .i64 0, .int .i64 0, .slice none 0 0] 27 (0, 0)) BKz0.out NBz0.out (by simp)); replace HK := mk (KeepBut.trans HK.out hk (.inl rfl)); replace HB := mk (hb); replace HI0 := mk (hi); (try clear hb); (try clear hk); (try clear hi)) | ((with_reducible refine gate_callee (f := 137) rfl ?_); refine goesL_ (some 7) rfl rfl Try.func137 (by kernel_rfl) rfl #[.pointer (some ⟨g, 0, none⟩), .int .i64 tz4] rfl (by (try simp only [bitvec_to_nat]); rfl) ?_; (with_reducible refine (spec_randomImage.calls k g s0_0 tz9 tz4 tz5 tz6 tz7 tz1 tz10 w0 _ ?side1 ?side2 A3.out).mono ?_); (case side1 => repeat (with_reducible exact HI0.out)); (case side2 => repeat (with_reducible exact HB.out)); rintro e w7 ⟨vz0, rfl, ho0, hi, hb, hk⟩; refine ⟨_, rfl, ?_⟩; replace BKz0 := mk (KeepBut.blk hk (g' := gbz0) (o := .cells #[.int .i64 0, .int .i64 0, .int .i64 0, .slice none 0 0] 27 (0, 0)) BKz0.out NBz0.out (by simp)); have HOz0 := mk (Kd.R_lower ho0 (keep_size (w := w) (g := g) (row := none) HK.out)); replace HK := mk (KeepBut.trans HK.out hk (.inl rfl)); replace HB := mk (hb); replace HI0 := mk (hi); (try clear hb); (try clear hk); (try clear hi); (try clear ho0); obtain ⟨Ao8, co8, eo8⟩ := Kd.R_slice HOz0.out; subst eo8) | ((with_reducible refine gate_callee (f := 136) rfl ?_); refine goesL_ (some 8) rfl rfl Try.func136 (by kernel_rfl) rfl #[.pointer (some ⟨g, 0, none⟩), .agg #[.int .i64 tz5, .int .i64 tz6, .int .i64 tz7, .slice Ao8 tz1.length co8]] rfl (by (try simp only [bitvec_to_nat]); rfl) ?_; (with_reducible refine (spec_spoilImage.calls k g s0_0 tz10 tz5 tz6 tz7 (fun k_ => some k_ = (.slice Ao8 tz1.length co8 : Value).ownBlock) (.slice Ao8 tz1.length co8) tz1 tz0 tz2 tz3 tz8 tz11 w0 _ ?side1 ?side2 ?side3 A4.out).mono ?_); (case side1 => repeat (with_reducible exact HI0.out)); (case side2 => repeat (with_reducible exact HB.out)); (case side3 => exact Kd.R_lower (Kd.R_tight rfl HOz0.out) HL.out); rintro e w9 ⟨vz1, rfl, ho0, hi, hb, hkp⟩; refine ⟨_, rfl, ?_⟩; have n0_ := mk (hi); have n1_ := mk (blk_kept BKz0.out hkp (fun hs_ => Or.elim hs_ (fun hs_ => (fun e_ => (Kd.R_ne HOz0.out BKz0.out (by decide)) e_) hs_) (fun e_ => NBz0.out e_))); have n2_ := mk (Kd.Q_mono (ok' := fun k_ => True) (qraise (d := (Kd.int .i64)) (b := w0.heap.size) (b' := w.heap.size) (fun _ _ _ _ h_ => h_) ho0 (fun k_ e_ => Or.elim (ho0.1 k_ e_) (fun hs_ => (fun e_ => Kd.R_base HOz0.out k_ e_.symm) hs_) (fun hn_ => Nat.le_trans (keep_size (w := w) (g := g) (row := none) HK.out) hn_))) (fun k_ hk_ => trivial)); have n3_ := mk (Kept.keepG HK.out hkp (fun k_ hs_ => Or.elim hs_ (fun hs_ => (fun e_ => .inr (Kd.R_base HOz0.out k_ e_.symm)) hs_) (fun e_ => .inl e_))); have n4_ := mk (hb); clear HI0; clear BKz0; clear HK; clear HB; clear HOz0; have HI0 := n0_; have BKz0 := n1_; have HOz1 := n2_; have HK := n3_; have HB := n4_; (try clear hb); (try clear hkp); (try clear ho0); obtain ⟨hcz11_0, hcz11_1, hcz11_2, hcz11_3, hfz11_0, hfz11_1, hfz11_2, hfz11_3⟩ := c4 BKz0.out; obtain ⟨Ao12, co12, eo12, _⟩ := Kd.Q_slice HOz1.out; subst eo12))
 refine bodyPost_ret (results_cell_row rfl _ _ gbz0 27 #[.int .i64 tz0, .int .i64 tz2, .int .i64 tz3, .slice Ao12 tz8.length co12] (0, 0) _ rfl (by refine blk_put (cs := #[.int .i64 tz0, .int .i64 tz2, .int .i64 tz3, .slice none 0 0]) ?_ 3 _ rfl; refine blk_put (cs := #[.int .i64 tz0, .int .i64 tz2, .int .i64 0, .slice none 0 0]) ?_ 2 _ rfl; refine blk_put (cs := #[.int .i64 tz0, .int .i64 0, .int .i64 0, .slice none 0 0]) ?_ 1 _ rfl; refine blk_put (cs := #[.int .i64 0, .int .i64 0, .int .i64 0, .slice none 0 0]) ?_ 0 _ rfl; exact BKz0.out) Try.underlying27 rfl (by kernel_rfl)) rfl ?_
 exact ⟨_, by rfl, by exact Kd.Q_mono (Kd.Q_far (p := ⟨gbz0, 3, none⟩) (Kd.Q_far (p := ⟨gbz0, 2, none⟩) (Kd.Q_far (p := ⟨gbz0, 1, none⟩) (Kd.Q_far (p := ⟨gbz0, 0, none⟩) (Kd.Q_types HOz1.out BKz0.out (by decide)) (fun _ hk => hk.2) (.int .i64 tz0)) (fun _ hk => hk.2) (.int .i64 tz2)) (fun _ hk => hk.2) (.int .i64 tz3)) (fun _ hk => hk.2) (.slice Ao12 tz8.length co12)) (fun _ hk => trivial), by repeat (with_reducible first | exact HI0.out | refine IsS144.far ?_ NBz1.out _), by repeat (with_reducible first | exact HB.out | refine below_set ?_ GEz0.out), by repeat (with_reducible first | exact HK.out | refine keep_far ?_ GWz0.out _)⟩

end Go.Proofs.Ytnofkbbcbpjhfaa.Q
